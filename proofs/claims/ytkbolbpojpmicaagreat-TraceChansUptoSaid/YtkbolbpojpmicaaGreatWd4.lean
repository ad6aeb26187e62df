/-
  Texts TpT Q0 Q16a Q14a Q14b Q14c Q14d Q14v Q17a Q17e Q17f Q0i Q17g Q17b Q16b Q16c Q16d Q16e Q16f P21a P21b P21c Q14i Q17c Q17d P20a. Conditions: as each theorem says.
-/
import Derived.Test.YtkbolbpojpmicaaGreatWd1
import Derived.Test.YtkbolbpojpmicaaGreatChecked
import Derived.Test.YtkbolbpojpmicaaGreatWd3
import Derived.Test.YtkbolbpojpmicaaGreatWd2
set_option linter.unusedVariables false
set_option linter.unusedSimpArgs false
set_option maxRecDepth 100000
set_option maxHeartbeats 4000000
namespace Go.Proofs.YtkbolbpojpmicaaGreat
open Go Go.Tp
abbrev zS_:Value:= .slice none 0 0
abbrev zB_:Value:= .int .u8 0
abbrev zI_:Value:= .int .i64 0
abbrev fd_(n:String)(t o:Nat)(p:String)(b:Nat):Field:=⟨n,t,o,false, "",p,b⟩
abbrev tf_(a b:Array Nat):TI:=⟨.func a b false,1,8,[.nilFunc],false⟩
theorem tk_{P:Program}{t:Nat}{d:TypeDesc}{sz bt:Nat}{zs:List Value}{ag:Bool}(hu:P.underlying t=some d:=by kernel_rfl)(hi:(P.info? t).map (fun i=>(i.zero.map fun z=>z.cells.toList,i.size,i.bytes))=some (some zs,sz,bt):=by kernel_rfl)(ha:isAggD d=ag:=by exact rfl)(hl:Nat.beq zs.length sz=true:=by exact rfl):TI.Ok P t ⟨d,sz,bt,zs,ag⟩:=TI.mk_ok hu hi ha hl
def ty2:TI:=⟨(.int IntKind.i64),1,8,[zI_],false⟩
def ty3:TI:=⟨(.int IntKind.i64),1,8,[zI_],false⟩
def ty4:TI:=⟨TypeDesc.bool,1,1,[(Value.bool false)],false⟩
def ty5:TI:=⟨(.int IntKind.u8),1,1,[zB_],false⟩
def ty9:TI:=⟨TypeDesc.string,1,16,[(Value.string {data:= #[]})],false⟩
def ty12:TI:=⟨(.int IntKind.u64),1,8,[(Value.int IntKind.u64 0)],false⟩
def ty13:TI:=⟨(.struct #[fd_ "msg" 9 0 "runtime" 0,fd_ "addr" 12 1 "runtime" 16]),2,24,[(Value.string {data:= #[]}),(Value.int IntKind.u64 0)],true⟩
def ty20:TI:=⟨(.interface #[]),1,16,[Value.nilIface],false⟩
def ty21:TI:=⟨(.int IntKind.i32),1,4,[(Value.int IntKind.i32 0)],false⟩
def ty22:TI:=⟨(.slice 118),1,24,[zS_],false⟩
def ty23:TI:=⟨(.slice 119),1,24,[zS_],false⟩
def ty24:TI:=⟨(.int IntKind.u8),1,1,[zB_],false⟩
def ty25:TI:=⟨(.int IntKind.u8),1,1,[zB_],false⟩
def ty26:TI:=⟨(.slice 107),1,24,[zS_],false⟩
def ty27:TI:=⟨(.slice 105),1,24,[zS_],false⟩
def ty28:TI:=⟨(.slice 109),1,24,[zS_],false⟩
def ty29:TI:=⟨(.slice 31),1,24,[zS_],false⟩
def ty30:TI:=⟨(.struct #[fd_ "Kind" 24 0 "" 0,fd_ "C" 3 1 "" 8,fd_ "V" 3 2 "" 16,fd_ "Item" 25 3 "" 24,fd_ "To" 26 4 "" 32,fd_ "E" 27 5 "" 56,fd_ "Guards" 28 6 "" 80,fd_ "L" 29 7 "" 104]),8,128,[zB_,zI_,zI_,zB_,zS_,zS_,zS_,zS_],true⟩
def ty31:TI:=⟨(.struct #[fd_ "Kind" 24 0 "" 0,fd_ "C" 3 1 "" 8,fd_ "V" 3 2 "" 16,fd_ "Item" 25 3 "" 24,fd_ "To" 26 4 "" 32,fd_ "E" 27 5 "" 56,fd_ "Guards" 28 6 "" 80,fd_ "L" 29 7 "" 104]),8,128,[zB_,zI_,zI_,zB_,zS_,zS_,zS_,zS_],true⟩
def ty32:TI:=⟨(.slice 3),1,24,[zS_],false⟩
def ty33:TI:=⟨(.struct #[fd_ "Vars" 22 0 "" 0,fd_ "Chans" 23 1 "" 24,fd_ "Root" 31 2 "" 48,fd_ "Procs" 32 10 "" 176]),11,200,[zS_,zS_,zB_,zI_,zI_,zB_,zS_,zS_,zS_,zS_,zS_],true⟩
def ty34:TI:=⟨(.struct #[fd_ "Vars" 22 0 "" 0,fd_ "Chans" 23 1 "" 24,fd_ "Root" 31 2 "" 48,fd_ "Procs" 32 10 "" 176]),11,200,[zS_,zS_,zB_,zI_,zI_,zB_,zS_,zS_,zS_,zS_,zS_],true⟩
def ty35:TI:=⟨(.slice 83),1,24,[zS_],false⟩
def ty38:TI:=⟨(.int IntKind.i64),1,8,[zI_],false⟩
def ty43:TI:=⟨(.slice 56),1,24,[zS_],false⟩
def ty56:TI:=⟨(.slice 62),1,24,[zS_],false⟩
def ty59:TI:=⟨(.slice 35),1,24,[zS_],false⟩
def ty62:TI:=⟨(.slice 21),1,24,[zS_],false⟩
def ty64:TI:=⟨(.slice 5),1,24,[zS_],false⟩
def ty65:TI:=⟨(.struct #[fd_ "P" 64 0 "" 0,fd_ "Fuel" 3 1 "" 24]),2,32,[zS_,zI_],true⟩
def ty66:TI:=⟨(.struct #[fd_ "P" 64 0 "" 0,fd_ "Fuel" 3 1 "" 24]),2,32,[zS_,zI_],true⟩
def ty67:TI:=⟨(.struct #[fd_ "Store" 56 0 "" 0,fd_ "Root" 31 1 "" 24,fd_ "In" 62 9 "" 152,fd_ "Time" 21 10 "" 176]),11,184,[zS_,zB_,zI_,zI_,zB_,zS_,zS_,zS_,zS_,zS_,(Value.int IntKind.i32 0)],true⟩
def ty68:TI:=⟨(.struct #[fd_ "Store" 56 0 "" 0,fd_ "Root" 31 1 "" 24,fd_ "In" 62 9 "" 152,fd_ "Time" 21 10 "" 176]),11,184,[zS_,zB_,zI_,zI_,zB_,zS_,zS_,zS_,zS_,zS_,(Value.int IntKind.i32 0)],true⟩
def ty72:TI:=⟨(.struct #[fd_ "In" 62 0 "" 0,fd_ "P" 64 1 "" 24,fd_ "Q" 64 2 "" 48]),3,72,[zS_,zS_,zS_],true⟩
def ty73:TI:=⟨(.struct #[fd_ "In" 62 0 "" 0,fd_ "P" 64 1 "" 24,fd_ "Q" 64 2 "" 48]),3,72,[zS_,zS_,zS_],true⟩
def ty82:TI:=⟨(.struct #[fd_ "C" 3 0 "" 0,fd_ "V" 21 1 "" 8]),2,16,[zI_,(Value.int IntKind.i32 0)],true⟩
def ty83:TI:=⟨(.struct #[fd_ "C" 3 0 "" 0,fd_ "V" 21 1 "" 8]),2,16,[zI_,(Value.int IntKind.i32 0)],true⟩
def ty84:TI:=⟨(.slice 95),1,24,[zS_],false⟩
def ty85:TI:=⟨(.map 9 3),1,8,[(Value.map none)],false⟩
def ty86:TI:=⟨(.struct #[fd_ "reach" 3 0 "transputer/trace" 0,fd_ "ends" 84 1 "transputer/trace" 8,fd_ "keys" 85 2 "transputer/trace" 32,fd_ "missing" 4 3 "transputer/trace" 40]),4,48,[zI_,zS_,(Value.map none),(Value.bool false)],true⟩
def ty87:TI:=⟨(.struct #[fd_ "reach" 3 0 "transputer/trace" 0,fd_ "ends" 84 1 "transputer/trace" 8,fd_ "keys" 85 2 "transputer/trace" 32,fd_ "missing" 4 3 "transputer/trace" 40]),4,48,[zI_,zS_,(Value.map none),(Value.bool false)],true⟩
def ty90:TI:=⟨(.slice 100),1,24,[zS_],false⟩
def ty91:TI:=⟨(.struct #[fd_ "Reach" 3 0 "" 0,fd_ "Ends" 90 1 "" 8,fd_ "Missing" 4 2 "" 32]),3,40,[zI_,zS_,(Value.bool false)],true⟩
def ty92:TI:=⟨(.struct #[fd_ "Reach" 3 0 "" 0,fd_ "Ends" 90 1 "" 8,fd_ "Missing" 4 2 "" 32]),3,40,[zI_,zS_,(Value.bool false)],true⟩
def ty94:TI:=⟨(.struct #[fd_ "n" 3 0 "transputer/trace" 0,fd_ "s" 56 1 "transputer/trace" 8]),2,32,[zI_,zS_],true⟩
def ty95:TI:=⟨(.struct #[fd_ "n" 3 0 "transputer/trace" 0,fd_ "s" 56 1 "transputer/trace" 8]),2,32,[zI_,zS_],true⟩
def ty99:TI:=⟨(.struct #[fd_ "N" 3 0 "" 0,fd_ "S" 56 1 "" 8]),2,32,[zI_,zS_],true⟩
def ty100:TI:=⟨(.struct #[fd_ "N" 3 0 "" 0,fd_ "S" 56 1 "" 8]),2,32,[zI_,zS_],true⟩
def ty101:TI:=⟨(.int IntKind.u8),1,1,[zB_],false⟩
def ty102:TI:=⟨(.int IntKind.u8),1,1,[zB_],false⟩
def ty103:TI:=⟨(.int IntKind.u8),1,1,[zB_],false⟩
def ty104:TI:=⟨(.struct #[fd_ "Kind" 102 0 "" 0,fd_ "Oper" 103 1 "" 1,fd_ "To" 25 2 "" 2,fd_ "N" 21 3 "" 4,fd_ "V" 3 4 "" 8,fd_ "L" 27 5 "" 16]),6,40,[zB_,zB_,zB_,(Value.int IntKind.i32 0),zI_,zS_],true⟩
def ty105:TI:=⟨(.struct #[fd_ "Kind" 102 0 "" 0,fd_ "Oper" 103 1 "" 1,fd_ "To" 25 2 "" 2,fd_ "N" 21 3 "" 4,fd_ "V" 3 4 "" 8,fd_ "L" 27 5 "" 16]),6,40,[zB_,zB_,zB_,(Value.int IntKind.i32 0),zI_,zS_],true⟩
def ty106:TI:=⟨(.struct #[fd_ "V" 3 0 "" 0,fd_ "Index" 27 1 "" 8]),2,32,[zI_,zS_],true⟩
def ty107:TI:=⟨(.struct #[fd_ "V" 3 0 "" 0,fd_ "Index" 27 1 "" 8]),2,32,[zI_,zS_],true⟩
def ty108:TI:=⟨(.struct #[fd_ "Kind" 101 0 "" 0,fd_ "Cond" 105 1 "" 8,fd_ "C" 3 7 "" 48,fd_ "Item" 25 8 "" 56,fd_ "To" 107 9 "" 64,fd_ "Time" 105 11 "" 96,fd_ "Body" 29 17 "" 136]),18,160,[zB_,zB_,zB_,zB_,(Value.int IntKind.i32 0),zI_,zS_,zI_,zB_,zI_,zS_,zB_,zB_,zB_,(Value.int IntKind.i32 0),zI_,zS_,zS_],true⟩
def ty109:TI:=⟨(.struct #[fd_ "Kind" 101 0 "" 0,fd_ "Cond" 105 1 "" 8,fd_ "C" 3 7 "" 48,fd_ "Item" 25 8 "" 56,fd_ "To" 107 9 "" 64,fd_ "Time" 105 11 "" 96,fd_ "Body" 29 17 "" 136]),18,160,[zB_,zB_,zB_,zB_,(Value.int IntKind.i32 0),zI_,zS_,zI_,zB_,zI_,zS_,zB_,zB_,zB_,(Value.int IntKind.i32 0),zI_,zS_,zS_],true⟩
def ty117:TI:=⟨(.struct #[fd_ "Kind" 25 0 "" 0,fd_ "Dim" 3 1 "" 8]),2,16,[zB_,zI_],true⟩
def ty118:TI:=⟨(.struct #[fd_ "Kind" 25 0 "" 0,fd_ "Dim" 3 1 "" 8]),2,16,[zB_,zI_],true⟩
def ty119:TI:=⟨(.int IntKind.u8),1,1,[zB_],false⟩
def ty121:TI:=⟨(.struct #[fd_ "k" 34 0 "transputer/transputerref16" 0,fd_ "deep" 3 11 "transputer/transputerref16" 200,fd_ "high" 4 12 "transputer/transputerref16" 208]),13,216,[zS_,zS_,zB_,zI_,zI_,zB_,zS_,zS_,zS_,zS_,zS_,zI_,(Value.bool false)],true⟩
def ty122:TI:=⟨(.struct #[fd_ "k" 34 0 "transputer/transputerref16" 0,fd_ "deep" 3 11 "transputer/transputerref16" 200,fd_ "high" 4 12 "transputer/transputerref16" 208]),13,216,[zS_,zS_,zB_,zI_,zI_,zB_,zS_,zS_,zS_,zS_,zS_,zI_,(Value.bool false)],true⟩
def ty127:TI:=⟨(.int IntKind.u8),1,1,[zB_],false⟩
def ty128:TI:=⟨(.struct #[fd_ "V" 3 0 "" 0,fd_ "I" 3 1 "" 8]),2,16,[zI_,zI_],true⟩
def ty129:TI:=⟨(.struct #[fd_ "V" 3 0 "" 0,fd_ "I" 3 1 "" 8]),2,16,[zI_,zI_],true⟩
def ty130:TI:=⟨(.struct #[fd_ "Path" 32 0 "" 0,fd_ "A" 3 1 "" 24,fd_ "B" 3 2 "" 32,fd_ "Kind" 127 3 "" 40,fd_ "Elem" 129 4 "" 48,fd_ "C" 3 6 "" 64]),7,72,[zS_,zI_,zI_,zB_,zI_,zI_,zI_],true⟩
def ty131:TI:=⟨(.struct #[fd_ "Path" 32 0 "" 0,fd_ "A" 3 1 "" 24,fd_ "B" 3 2 "" 32,fd_ "Kind" 127 3 "" 40,fd_ "Elem" 129 4 "" 48,fd_ "C" 3 6 "" 64]),7,72,[zS_,zI_,zI_,zB_,zI_,zI_,zI_],true⟩
def ty136:TI:=⟨(.struct #[fd_ "t" 35 0 "transputer/explore" 0,fd_ "s" 68 1 "transputer/explore" 24]),12,208,[zS_,zS_,zB_,zI_,zI_,zB_,zS_,zS_,zS_,zS_,zS_,(Value.int IntKind.i32 0)],true⟩
def ty137:TI:=⟨(.struct #[fd_ "t" 35 0 "transputer/explore" 0,fd_ "s" 68 1 "transputer/explore" 24]),12,208,[zS_,zS_,zB_,zI_,zI_,zB_,zS_,zS_,zS_,zS_,zS_,(Value.int IntKind.i32 0)],true⟩
def ty140:TI:=⟨(.slice 137),1,24,[zS_],false⟩
def ty141:TI:=⟨(.struct #[fd_ "l" 140 0 "transputer/explore" 0,fd_ "same" 139 1 "transputer/explore" 24]),2,32,[zS_,Value.nilFunc],true⟩
def ty142:TI:=⟨(.struct #[fd_ "l" 140 0 "transputer/explore" 0,fd_ "same" 139 1 "transputer/explore" 24]),2,32,[zS_,Value.nilFunc],true⟩
def ty146:TI:=⟨(.slice 150),1,24,[zS_],false⟩
def ty148:TI:=⟨(.int IntKind.u8),1,1,[zB_],false⟩
def ty149:TI:=⟨(.struct #[fd_ "Kind" 148 0 "" 0,fd_ "Event" 83 1 "" 8,fd_ "Next" 68 3 "" 24]),14,208,[zB_,zI_,(Value.int IntKind.i32 0),zS_,zB_,zI_,zI_,zB_,zS_,zS_,zS_,zS_,zS_,(Value.int IntKind.i32 0)],true⟩
def ty150:TI:=⟨(.struct #[fd_ "Kind" 148 0 "" 0,fd_ "Event" 83 1 "" 8,fd_ "Next" 68 3 "" 24]),14,208,[zB_,zI_,(Value.int IntKind.i32 0),zS_,zB_,zI_,zI_,zB_,zS_,zS_,zS_,zS_,zS_,(Value.int IntKind.i32 0)],true⟩
def ty158:TI:=⟨(.struct #[fd_ "t" 35 0 "transputer/trace" 0,fd_ "open" 32 1 "transputer/trace" 24,fd_ "fuel" 3 2 "transputer/trace" 48]),3,56,[zS_,zS_,zI_],true⟩
def ty159:TI:=⟨(.struct #[fd_ "t" 35 0 "transputer/trace" 0,fd_ "open" 32 1 "transputer/trace" 24,fd_ "fuel" 3 2 "transputer/trace" 48]),3,56,[zS_,zS_,zI_],true⟩
def ty167:TI:=⟨(.int IntKind.u64),1,8,[(Value.int IntKind.u64 0)],false⟩
def ty179:TI:=⟨(.func #[32] #[3] true),1,8,[Value.nilFunc],false⟩
def ty183:TI:=⟨(.pointer 142),1,8,[(Value.pointer none)],false⟩
def ty186:TI:=⟨(.pointer 188),1,8,[(Value.pointer none)],false⟩
def ty187:TI:=⟨(.struct #[fd_ "s" 68 0 "transputer/step" 0]),11,184,[zS_,zB_,zI_,zI_,zB_,zS_,zS_,zS_,zS_,zS_,(Value.int IntKind.i32 0)],true⟩
def ty188:TI:=⟨(.struct #[fd_ "s" 68 0 "transputer/step" 0]),11,184,[zS_,zB_,zI_,zI_,zB_,zS_,zS_,zS_,zS_,zS_,(Value.int IntKind.i32 0)],true⟩
def ty189:TI:=⟨(.slice 192),1,24,[zS_],false⟩
def ty191:TI:=⟨(.struct #[fd_ "kind" 5 0 "transputer/step" 0,fd_ "store" 56 1 "transputer/step" 8,fd_ "c" 3 2 "transputer/step" 32,fd_ "v" 3 3 "transputer/step" 40,fd_ "i" 3 4 "transputer/step" 48,fd_ "item" 25 5 "transputer/step" 56,fd_ "value" 21 6 "transputer/step" 60,fd_ "next" 31 7 "transputer/step" 64,fd_ "root" 185 15 "transputer/step" 192,fd_ "path" 32 16 "transputer/step" 200]),17,224,[zB_,zS_,zI_,zI_,zI_,zB_,(Value.int IntKind.i32 0),zB_,zI_,zI_,zB_,zS_,zS_,zS_,zS_,Value.nilFunc,zS_],true⟩
def ty192:TI:=⟨(.struct #[fd_ "kind" 5 0 "transputer/step" 0,fd_ "store" 56 1 "transputer/step" 8,fd_ "c" 3 2 "transputer/step" 32,fd_ "v" 3 3 "transputer/step" 40,fd_ "i" 3 4 "transputer/step" 48,fd_ "item" 25 5 "transputer/step" 56,fd_ "value" 21 6 "transputer/step" 60,fd_ "next" 31 7 "transputer/step" 64,fd_ "root" 185 15 "transputer/step" 192,fd_ "path" 32 16 "transputer/step" 200]),17,224,[zB_,zS_,zI_,zI_,zI_,zB_,(Value.int IntKind.i32 0),zB_,zI_,zI_,zB_,zS_,zS_,zS_,zS_,Value.nilFunc,zS_],true⟩
def ty205:TI:=⟨(.pointer 207),1,8,[(Value.pointer none)],false⟩
def ty206:TI:=⟨(.struct #[{name:= "Kernel",type:=34,offset:=0,embedded:=true,tag:= "",pkgPath:= "",byteOffset:=0},fd_ "left" 3 11 "transputer/kernel" 200]),12,208,[zS_,zS_,zB_,zI_,zI_,zB_,zS_,zS_,zS_,zS_,zS_,zI_],true⟩
def ty207:TI:=⟨(.struct #[{name:= "Kernel",type:=34,offset:=0,embedded:=true,tag:= "",pkgPath:= "",byteOffset:=0},fd_ "left" 3 11 "transputer/kernel" 200]),12,208,[zS_,zS_,zB_,zI_,zI_,zB_,zS_,zS_,zS_,zS_,zS_,zI_],true⟩
def ty227:TI:=⟨(.int IntKind.i64),1,8,[zI_],false⟩
def ty234:TI:=⟨(.int IntKind.u32),1,4,[(Value.int IntKind.u32 0)],false⟩
def ty236:TI:=⟨(.int IntKind.u64),1,8,[(Value.int IntKind.u64 0)],false⟩
def ty244:TI:=⟨(.array 2 3),2,16,[zI_,zI_],true⟩
def ty245:TI:=⟨(.struct #[fd_ "c" 4 0 "transputer/transputerref16" 0,fd_ "v" 4 1 "transputer/transputerref16" 1,fd_ "item" 4 2 "transputer/transputerref16" 2,fd_ "to" 244 3 "transputer/transputerref16" 8,fd_ "e" 244 5 "transputer/transputerref16" 24,fd_ "guards" 244 7 "transputer/transputerref16" 40,fd_ "seq" 244 9 "transputer/transputerref16" 56]),11,72,[(Value.bool false),(Value.bool false),(Value.bool false),zI_,zI_,zI_,zI_,zI_,zI_,zI_,zI_],true⟩
def ty246:TI:=⟨(.struct #[fd_ "c" 4 0 "transputer/transputerref16" 0,fd_ "v" 4 1 "transputer/transputerref16" 1,fd_ "item" 4 2 "transputer/transputerref16" 2,fd_ "to" 244 3 "transputer/transputerref16" 8,fd_ "e" 244 5 "transputer/transputerref16" 24,fd_ "guards" 244 7 "transputer/transputerref16" 40,fd_ "seq" 244 9 "transputer/transputerref16" 56]),11,72,[(Value.bool false),(Value.bool false),(Value.bool false),zI_,zI_,zI_,zI_,zI_,zI_,zI_,zI_],true⟩
def ty259:TI:=⟨(.slice 262),1,24,[zS_],false⟩
def ty260:TI:=⟨(.slice 129),1,24,[zS_],false⟩
def ty261:TI:=⟨(.struct #[fd_ "Reads" 260 0 "" 0,fd_ "Writes" 260 1 "" 24,fd_ "Ins" 32 2 "" 48,fd_ "Outs" 32 3 "" 72]),4,96,[zS_,zS_,zS_,zS_],true⟩
def ty262:TI:=⟨(.struct #[fd_ "Reads" 260 0 "" 0,fd_ "Writes" 260 1 "" 24,fd_ "Ins" 32 2 "" 48,fd_ "Outs" 32 3 "" 72]),4,96,[zS_,zS_,zS_,zS_],true⟩
def ty264:TI:=⟨(.slice 131),1,24,[zS_],false⟩
def ty281:TI:=⟨(.func #[338] #[29] true),1,8,[Value.nilFunc],false⟩
def ty282:TI:=⟨(.struct #[fd_ "k" 34 0 "transputer/step" 0,fd_ "left" 3 11 "transputer/step" 200]),12,208,[zS_,zS_,zB_,zI_,zI_,zB_,zS_,zS_,zS_,zS_,zS_,zI_],true⟩
def ty283:TI:=⟨(.struct #[fd_ "k" 34 0 "transputer/step" 0,fd_ "left" 3 11 "transputer/step" 200]),12,208,[zS_,zS_,zB_,zI_,zI_,zB_,zS_,zS_,zS_,zS_,zS_,zI_],true⟩
def ty294:TI:=⟨(.pointer 87),1,8,[(Value.pointer none)],false⟩
def ty298:TI:=⟨(.slice 32),1,24,[zS_],false⟩
def ty299:TI:=⟨(.slice 302),1,24,[zS_],false⟩
def ty300:TI:=⟨(.map 3 43),1,8,[(Value.map none)],false⟩
def ty301:TI:=⟨(.struct #[fd_ "chans" 32 0 "transputer/trace" 0,fd_ "at" 300 1 "transputer/trace" 24,fd_ "reach" 3 2 "transputer/trace" 32,fd_ "n" 3 3 "transputer/trace" 40]),4,48,[zS_,(Value.map none),zI_,zI_],true⟩
def ty302:TI:=⟨(.struct #[fd_ "chans" 32 0 "transputer/trace" 0,fd_ "at" 300 1 "transputer/trace" 24,fd_ "reach" 3 2 "transputer/trace" 32,fd_ "n" 3 3 "transputer/trace" 40]),4,48,[zS_,(Value.map none),zI_,zI_],true⟩
def ty308:TI:=⟨(.slice 310),1,24,[zS_],false⟩
def ty309:TI:=⟨(.struct #[fd_ "Chans" 32 0 "" 0,fd_ "R" 92 1 "" 24]),4,64,[zS_,zI_,zS_,(Value.bool false)],true⟩
def ty310:TI:=⟨(.struct #[fd_ "Chans" 32 0 "" 0,fd_ "R" 92 1 "" 24]),4,64,[zS_,zI_,zS_,(Value.bool false)],true⟩
def ty311:TI:=⟨(.slice 43),1,24,[zS_],false⟩
def ty315:TI:=⟨(.int IntKind.u64),1,8,[(Value.int IntKind.u64 0)],false⟩
def ty319:TI:=⟨(.pointer 3),1,8,[(Value.pointer none)],false⟩
def ty325:TI:=⟨(.pointer 327),1,8,[(Value.pointer none)],false⟩
def ty326:TI:=⟨(.struct #[fd_ "vars" 22 0 "transputer/usage" 0,fd_ "u" 262 1 "transputer/usage" 24]),5,120,[zS_,zS_,zS_,zS_,zS_],true⟩
def ty327:TI:=⟨(.struct #[fd_ "vars" 22 0 "transputer/usage" 0,fd_ "u" 262 1 "transputer/usage" 24]),5,120,[zS_,zS_,zS_,zS_,zS_],true⟩
def ty338:TI:=⟨(.slice 29),1,24,[zS_],false⟩
def ty341:TI:=⟨(.pointer 283),1,8,[(Value.pointer none)],false⟩
def ty345:TI:=⟨(.map 24 74),1,8,[(Value.map none)],false⟩
def ty354:TI:=⟨(.pointer 315),1,8,[(Value.pointer none)],false⟩
def ty386:TI:=⟨(.int IntKind.u64),1,8,[(Value.int IntKind.u64 0)],false⟩
def ty410:TI:=⟨(.slice 386),1,24,[zS_],false⟩
def ty411:TI:=⟨(.func #[420] #[386] true),1,8,[Value.nilFunc],false⟩
def ty420:TI:=⟨(.slice 25),1,24,[zS_],false⟩
def ty432:TI:=⟨(.pointer 5),1,8,[(Value.pointer none)],false⟩
def tt:TT:=(.node 218 (tf_ #[31,56] #[217]) (.node 114 (tf_ #[32,3] #[32]) (.node 62 ty62 (.node 36 (tf_ #[34,35,3] #[4]) (.node 23 ty23 (.node 9 ty9 (.node 3 ty3 (.node 1 (tf_ #[] #[]) (.node 0 ⟨(.tuple #[]),1,0,[(Value.tuple #[])],false⟩ .leaf .leaf) (.node 2 ty2 .leaf .leaf)) (.node 5 ty5 (.node 4 ty4 .leaf .leaf) .leaf)) (.node 20 ty20 (.node 13 ty13 (.node 12 ty12 .leaf .leaf) .leaf) (.node 22 ty22 (.node 21 ty21 .leaf .leaf) .leaf))) (.node 30 ty30 (.node 27 ty27 (.node 25 ty25 (.node 24 ty24 .leaf .leaf) (.node 26 ty26 .leaf .leaf)) (.node 29 ty29 (.node 28 ty28 .leaf .leaf) .leaf)) (.node 33 ty33 (.node 32 ty32 (.node 31 ty31 .leaf .leaf) .leaf) (.node 35 ty35 (.node 34 ty34 .leaf .leaf) .leaf)))) (.node 49 (tf_ #[31] #[3]) (.node 43 ty43 (.node 40 (tf_ #[34,35,3] #[4,38]) (.node 38 ty38 (.node 37 (tf_ #[] #[4]) .leaf .leaf) (.node 39 ⟨(.tuple #[4,38]),1,0,[(Value.tuple #[(Value.bool false),zI_])],false⟩ .leaf .leaf)) (.node 42 (tf_ #[34,35,3] #[4,3]) (.node 41 ⟨(.tuple #[4,3]),1,0,[(Value.tuple #[(Value.bool false),zI_])],false⟩ .leaf .leaf) .leaf)) (.node 46 ⟨(.tuple #[43,3]),1,0,[(Value.tuple #[zS_,zI_])],false⟩ (.node 45 (tf_ #[34,35,3] #[43,38]) (.node 44 ⟨(.tuple #[43,38]),1,0,[(Value.tuple #[zS_,zI_])],false⟩ .leaf .leaf) .leaf) (.node 48 (tf_ #[43,43] #[4]) (.node 47 (tf_ #[34,35,3] #[43,3]) .leaf .leaf) .leaf))) (.node 56 ty56 (.node 53 (tf_ #[31,35] #[4]) (.node 51 (tf_ #[35,32] #[35]) (.node 50 (tf_ #[31] #[32]) .leaf .leaf) (.node 52 (tf_ #[35,35] #[4]) .leaf .leaf)) (.node 55 (tf_ #[34,56] #[4]) (.node 54 (tf_ #[34] #[4]) .leaf .leaf) .leaf)) (.node 59 ty59 (.node 58 (tf_ #[31,3] #[3]) (.node 57 (tf_ #[56,56] #[4]) .leaf .leaf) .leaf) (.node 61 (tf_ #[34,62,3,3] #[59,38]) (.node 60 ⟨(.tuple #[59,38]),1,0,[(Value.tuple #[zS_,zI_])],false⟩ .leaf .leaf) .leaf))))) (.node 88 ⟨(.tuple #[87,38]),1,0,[(Value.tuple #[(Value.agg #[zI_,zS_,(Value.map none),(Value.bool false)]),zI_])],false⟩ (.node 75 (tf_ #[62,62] #[4]) (.node 69 ⟨(.tuple #[35,68,38]),1,0,[(Value.tuple #[zS_,(Value.agg #[zS_,zB_,zI_,zI_,zB_,zS_,zS_,zS_,zS_,zS_,(Value.int IntKind.i32 0)]),zI_])],false⟩ (.node 66 ty66 (.node 64 ty64 (.node 63 (tf_ #[35] #[62]) .leaf .leaf) (.node 65 ty65 .leaf .leaf)) (.node 68 ty68 (.node 67 ty67 .leaf .leaf) .leaf)) (.node 72 ty72 (.node 71 (tf_ #[34,62,66] #[4]) (.node 70 (tf_ #[34,62,64] #[35,68,38]) .leaf .leaf) .leaf) (.node 74 (tf_ #[31] #[4]) (.node 73 ty73 .leaf .leaf) .leaf))) (.node 82 ty82 (.node 79 (tf_ #[34,73] #[4]) (.node 77 (tf_ #[34,68] #[4]) (.node 76 (tf_ #[35,3] #[62]) .leaf .leaf) (.node 78 (tf_ #[68,68] #[4]) .leaf .leaf)) (.node 81 (tf_ #[] #[34]) (.node 80 (tf_ #[34,35,3] #[3]) .leaf .leaf) .leaf)) (.node 85 ty85 (.node 84 ty84 (.node 83 ty83 .leaf .leaf) .leaf) (.node 87 ty87 (.node 86 ty86 .leaf .leaf) .leaf)))) (.node 101 ty101 (.node 95 ty95 (.node 92 ty92 (.node 90 ty90 (.node 89 (tf_ #[34,35,3] #[87,38]) .leaf .leaf) (.node 91 ty91 .leaf .leaf)) (.node 94 ty94 (.node 93 (tf_ #[34,35,3] #[92]) .leaf .leaf) .leaf)) (.node 98 (tf_ #[56,56] #[3]) (.node 97 (tf_ #[43,98] #[]) (.node 96 (tf_ #[56,3,3,21] #[56]) .leaf .leaf) .leaf) (.node 100 ty100 (.node 99 ty99 .leaf .leaf) .leaf))) (.node 108 ty108 (.node 105 ty105 (.node 103 ty103 (.node 102 ty102 .leaf .leaf) (.node 104 ty104 .leaf .leaf)) (.node 107 ty107 (.node 106 ty106 .leaf .leaf) .leaf)) (.node 111 (tf_ #[3] #[]) (.node 110 (tf_ #[31,111] #[]) (.node 109 ty109 .leaf .leaf) .leaf) (.node 113 (tf_ #[32] #[32]) (.node 112 (tf_ #[32] #[]) .leaf .leaf) .leaf)))))) (.node 166 (tf_ #[167] #[3]) (.node 140 ty140 (.node 127 ty127 (.node 121 ty121 (.node 118 ty118 (.node 116 (tf_ #[25] #[4]) (.node 115 (tf_ #[32,3] #[4]) .leaf .leaf) (.node 117 ty117 .leaf .leaf)) (.node 120 (tf_ #[122,31,3] #[3]) (.node 119 ty119 .leaf .leaf) .leaf)) (.node 124 (tf_ #[118] #[3]) (.node 123 (tf_ #[22] #[4]) (.node 122 ty122 .leaf .leaf) .leaf) (.node 126 (tf_ #[25,21] #[21,4]) (.node 125 ⟨(.tuple #[21,4]),1,0,[(Value.tuple #[(Value.int IntKind.i32 0),(Value.bool false)])],false⟩ .leaf .leaf) .leaf))) (.node 134 (tf_ #[68] #[4]) (.node 131 ty131 (.node 129 ty129 (.node 128 ty128 .leaf .leaf) (.node 130 ty130 .leaf .leaf)) (.node 133 (tf_ #[34] #[131,4,38]) (.node 132 ⟨(.tuple #[131,4,38]),1,0,[(Value.tuple #[(Value.agg #[zS_,zI_,zI_,zB_,zI_,zI_,zI_]),(Value.bool false),zI_])],false⟩ .leaf .leaf) .leaf)) (.node 137 ty137 (.node 136 ty136 (.node 135 (tf_ #[34,3,3] #[38]) .leaf .leaf) .leaf) (.node 139 (tf_ #[137,137] #[4]) (.node 138 (tf_ #[35,35] #[3]) .leaf .leaf) .leaf)))) (.node 153 (tf_ #[59,138] #[]) (.node 147 (tf_ #[34,68] #[146]) (.node 144 (tf_ #[137] #[3,4]) (.node 142 ty142 (.node 141 ty141 .leaf .leaf) (.node 143 ⟨(.tuple #[3,4]),1,0,[(Value.tuple #[zI_,(Value.bool false)])],false⟩ .leaf .leaf)) (.node 146 ty146 (.node 145 (tf_ #[34,62] #[137]) .leaf .leaf) .leaf)) (.node 150 ty150 (.node 149 ty149 (.node 148 ty148 .leaf .leaf) .leaf) (.node 152 (tf_ #[35] #[35]) (.node 151 (tf_ #[35,150] #[35]) .leaf .leaf) .leaf))) (.node 160 (tf_ #[31,56] #[87]) (.node 157 (tf_ #[31,31] #[4]) (.node 155 ⟨(.tuple #[68,38]),1,0,[(Value.tuple #[(Value.agg #[zS_,zB_,zI_,zI_,zB_,zS_,zS_,zS_,zS_,zS_,(Value.int IntKind.i32 0)]),zI_])],false⟩ (.node 154 (tf_ #[59,52] #[59]) .leaf .leaf) (.node 156 (tf_ #[34,62] #[68,38]) .leaf .leaf)) (.node 159 ty159 (.node 158 ty158 .leaf .leaf) .leaf)) (.node 163 (tf_ #[62] #[62]) (.node 162 (tf_ #[31,56,35,32,3] #[92]) (.node 161 (tf_ #[34] #[56]) .leaf .leaf) .leaf) (.node 165 (tf_ #[43,3,3,3,98] #[]) (.node 164 (tf_ #[56,3,3] #[21,4]) .leaf .leaf) .leaf))))) (.node 192 ty192 (.node 179 ty179 (.node 173 (tf_ #[255] #[]) (.node 170 (tf_ #[34,31] #[4]) (.node 168 (tf_ #[62,62] #[3]) (.node 167 ty167 .leaf .leaf) (.node 169 (tf_ #[32,3,3,3] #[]) .leaf .leaf)) (.node 172 (tf_ #[255] #[]) (.node 171 (tf_ #[21,4] #[21,4]) .leaf .leaf) .leaf)) (.node 176 (tf_ #[21] #[105]) (.node 175 (tf_ #[3,105] #[31]) (.node 174 (tf_ #[34] #[173]) .leaf .leaf) .leaf) (.node 178 (tf_ #[35,35,182] #[3]) (.node 177 (tf_ #[3,3] #[31]) .leaf .leaf) .leaf))) (.node 186 ty186 (.node 183 ty183 (.node 181 (tf_ #[21,21] #[3]) (.node 180 (tf_ #[3,3] #[3]) .leaf .leaf) (.node 182 (tf_ #[83,83] #[3]) .leaf .leaf)) (.node 185 (tf_ #[31] #[31]) (.node 184 (tf_ #[59,3,3,3,138] #[]) .leaf .leaf) .leaf)) (.node 189 ty189 (.node 188 ty188 (.node 187 ty187 .leaf .leaf) .leaf) (.node 191 ty191 (.node 190 (tf_ #[] #[189]) .leaf .leaf) .leaf)))) (.node 205 ty205 (.node 199 (tf_ #[107,107] #[4]) (.node 196 (tf_ #[56,56,75] #[4]) (.node 194 (tf_ #[25,21] #[4]) (.node 193 (tf_ #[148,83,56,31,62] #[150]) .leaf .leaf) (.node 195 (tf_ #[21,21] #[4]) .leaf .leaf)) (.node 198 (tf_ #[26,26,199] #[4]) (.node 197 (tf_ #[62,62,195] #[4]) .leaf .leaf) .leaf)) (.node 202 (tf_ #[28,28,203] #[4]) (.node 201 (tf_ #[105,105] #[4]) (.node 200 (tf_ #[27,27,201] #[4]) .leaf .leaf) .leaf) (.node 204 (tf_ #[29,29,157] #[4]) (.node 203 (tf_ #[109,109] #[4]) .leaf .leaf) .leaf))) (.node 212 (tf_ #[3,25,107,56] #[56,4]) (.node 209 (tf_ #[56] #[87]) (.node 207 ty207 (.node 206 ty206 .leaf .leaf) (.node 208 (tf_ #[31,3,4] #[4]) .leaf .leaf)) (.node 211 (tf_ #[31,56] #[56,4]) (.node 210 ⟨(.tuple #[56,4]),1,0,[(Value.tuple #[zS_,(Value.bool false)])],false⟩ .leaf .leaf) .leaf)) (.node 215 (tf_ #[29,56] #[87]) (.node 214 (tf_ #[56,105] #[21,4]) (.node 213 (tf_ #[3,87] #[]) .leaf .leaf) .leaf) (.node 217 (tf_ #[297] #[]) (.node 216 (tf_ #[297] #[]) .leaf .leaf) .leaf))))))) (.node 322 (tf_ #[32,3,3,3,319] #[3]) (.node 270 (tf_ #[59,3,3,138] #[3,227]) (.node 244 ty244 (.node 231 (tf_ #[43,3,3,3,98] #[3]) (.node 225 (tf_ #[] #[92]) (.node 222 (tf_ #[3,25,107,56,35,32] #[56,4]) (.node 220 (tf_ #[56,3] #[56]) (.node 219 (tf_ #[56] #[92]) .leaf .leaf) (.node 221 (tf_ #[31,56] #[92]) .leaf .leaf)) (.node 224 (tf_ #[29,56,35,32,3] #[92]) (.node 223 (tf_ #[3,92] #[92]) .leaf .leaf) .leaf)) (.node 228 ⟨(.tuple #[3,227]),1,0,[(Value.tuple #[zI_,zI_])],false⟩ (.node 227 ty227 (.node 226 (tf_ #[43,3,3,98] #[]) .leaf .leaf) .leaf) (.node 230 (tf_ #[43,3,3,98] #[4]) (.node 229 (tf_ #[43,3,3,98] #[3,227]) .leaf .leaf) .leaf))) (.node 238 (tf_ #[32,3,3] #[3,227]) (.node 235 (tf_ #[236] #[3]) (.node 233 (tf_ #[234] #[3]) (.node 232 (tf_ #[43,3,3,3,98] #[3,4]) .leaf .leaf) (.node 234 ty234 .leaf .leaf)) (.node 237 (tf_ #[32,3,3] #[]) (.node 236 ty236 .leaf .leaf) .leaf)) (.node 241 (tf_ #[32,3,3,3] #[3]) (.node 240 (tf_ #[3,3] #[4]) (.node 239 (tf_ #[32,3,3] #[4]) .leaf .leaf) .leaf) (.node 243 (tf_ #[32,3] #[3]) (.node 242 (tf_ #[32,3,3,3] #[3,4]) .leaf .leaf) .leaf)))) (.node 257 (tf_ #[323] #[]) (.node 251 (tf_ #[22,105,25] #[4]) (.node 248 (tf_ #[24] #[246,4]) (.node 246 ty246 (.node 245 ty245 .leaf .leaf) (.node 247 ⟨(.tuple #[246,4]),1,0,[(Value.tuple #[(Value.agg #[(Value.bool false),(Value.bool false),(Value.bool false),zI_,zI_,zI_,zI_,zI_,zI_,zI_,zI_]),(Value.bool false)])],false⟩ .leaf .leaf)) (.node 250 (tf_ #[22,107,25] #[4]) (.node 249 (tf_ #[3,244] #[4]) .leaf .leaf) .leaf)) (.node 254 (tf_ #[34,24,109] #[4]) (.node 253 (tf_ #[34,3,25,105] #[4]) (.node 252 (tf_ #[34,3,25,107] #[4]) .leaf .leaf) .leaf) (.node 256 (tf_ #[323] #[]) (.node 255 (tf_ #[131] #[4]) .leaf .leaf) .leaf))) (.node 264 ty264 (.node 261 ty261 (.node 259 ty259 (.node 258 (tf_ #[31,32] #[257]) .leaf .leaf) (.node 260 ty260 .leaf .leaf)) (.node 263 (tf_ #[22,31] #[262]) (.node 262 ty262 .leaf .leaf) .leaf)) (.node 267 (tf_ #[3] #[4]) (.node 266 (tf_ #[] #[31]) (.node 265 (tf_ #[262,262,131] #[264]) .leaf .leaf) .leaf) (.node 269 (tf_ #[59,3,3,138] #[]) (.node 268 (tf_ #[21] #[4]) .leaf .leaf) .leaf))))) (.node 296 (tf_ #[3] #[159]) (.node 283 ty283 (.node 277 (tf_ #[105] #[105]) (.node 274 (tf_ #[26,275] #[26]) (.node 272 (tf_ #[59,3,3,3,138] #[3]) (.node 271 (tf_ #[59,3,3,138] #[4]) .leaf .leaf) (.node 273 (tf_ #[59,3,3,3,138] #[3,4]) .leaf .leaf)) (.node 276 (tf_ #[27,277] #[27]) (.node 275 (tf_ #[107] #[107]) .leaf .leaf) .leaf)) (.node 280 (tf_ #[109] #[109]) (.node 279 (tf_ #[28,280] #[28]) (.node 278 (tf_ #[29,185] #[29]) .leaf .leaf) .leaf) (.node 282 ty282 (.node 281 ty281 .leaf .leaf) .leaf))) (.node 290 (tf_ #[24] #[74]) (.node 287 (tf_ #[31,32] #[286]) (.node 285 (tf_ #[342] #[]) (.node 284 (tf_ #[31,3,4,4] #[4]) .leaf .leaf) (.node 286 (tf_ #[342] #[]) .leaf .leaf)) (.node 289 (tf_ #[31,32,31] #[31]) (.node 288 (tf_ #[31] #[189]) .leaf .leaf) .leaf)) (.node 293 (tf_ #[56,107] #[3,3,4]) (.node 292 ⟨(.tuple #[3,3,4]),1,0,[(Value.tuple #[zI_,zI_,(Value.bool false)])],false⟩ (.node 291 (tf_ #[95] #[]) .leaf .leaf) .leaf) (.node 295 (tf_ #[105] #[4]) (.node 294 ty294 .leaf .leaf) .leaf)))) (.node 309 ty309 (.node 303 (tf_ #[299,3,56] #[]) (.node 300 ty300 (.node 298 ty298 (.node 297 (tf_ #[3,87] #[4]) .leaf .leaf) (.node 299 ty299 .leaf .leaf)) (.node 302 ty302 (.node 301 ty301 .leaf .leaf) .leaf)) (.node 306 (tf_ #[118] #[4]) (.node 305 (tf_ #[22,306] #[4]) (.node 304 (tf_ #[299,3] #[4]) .leaf .leaf) .leaf) (.node 308 ty308 (.node 307 (tf_ #[92,92] #[92]) .leaf .leaf) .leaf))) (.node 316 (tf_ #[3] #[167]) (.node 313 (tf_ #[90,100] #[90]) (.node 311 ty311 (.node 310 ty310 .leaf .leaf) (.node 312 (tf_ #[308,3,32] #[311]) .leaf .leaf)) (.node 315 ty315 (.node 314 (tf_ #[56,43] #[56]) .leaf .leaf) .leaf)) (.node 319 ty319 (.node 318 (tf_ #[43,3,319,98] #[3]) (.node 317 (tf_ #[] #[236]) .leaf .leaf) .leaf) (.node 321 (tf_ #[32,3,319] #[3]) (.node 320 (tf_ #[43,3,3,3,319,98] #[3]) .leaf .leaf) .leaf)))))) (.node 374 (tf_ #[21,21] #[21]) (.node 348 (tf_ #[103,21,21] #[21,4]) (.node 335 (tf_ #[32,32] #[32]) (.node 329 (tf_ #[260,330] #[260]) (.node 326 ty326 (.node 324 (tf_ #[29] #[29]) (.node 323 (tf_ #[32,31] #[4]) .leaf .leaf) (.node 325 ty325 .leaf .leaf)) (.node 328 (tf_ #[31] #[]) (.node 327 ty327 .leaf .leaf) .leaf)) (.node 332 (tf_ #[127,260] #[]) (.node 331 (tf_ #[32,180] #[32]) (.node 330 (tf_ #[129,129] #[3]) .leaf .leaf) .leaf) (.node 334 (tf_ #[260,260] #[260]) (.node 333 (tf_ #[127,32] #[]) .leaf .leaf) .leaf))) (.node 342 (tf_ #[31,32] #[4]) (.node 339 (tf_ #[29,3] #[29]) (.node 337 (tf_ #[59,3,3,3,319,138] #[3]) (.node 336 (tf_ #[59,3,319,138] #[3]) .leaf .leaf) (.node 338 ty338 .leaf .leaf)) (.node 341 ty341 (.node 340 (tf_ #[62,268] #[4]) .leaf .leaf) .leaf)) (.node 345 ty345 (.node 344 (tf_ #[3,25,107,31] #[189]) (.node 343 (tf_ #[56,31] #[189]) .leaf .leaf) .leaf) (.node 347 (tf_ #[105,3] #[4]) (.node 346 (tf_ #[] #[9]) .leaf .leaf) .leaf)))) (.node 361 (tf_ #[260] #[260]) (.node 355 ⟨(.tuple #[3,3]),1,0,[(Value.tuple #[zI_,zI_])],false⟩ (.node 352 (tf_ #[56,3,2] #[21,4]) (.node 350 (tf_ #[56,56,56] #[56]) (.node 349 (tf_ #[3,56] #[]) .leaf .leaf) (.node 351 (tf_ #[22,306] #[3]) .leaf .leaf)) (.node 354 ty354 (.node 353 (tf_ #[105,3,3] #[3]) .leaf .leaf) .leaf)) (.node 358 (tf_ #[107] #[]) (.node 357 (tf_ #[32,3,3,319] #[3,3]) (.node 356 (tf_ #[43,3,3,319,98] #[3,3]) .leaf .leaf) .leaf) (.node 360 (tf_ #[260,330] #[]) (.node 359 (tf_ #[105] #[]) .leaf .leaf) .leaf))) (.node 368 (tf_ #[105,25] #[4]) (.node 365 (tf_ #[28] #[28]) (.node 363 (tf_ #[59,3,3,319,138] #[3,3]) (.node 362 (tf_ #[32,180] #[]) .leaf .leaf) (.node 364 (tf_ #[62,268] #[3]) .leaf .leaf)) (.node 367 (tf_ #[107,25] #[4]) (.node 366 (tf_ #[31,4,4,244,244,244,244] #[4]) .leaf .leaf) .leaf)) (.node 371 (tf_ #[28,373] #[4]) (.node 370 (tf_ #[3,25,3] #[4]) (.node 369 (tf_ #[3,25,107] #[4]) .leaf .leaf) .leaf) (.node 373 (tf_ #[109] #[4]) (.node 372 (tf_ #[109,4] #[4]) .leaf .leaf) .leaf))))) (.node 400 (tf_ #[32,3,3,180] #[]) (.node 387 (tf_ #[105] #[386]) (.node 381 (tf_ #[3,105] #[129]) (.node 378 (tf_ #[2] #[21]) (.node 376 (tf_ #[2] #[21,4]) (.node 375 (tf_ #[103] #[374]) .leaf .leaf) (.node 377 (tf_ #[21,21] #[21,4]) .leaf .leaf)) (.node 380 (tf_ #[4] #[21,4]) (.node 379 (tf_ #[103,21,21] #[21]) .leaf .leaf) .leaf)) (.node 384 ⟨(.tuple #[167,167]),1,0,[(Value.tuple #[(Value.int IntKind.u64 0),(Value.int IntKind.u64 0)])],false⟩ (.node 383 (tf_ #[32,3,3,3,180] #[]) (.node 382 (tf_ #[260,3,3,3,330] #[]) .leaf .leaf) .leaf) (.node 386 ty386 (.node 385 (tf_ #[167,167] #[167,167]) .leaf .leaf) .leaf))) (.node 394 (tf_ #[103,2,2] #[2]) (.node 391 (tf_ #[4] #[21]) (.node 389 (tf_ #[109,4,4] #[4]) (.node 388 (tf_ #[28,373] #[3]) .leaf .leaf) (.node 390 (tf_ #[103] #[195]) .leaf .leaf)) (.node 393 (tf_ #[21] #[2]) (.node 392 (tf_ #[2] #[4]) .leaf .leaf) .leaf)) (.node 397 (tf_ #[260,3,3,330] #[4]) (.node 396 (tf_ #[260,3,3,330] #[3,227]) (.node 395 (tf_ #[260,3,3,330] #[]) .leaf .leaf) .leaf) (.node 399 (tf_ #[260,3,3,3,330] #[3,4]) (.node 398 (tf_ #[260,3,3,3,330] #[3]) .leaf .leaf) .leaf)))) (.node 413 (tf_ #[21] #[386]) (.node 407 ⟨(.tuple #[236,236]),1,0,[(Value.tuple #[(Value.int IntKind.u64 0),(Value.int IntKind.u64 0)])],false⟩ (.node 404 (tf_ #[32,3,3,3,180] #[3,4]) (.node 402 (tf_ #[32,3,3,180] #[4]) (.node 401 (tf_ #[32,3,3,180] #[3,227]) .leaf .leaf) (.node 403 (tf_ #[32,3,3,3,180] #[3]) .leaf .leaf)) (.node 406 (tf_ #[234,234] #[234,234]) (.node 405 ⟨(.tuple #[234,234]),1,0,[(Value.tuple #[(Value.int IntKind.u32 0),(Value.int IntKind.u32 0)])],false⟩ .leaf .leaf) .leaf)) (.node 410 ty410 (.node 409 (tf_ #[27,295] #[4]) (.node 408 (tf_ #[236,236] #[236,236]) .leaf .leaf) .leaf) (.node 412 (tf_ #[4,25] #[386]) (.node 411 ty411 .leaf .leaf) .leaf))) (.node 419 (tf_ #[27,295] #[3]) (.node 416 (tf_ #[260,3,3,3,319,330] #[3]) (.node 415 (tf_ #[260,3,319,330] #[3]) (.node 414 (tf_ #[236] #[21,4]) .leaf .leaf) .leaf) (.node 418 (tf_ #[32,3,3,3,319,180] #[3]) (.node 417 (tf_ #[32,3,319,180] #[3]) .leaf .leaf) .leaf)) (.node 422 (tf_ #[32,3,3,319,180] #[3,3]) (.node 421 (tf_ #[260,3,3,319,330] #[3,3]) (.node 420 ty420 .leaf .leaf) .leaf) (.node 432 ty432 (.node 428 (tf_ #[] #[3]) .leaf .leaf) .leaf))))))))
theorem tt_ok:tt.Ok Tryz.prog:=by repeat (first|exact trivial|exact tk_|refine ⟨?_,?_,?_⟩)
abbrev gs0:Ua:=[]
abbrev AI32(n:Int):AV:= .v (.int .i32 n)
abbrev AI(n:Int):AV:= .v (.int .i64 n)
abbrev AU8(n:Int):AV:= .v (.int .u8 n)
abbrev AB(b:Bool):AV:= .v (.bool b)
abbrev optA(x:Option Int):AV:= .tp [AI32 (x.getD 0),AB x.isSome]
theorem Sb.eq{x y:AV}(h:x=y):Sb x y:=by subst h;exact .refl
theorem ai32_eq{a b:Int}(h:a=b):AI32 a=AI32 b:=by rw [h]
theorem ai_eq{a b:Int}(h:a=b):AI a=AI b:=by rw [h]
theorem ab_eq{a b:Bool}(h:a=b):AB a=AB b:=by rw [h]
theorem ab_iff{a b:Bool}(h:a=true↔b=true):AB a=AB b:=by rw [Bool.eq_iff_iff.2 h]
theorem map_at{α β:Type}{f:α->β}{l:List α}{i:Nat}{x:α}(h:l[i]? =some x):(l.map f)[i]? =some (f x):=by rw [List.getElem?_map,h];rfl
theorem at_ex{α:Type}{l:List α}{i:Int}(h0:0<=i)(h1:i<l.length): ∃x,l[i.toNat]? =some x:=⟨l[i.toNat]'(by omega),List.getElem?_eq_getElem _⟩
theorem at_exN{α:Type}{l:List α}{i:Nat}(h1:i<l.length): ∃x,l[i]? =some x:=⟨l[i]'h1,List.getElem?_eq_getElem _⟩
theorem at_none{α:Type}{l:List α}{i:Int}(h1:(l.length:Int)<=i):l[i.toNat]? =none:=List.getElem?_eq_none (by omega)
def w32(n:Int):Int:=IntKind.i32.wrap n
theorem w32_eq(n:Int):IntKind.i32.wrap n=(n+2147483648) % 4294967296-2147483648:=IntKind.wrap_i32 n
theorem wu32_eq(n:Int):IntKind.u32.wrap n=n % 4294967296:=by
 simp [IntKind.wrap,IntKind.signed,IntKind.bits]
theorem wu64_eq(n:Int):IntKind.u64.wrap n=n % 18446744073709551616:=by
 simp [IntKind.wrap,IntKind.signed,IntKind.bits]
theorem w32_id{n:Int}(h:i32 n):IntKind.i32.wrap n=n:=wr32 n h
theorem w64_id{n:Int}(h:i64 n):IntKind.i64.wrap n=n:=wr64 n h
theorem w64_32{n:Int}(h:i32 n):IntKind.i64.wrap n=n:=wr64 n (by unfold i32 at h;omega)
theorem w32_in(n:Int):i32 (IntKind.i32.wrap n):=by unfold i32;rw [w32_eq];omega
theorem inc_eq(i:Nat)(h:i<4611686018427387904):AV.v (.int .i64 (IntKind.i64.wrap ((i:Int)+1)))=AI ((i+1:Nat):Int):=by
 rw [wr64 _ (by omega)];rfl
mutual
def encK:KE->AV
 |⟨k,o,t,n,v,l⟩=> .ag [AU8 k,AU8 o,AU8 t,AI32 n,AI v, .sl 6 (encKl l) none]
def encKl:List KE->List AV
 | []=>[]
 |e::r=>encK e::encKl r
end
theorem encK_eq(e:KE):encK e= .ag [AU8 e.kind,AU8 e.oper,AU8 e.to,AI32 e.n,AI e.v, .sl 6 (encKl e.l) none]:=by obtain ⟨k,o,t,n,v,l⟩:=e;rw [encK]
theorem encKl_map(l:List KE):encKl l=l.map encK:=by
 induction l with
 |nil=>rw [encKl];rfl
 |cons x r ih=>rw [encKl,ih];rfl
mutual
def wfK:KE->Prop
 |⟨k,o,t,n,v,l⟩=>(u8 k/\u8 o/\u8 t/\i32 n/\i64 v)/\wfKl l
def wfKl:List KE->Prop
 | []=>True
 |e::r=>wfK e/\wfKl r
end
def shapeB(e:KE):Bool:=
 if e.kind=1 then e.oper==0&&e.to==0&&e.v==0&&e.l.length==0
 else if e.kind=2 then e.oper==0&&e.to==0&&e.n==0&&decide (0<=e.v)&&decide (e.v<=255)&&e.l.length==0
 else if e.kind=3 then e.oper==0&&e.to==0&&e.n==0&&decide (0<=e.v)&&decide (e.v<=255)&&e.l.length==1
 else if e.kind=4 then decide (23<=e.oper)&&decide (e.oper<=26)&&e.to==0&&e.n==0&&e.v==0&&e.l.length==1
 else if e.kind=5 then decide (1<=e.oper)&&decide (e.oper<=22)&&e.to==0&&e.n==0&&e.v==0&&e.l.length==2
 else if e.kind=6 then e.oper==0&&decide (1<=e.to)&&decide (e.to<=3)&&e.n==0&&e.v==0&&e.l.length==1
 else false
mutual
def sz:KE->Nat
 |⟨_,_,_,_,_,l⟩=>1+szl l
def szl:List KE->Nat
 | []=>0
 |e::r=>sz e+szl r
end
mutual
def ht:KE->Nat
 |⟨_,_,_,_,_,l⟩=>1+htl l
def htl:List KE->Nat
 | []=>0
 |e::r=>max (ht e) (htl r)
end
mutual
def fine:KE->Bool
 |⟨k,o,t,n,v,l⟩=>shapeB ⟨k,o,t,n,v,l⟩&&finel l
def finel:List KE->Bool
 | []=>true
 |e::r=>fine e&&finel r
end
theorem shape_cases{e:KE}(h:shapeB e=true):(∃k o t n v,e=⟨k,o,t,n,v,[]⟩)\/(∃k o t n v a,e=⟨k,o,t,n,v,[a]⟩)\/(∃k o t n v a b,e=⟨k,o,t,n,v,[a,b]⟩):=by
 obtain ⟨k,o,t,n,v,l⟩:=e
 match l with
 | []=>exact .inl ⟨k,o,t,n,v,rfl⟩
 | [a]=>exact .inr (.inl ⟨k,o,t,n,v,a,rfl⟩)
 | [a,b]=>exact .inr (.inr ⟨k,o,t,n,v,a,b,rfl⟩)
 |a::b::c::r=>
  simp only [shapeB,KE.kind,KE.oper,KE.to,KE.n,KE.v,KE.l,List.length_cons] at h
  exfalso
  revert h
  (repeat' split)<;>simp<;>omega
theorem shape_full{e:KE}(h:shapeB e=true):(∃n,e=⟨1,0,0,n,0,[]⟩)\/(∃v,0<=v/\v<=255/\e=⟨2,0,0,0,v,[]⟩)\/(∃v a,0<=v/\v<=255/\e=⟨3,0,0,0,v,[a]⟩)\/
 (∃o a,23<=o/\o<=26/\e=⟨4,o,0,0,0,[a]⟩)\/(∃o a b,1<=o/\o<=22/\e=⟨5,o,0,0,0,[a,b]⟩)\/(∃t a,1<=t/\t<=3/\e=⟨6,0,t,0,0,[a]⟩):=by
 obtain ⟨k,o,t,n,v,l⟩:=e
 have h1:=h
 simp only [shapeB,KE.kind,KE.oper,KE.to,KE.n,KE.v,KE.l] at h1
 have l0:l.length=0->l=[]:=fun h=>List.length_eq_zero_iff.1 h
 have l1:l.length=1-> ∃a,l=[a]:=fun h=>by
  match l,h with
  | [a],_=>exact ⟨a,rfl⟩
 have l2:l.length=2-> ∃a b,l=[a,b]:=fun h=>by
  match l,h with
  | [a,b],_=>exact ⟨a,b,rfl⟩
 split at h1
 ·subst_vars;simp at h1;obtain ⟨⟨⟨rfl,rfl⟩,rfl⟩,rfl⟩:=h1;exact .inl ⟨n,rfl⟩
 split at h1
 ·subst_vars;simp at h1;obtain ⟨⟨⟨⟨⟨rfl,rfl⟩,rfl⟩,h3⟩,h4⟩,rfl⟩:=h1;exact .inr (.inl ⟨v,h3,h4,rfl⟩)
 split at h1
 ·subst_vars;simp at h1;obtain ⟨⟨⟨⟨⟨rfl,rfl⟩,rfl⟩,h3⟩,h4⟩,hl⟩:=h1;obtain ⟨a,rfl⟩:=l1 hl;exact .inr (.inr (.inl ⟨v,a,h3,h4,rfl⟩))
 split at h1
 ·subst_vars;simp at h1;obtain ⟨⟨⟨⟨⟨h3,h4⟩,rfl⟩,rfl⟩,rfl⟩,hl⟩:=h1;obtain ⟨a,rfl⟩:=l1 hl;exact .inr (.inr (.inr (.inl ⟨o,a,h3,h4,rfl⟩)))
 split at h1
 ·subst_vars;simp at h1;obtain ⟨⟨⟨⟨⟨h3,h4⟩,rfl⟩,rfl⟩,rfl⟩,hl⟩:=h1;obtain ⟨a,b,rfl⟩:=l2 hl;exact .inr (.inr (.inr (.inr (.inl ⟨o,a,b,h3,h4,rfl⟩))))
 split at h1
 ·subst_vars;simp at h1;obtain ⟨⟨⟨⟨⟨rfl,h3⟩,h4⟩,rfl⟩,rfl⟩,hl⟩:=h1;obtain ⟨a,rfl⟩:=l1 hl;exact .inr (.inr (.inr (.inr (.inr ⟨t,a,h3,h4,rfl⟩))))
 ·cases h1
theorem fine_shape{e:KE}(h:fine e=true):shapeB e=true:=by obtain ⟨k,o,t,n,v,l⟩:=e;simp only [fine,Bool.and_eq_true] at h;exact h.1
theorem fine_cases{e:KE}(h:fine e=true):(∃n,e=⟨1,0,0,n,0,[]⟩)\/(∃v,0<=v/\v<=255/\e=⟨2,0,0,0,v,[]⟩)\/(∃v a,0<=v/\v<=255/\fine a=true/\e=⟨3,0,0,0,v,[a]⟩)\/
 (∃o a,23<=o/\o<=26/\fine a=true/\e=⟨4,o,0,0,0,[a]⟩)\/(∃o a b,1<=o/\o<=22/\fine a=true/\fine b=true/\e=⟨5,o,0,0,0,[a,b]⟩)\/(∃t a,1<=t/\t<=3/\fine a=true/\e=⟨6,0,t,0,0,[a]⟩):=by
 rcases shape_full (fine_shape h) with ⟨n,rfl⟩|⟨v,h1,h2,rfl⟩|⟨v,a,h1,h2,rfl⟩|⟨o,a,h1,h2,rfl⟩|⟨o,a,b,h1,h2,rfl⟩|⟨t,a,h1,h2,rfl⟩
 ·exact .inl ⟨n,rfl⟩
 ·exact .inr (.inl ⟨v,h1,h2,rfl⟩)
 ·simp [fine,finel] at h;exact .inr (.inr (.inl ⟨v,a,h1,h2,h.2,rfl⟩))
 ·simp [fine,finel] at h;exact .inr (.inr (.inr (.inl ⟨o,a,h1,h2,h.2,rfl⟩)))
 ·simp [fine,finel] at h;exact .inr (.inr (.inr (.inr (.inl ⟨o,a,b,h1,h2,h.2.1,h.2.2,rfl⟩))))
 ·simp [fine,finel] at h;exact .inr (.inr (.inr (.inr (.inr ⟨t,a,h1,h2,h.2,rfl⟩))))
theorem sz_pos(e:KE):1<=sz e:=by obtain ⟨k,o,t,n,v,l⟩:=e;simp only [sz];omega
theorem ht_pos(e:KE):1<=ht e:=by obtain ⟨k,o,t,n,v,l⟩:=e;simp only [ht];omega
def fits(e:KE)(room deep:Int):Prop:=fine e=true/\(sz e:Int)<=room/\(ht e:Int)<=deep
instance (e:KE) (room deep:Int):Decidable (fits e room deep):=by unfold fits;infer_instance
abbrev valid(e:KE):Prop:=fits e 256 32
theorem fits_not{e:KE}{r d:Int}(h:r<1\/d<1\/shapeB e=false): ¬fits e r d:=by
 rintro ⟨h1,h2,h3⟩
 have:=sz_pos e
 have:=ht_pos e
 rcases h with h|h|h
 ·omega
 ·omega
 ·rw [fine_shape h1] at h;cases h
theorem fits0{k o t n v:Int}{room deep:Int}(hs:shapeB ⟨k,o,t,n,v,[]⟩=true):fits ⟨k,o,t,n,v,[]⟩ room deep↔1<=room/\1<=deep:=by
 simp only [fits,fine,finel,hs,sz,szl,ht,htl,Bool.true_and,true_and];omega
theorem fits1{k o t n v:Int}{a:KE}{room deep:Int}(hs:shapeB ⟨k,o,t,n,v,[a]⟩=true):fits ⟨k,o,t,n,v,[a]⟩ room deep↔fits a (room-1) (deep-1):=by
 simp only [fits,fine,finel,hs,sz,szl,ht,htl,Bool.true_and,Bool.and_true]
 constructor
 ·rintro ⟨h1,h2,h3⟩;exact ⟨h1,by omega,by omega⟩
 ·rintro ⟨h1,h2,h3⟩;exact ⟨h1,by omega,by omega⟩
theorem fits2{k o t n v:Int}{a b:KE}{room deep:Int}(hs:shapeB ⟨k,o,t,n,v,[a,b]⟩=true):fits ⟨k,o,t,n,v,[a,b]⟩ room deep↔fits a (room-1) (deep-1)/\fits b (room-(1+sz a)) (deep-1):=by
 simp only [fits,fine,finel,hs,sz,szl,ht,htl,Bool.true_and,Bool.and_true,Bool.and_eq_true]
 have:=sz_pos b
 constructor
 ·rintro ⟨h1,h2,h3⟩;exact ⟨⟨h1.1,by omega,by omega⟩,⟨h1.2,by omega,by omega⟩⟩
 ·rintro ⟨⟨h1,h2,h3⟩,⟨h4,h5,h6⟩⟩;exact ⟨⟨h1,h4⟩,by omega,by omega⟩
theorem wfK1{k o t n v:Int}{a:KE}(h:wfK ⟨k,o,t,n,v,[a]⟩):wfK a:=by simp only [wfK,wfKl] at h;exact h.2.1
theorem wfK2{k o t n v:Int}{a b:KE}(h:wfK ⟨k,o,t,n,v,[a,b]⟩):wfK a/\wfK b:=by simp only [wfK,wfKl] at h;exact ⟨h.2.1,h.2.2.1⟩
theorem ht_eq(e:KE):ht e=1+htl e.l:=by obtain ⟨k,o,t,n,v,l⟩:=e;rw [ht]
def fitB(n:Int):Bool:=decide (-2147483648<=n)&&decide (n<2147483648)
theorem w32_fit(n:Int):(IntKind.i32.wrap n==n)=fitB n:=by
 rw [Bool.eq_iff_iff];simp [fitB];rw [w32_eq];omega
def fit32(n:Int):Option Int:=if fitB n then some n else none
theorem reduce_p(t:Int)(ht:i64 t):Pure Tryz.prog gs0 393 [AI t] (.tp [AI32 (w32 t),AB (!fitB t)]):=by
 refine p_ tt_ok Tryz.func393 11 fun w0 h0 F hgs=>?_
 refine y_ ?_;refine q_ ?_
 refine Sb.eq ?_
 have h1:IntKind.i64.wrap (IntKind.i32.wrap t)=IntKind.i32.wrap t:=w64_32 (w32_in t)
 rw [h1,<-w32_fit];rfl
theorem wadd_p(a b:Int)(ha:i32 a)(hb:i32 b):Pure Tryz.prog gs0 350 [AI32 a,AI32 b] (.tp [AI32 (w32 (a+b)),AB (!fitB (a+b))]):=by
 have h:i64 (a+b):=by unfold i32 at ha hb;unfold i64;omega
 refine p_ tt_ok Tryz.func350 14 fun w0 h0 F hgs=>?_
 refine y_ ?_
 refine A.valE 10 rfl (x':=AI (a+b)) (by rw [w64_32 ha,w64_32 hb,w64_id h]) ?_
 refine c_ (reduce_p _ h) ?_;refine q_ ?_;exact .refl
theorem wsub_p(a b:Int)(ha:i32 a)(hb:i32 b):Pure Tryz.prog gs0 351 [AI32 a,AI32 b] (.tp [AI32 (w32 (a-b)),AB (!fitB (a-b))]):=by
 have h:i64 (a-b):=by unfold i32 at ha hb;unfold i64;omega
 refine p_ tt_ok Tryz.func351 14 fun w0 h0 F hgs=>?_
 refine y_ ?_
 refine A.valE 10 rfl (x':=AI (a-b)) (by rw [w64_32 ha,w64_32 hb,w64_id h]) ?_
 refine c_ (reduce_p _ h) ?_;refine q_ ?_;exact .refl
theorem mul_bound{a b:Int}(ha:i32 a)(hb:i32 b):i64 (a*b):=by
 unfold i32 at ha hb;unfold i64
 have h1:a.natAbs<=2147483648:=by omega
 have h2:b.natAbs<=2147483648:=by omega
 have h3:(a*b).natAbs<=2147483648*2147483648:=by rw [Int.natAbs_mul];exact Nat.mul_le_mul h1 h2
 omega
theorem wmul_p(a b:Int)(ha:i32 a)(hb:i32 b):Pure Tryz.prog gs0 352 [AI32 a,AI32 b] (.tp [AI32 (w32 (a*b)),AB (!fitB (a*b))]):=by
 have h:i64 (a*b):=mul_bound ha hb
 refine p_ tt_ok Tryz.func352 14 fun w0 h0 F hgs=>?_
 refine y_ ?_
 refine A.valE 10 rfl (x':=AI (a*b)) (by rw [w64_32 ha,w64_32 hb,w64_id h]) ?_
 refine c_ (reduce_p _ h) ?_;refine q_ ?_;exact .refl
def divB(a b:Int):Bool:=b==0||(a== -2147483648&&b== -1)
def divM(a b:Int):Int:=if divB a b then 0 else a.tdiv b
theorem tdiv_in{a b:Int}(ha:i32 a)(hb:divB a b=false):i32 (a.tdiv b):=by
 unfold i32 at ha⊢
 simp [divB] at hb
 have h1:(a.tdiv b).natAbs<=a.natAbs:=by rw [Int.natAbs_tdiv];exact Nat.div_le_self _ _
 by_cases h:a= -2147483648
 ·subst h
  have hb1:b≠ -1:=hb.2 rfl
  by_cases h2:b=1
  ·subst h2;decide
  ·have:(Int.tdiv (-2147483648) b).natAbs<=1073741824:=by
    rw [Int.natAbs_tdiv]
    have:2<=b.natAbs:=by omega
    calc (Int.natAbs (-2147483648)) / b.natAbs<=2147483648 / 2:=Nat.div_le_div (by decide) this (by decide)
     _=1073741824:=by decide
   omega
 ·omega
theorem wdiv_p(a b:Int)(ha:i32 a)(hb:i32 b):Pure Tryz.prog gs0 353 [AI32 a,AI32 b] (.tp [AI32 (divM a b),AB (divB a b)]):=by
 refine p_ tt_ok Tryz.func353 19 fun w0 h0 F hgs=>?_
 refine g_ ?_
 refine k_ (fun hc=>?_) fun hc=>?_
 ·refine y_ ?_;refine q_ ?_;refine Sb.eq ?_
  have h:divB a b=true:=by simp at hc;simp [divB];exact hc
  simp [divM,h]
 ·have h:divB a b=false:=by simp at hc;simp [divB];exact hc
  refine y_ ?_
  refine A.divrem rfl rfl rfl rfl rfl rfl rfl (by simp [divB] at h;exact h.1) ?_
  refine y_ ?_;refine q_ ?_;refine Sb.eq ?_
  show AV.tp [AI32 (IntKind.i32.wrap (a.tdiv b)),_]=_
  rw [w32_id (tdiv_in ha h)];simp [divM,h]
def remM(a b:Int):Int:=if b=0 then 0 else a.tmod b
theorem wrem_p(a b:Int)(ha:i32 a)(hb:i32 b):Pure Tryz.prog gs0 354 [AI32 a,AI32 b] (.tp [AI32 (remM a b),AB (b==0)]):=by
 refine p_ tt_ok Tryz.func354 14 fun w0 h0 F hgs=>?_
 refine y_ ?_
 refine k_ (fun hc=>?_) fun hc=>?_
 ·refine y_ ?_;refine q_ ?_;refine Sb.eq ?_;simp at hc;simp [hc,remM]
 ·simp at hc
  refine y_ ?_
  refine k_ (fun hd=>?_) fun hd=>?_
  ·refine y_ ?_;refine q_ ?_;refine Sb.eq ?_;simp at hd;subst hd;simp [remM]
  ·refine y_ ?_
   refine A.divrem rfl rfl rfl rfl rfl rfl rfl hc ?_
   refine y_ ?_;refine q_ ?_;refine Sb.eq ?_
   show AV.tp [AI32 (a.tmod b),_]=_
   simp [remM,hc]
theorem wsum_p(a b:Int):Pure Tryz.prog gs0 337 [AI32 a,AI32 b] (AI32 (w32 (a+b))):=by
 refine p_ tt_ok Tryz.func337 8 fun w0 h0 F hgs=>?_
 exact yr_
theorem wdiff_p(a b:Int):Pure Tryz.prog gs0 338 [AI32 a,AI32 b] (AI32 (w32 (a-b))):=by
 refine p_ tt_ok Tryz.func338 8 fun w0 h0 F hgs=>?_
 exact yr_
theorem wprod_p(a b:Int):Pure Tryz.prog gs0 339 [AI32 a,AI32 b] (AI32 (w32 (a*b))):=by
 refine p_ tt_ok Tryz.func339 8 fun w0 h0 F hgs=>?_
 exact yr_
def uns(a:Int):Int:=if a<0 then a+4294967296 else a
theorem wu32_uns{a:Int}(ha:i32 a):IntKind.u32.wrap a=uns a:=by unfold i32 at ha;unfold uns;rw [wu32_eq];split<;>omega
theorem uns_in{a:Int}(ha:i32 a):0<=uns a/\uns a<4294967296:=by unfold i32 at ha;unfold uns;split<;>omega
def shlM(a n:Int):Int:=if uns n>31 then 0 else w32 (a*2^n.toNat)
def shrM(a n:Int):Int:=if uns n>31 then 0 else w32 (uns a / 2^n.toNat)
theorem reduceU_p(t:Int):Pure Tryz.prog gs0 385 [.v (.int .u64 t)] (.tp [AI32 (w32 t),AB (IntKind.u64.wrap (w32 t) !=t)]):=by
 refine p_ tt_ok Tryz.func385 11 fun w0 h0 F hgs=>?_
 refine y_ ?_;refine q_ ?_
 exact .refl
theorem uns_small{n:Int}(hn:i32 n)(h: ¬uns n>31):0<=n/\n<=31/\uns n=n:=by unfold i32 at hn;unfold uns at h⊢;split at h<;>split<;>omega
theorem pow32{k:Nat}(h:k<=32):(2:Int)^k<=4294967296:=by
 have:(2:Nat)^k<=2^32:=Nat.pow_le_pow_right (by decide) h
 have h2:((2^k:Nat):Int)<=((2^32:Nat):Int):=Int.ofNat_le.2 this
 rwa [Int.natCast_pow] at h2
theorem wshl_p(a n:Int)(ha:i32 a)(hn:i32 n):Pure Tryz.prog gs0 343 [AI32 a,AI32 n] (AI32 (shlM a n)):=by
 refine p_ tt_ok Tryz.func343 21 fun w0 h0 F hgs=>?_
 refine y_ ?_
 refine k_ (fun hc=>?_) fun hc=>?_
 ·simp at hc;rw [wu32_uns hn] at hc
  refine y_ ?_;refine R_ ?_;refine Sb.eq ?_;simp [shlM,hc]
 ·simp at hc;rw [wu32_uns hn] at hc
  obtain ⟨h1,h2,h3⟩:=uns_small hn (by omega)
  refine y_ ?_
  refine A.shift rfl rfl rfl rfl rfl rfl (by rw [wu32_uns hn];omega) ?_
  refine c_ (reduceU_p _) ?_;refine R_ ?_;refine Sb.eq ?_
  refine ai32_eq ?_
  have hu:=uns_in ha
  simp only [arV,shlM,wu32_uns hn,wu32_uns ha,h3,if_neg (show¬n>31 by omega)]
  have h4:min n.toNat IntKind.u64.bits=n.toNat:=Nat.min_eq_left (by simp [IntKind.bits];omega)
  rw [h4]
  have hp:=pow32 (k:=n.toNat) (by omega)
  have hp0:(0:Int)<2^n.toNat:=Int.pow_pos (by decide)
  have e1:IntKind.u64.wrap (uns a)=uns a:=by rw [wu64_eq];omega
  have hb:uns a*2^n.toNat<18446744073709551616:=by
   calc uns a*2^n.toNat<4294967296*2^n.toNat:=Int.mul_lt_mul_of_pos_right hu.2 hp0
    _<=4294967296*4294967296:=Int.mul_le_mul_of_nonneg_left hp (by decide)
  have hb0:0<=uns a*2^n.toNat:=Int.mul_nonneg hu.1 (Int.le_of_lt hp0)
  have e2:IntKind.u64.wrap (uns a*2^n.toNat)=uns a*2^n.toNat:=by rw [wu64_eq];omega
  rw [e1,e2]
  unfold uns
  split
  ·unfold w32;rw [w32_eq,w32_eq,Int.add_mul]
   generalize a*2^n.toNat=x
   generalize (2:Int)^n.toNat=y
   omega
  ·rfl
theorem wshr_p(a n:Int)(ha:i32 a)(hn:i32 n):Pure Tryz.prog gs0 344 [AI32 a,AI32 n] (AI32 (shrM a n)):=by
 refine p_ tt_ok Tryz.func344 11 fun w0 h0 F hgs=>?_
 refine y_ ?_
 have hun:=uns_in hn
 have hua:=uns_in ha
 refine A.shift rfl rfl rfl rfl rfl rfl (by rw [wu32_uns hn];omega) ?_
 refine y_ ?_;refine R_ ?_;refine Sb.eq ?_
 refine ai32_eq ?_
 simp only [arV,wu32_uns hn,wu32_uns ha,shrM]
 split
 ·rename_i h
  have h4:min (uns n).toNat IntKind.u32.bits=32:=Nat.min_eq_right (by simp [IntKind.bits];omega)
  rw [h4,Int.fdiv_eq_ediv_of_nonneg _ (by decide)]
  have:uns a / 2^32=0:=by
   rw [show (2:Int)^32=4294967296 by decide];omega
  rw [this];decide
 ·rename_i h
  obtain ⟨h1,h2,h3⟩:=uns_small hn h
  have h4:min (uns n).toNat IntKind.u32.bits=n.toNat:=by rw [h3];exact Nat.min_eq_left (by simp [IntKind.bits];omega)
  rw [h4,Int.fdiv_eq_ediv_of_nonneg _ (Int.le_of_lt (Int.pow_pos (by decide)))];rfl
theorem wafter_p(a b:Int):Pure Tryz.prog gs0 392 [AI32 a,AI32 b] (AB (decide (0<w32 (a-b)))):=by
 refine p_ tt_ok Tryz.func392 9 fun w0 h0 F hgs=>?_
 exact yr_
def band(a b:Int):Int:=bitsOf .and .i32 a b
def bor(a b:Int):Int:=bitsOf .or .i32 a b
def bxor(a b:Int):Int:=bitsOf .xor .i32 a b
def bnot(a:Int):Int:=bitsOf .xor .i32 (-1) a
theorem t1_p(a b:Int):Pure Tryz.prog gs0 340 [AI32 a,AI32 b] (AI32 (band a b)):=by
 refine p_ tt_ok Tryz.func340 8 fun w0 h0 F hgs=>?_
 exact yr_
theorem t2_p(a b:Int):Pure Tryz.prog gs0 341 [AI32 a,AI32 b] (AI32 (bor a b)):=by
 refine p_ tt_ok Tryz.func341 8 fun w0 h0 F hgs=>?_
 exact yr_
theorem t3_p(a b:Int):Pure Tryz.prog gs0 342 [AI32 a,AI32 b] (AI32 (bxor a b)):=by
 refine p_ tt_ok Tryz.func342 8 fun w0 h0 F hgs=>?_
 exact yr_
theorem t4_p(a b:Int):Pure Tryz.prog gs0 345 [AI32 a,AI32 b] (AI32 (w32 (0-a))):=by
 refine p_ tt_ok Tryz.func345 7 fun w0 h0 F hgs=>?_
 exact yr_
theorem t5_p(a b:Int):Pure Tryz.prog gs0 346 [AI32 a,AI32 b] (AI32 (bnot a)):=by
 refine p_ tt_ok Tryz.func346 7 fun w0 h0 F hgs=>?_
 exact yr_
theorem te1_p(a b:Int):Pure Tryz.prog gs0 386 [AI32 a,AI32 b] (AB (a==b)):=by
 refine p_ tt_ok Tryz.func386 8 fun w0 h0 F hgs=>?_
 exact yr_
theorem te2_p(a b:Int):Pure Tryz.prog gs0 387 [AI32 a,AI32 b] (AB (a !=b)):=by
 refine p_ tt_ok Tryz.func387 8 fun w0 h0 F hgs=>?_
 exact yr_
theorem te3_p(a b:Int):Pure Tryz.prog gs0 388 [AI32 a,AI32 b] (AB (decide (a<b))):=by
 refine p_ tt_ok Tryz.func388 8 fun w0 h0 F hgs=>?_
 exact yr_
theorem te4_p(a b:Int):Pure Tryz.prog gs0 389 [AI32 a,AI32 b] (AB (decide (b<a))):=by
 refine p_ tt_ok Tryz.func389 8 fun w0 h0 F hgs=>?_
 exact yr_
theorem te5_p(a b:Int):Pure Tryz.prog gs0 390 [AI32 a,AI32 b] (AB (decide (a<=b))):=by
 refine p_ tt_ok Tryz.func390 8 fun w0 h0 F hgs=>?_
 exact yr_
theorem te6_p(a b:Int):Pure Tryz.prog gs0 391 [AI32 a,AI32 b] (AB (decide (b<=a))):=by
 refine p_ tt_ok Tryz.func391 8 fun w0 h0 F hgs=>?_
 exact yr_
def truthI(b:Bool):Int:=if b then 1 else 0
theorem truth_p(b:Bool):Pure Tryz.prog gs0 349 [AB b] (AI32 (truthI b)):=by
 refine p_ tt_ok Tryz.func349 4 fun w0 h0 F hgs=>?_
 refine y_ ?_
 refine k_ (fun hc=>?_) fun hc=>?_
 ·refine y_ ?_;refine R_ ?_;subst hc;exact .refl
 ·refine y_ ?_;refine R_ ?_;subst hc;exact .refl
theorem t6_p(f:FuncId)(a b:Int)(r:Bool)(hf:Pure Tryz.prog gs0 f [AI32 a,AI32 b] (AB r)):Pure Tryz.prog gs0 348 [AI32 a,AI32 b, .pe 1 (.fn f [] [])] (AI32 (truthI r)):=by
 refine p_ tt_ok Tryz.func348 11 fun w0 h0 F hgs=>?_
 refine y_ ?_
 refine n_ hf ?_
 exact cr_ (truth_p _)
def testsF(o:Int):AV:=
 if o=14 then .fn 386 [] [] else if o=15 then .fn 387 [] [] else if o=16 then .fn 388 [] [] else if o=17 then .fn 389 [] []
 else if o=18 then .fn 390 [] [] else if o=19 then .fn 391 [] [] else if o=22 then .fn 392 [] [] else .v .nilFunc
theorem tests_p(o:Int):Pure Tryz.prog gs0 347 [AU8 o] (testsF o):=by
 refine p_ tt_ok Tryz.func347 18 fun w0 h0 F hgs=>?_
 refine y_ ?_
 refine k_ (fun h1=>?_) fun h1=>?_;(· (refine y_ ?_;refine R_ ?_;refine Sb.eq ?_;simp at*;simp [testsF, *]))
 refine y_ ?_;refine k_ (fun h2=>?_) fun h2=>?_;(· (refine y_ ?_;refine R_ ?_;refine Sb.eq ?_;simp at*;simp [testsF, *]))
 refine y_ ?_;refine k_ (fun h3=>?_) fun h3=>?_;(· (refine y_ ?_;refine R_ ?_;refine Sb.eq ?_;simp at*;simp [testsF, *]))
 refine y_ ?_;refine k_ (fun h4=>?_) fun h4=>?_;(· (refine y_ ?_;refine R_ ?_;refine Sb.eq ?_;simp at*;simp [testsF, *]))
 refine y_ ?_;refine k_ (fun h5=>?_) fun h5=>?_;(· (refine y_ ?_;refine R_ ?_;refine Sb.eq ?_;simp at*;simp [testsF, *]))
 refine y_ ?_;refine k_ (fun h6=>?_) fun h6=>?_;(· (refine y_ ?_;refine R_ ?_;refine Sb.eq ?_;simp at*;simp [testsF, *]))
 refine y_ ?_;refine k_ (fun h7=>?_) fun h7=>?_;(· (refine y_ ?_;refine R_ ?_;refine Sb.eq ?_;simp at*;simp [testsF, *]))
 (· (refine y_ ?_;refine R_ ?_;refine Sb.eq ?_;simp at*;simp [testsF, *]))
def totalF(o:Int):AV:=
 if o=6 then .fn 337 [] [] else if o=7 then .fn 338 [] [] else if o=8 then .fn 339 [] [] else if o=9 then .fn 340 [] []
 else if o=10 then .fn 341 [] [] else if o=11 then .fn 342 [] [] else if o=12 then .fn 343 [] [] else if o=13 then .fn 344 [] []
 else if o=24 then .fn 345 [] [] else if o=25 then .fn 346 [] [] else match testsF o with
  | .fn f a b=> .fn 348 [] [.pe 1 (.fn f a b)]
  |_=> .v .nilFunc
theorem testsF_cases(o:Int):(∃f,testsF o= .fn f [] []/\(o=14\/o=15\/o=16\/o=17\/o=18\/o=19\/o=22))\/(testsF o= .v .nilFunc/\o≠14/\o≠15/\o≠16/\o≠17/\o≠18/\o≠19/\o≠22):=by
 unfold testsF
 (repeat' split)<;>first|exact .inl ⟨_,rfl,by omega⟩|exact .inr ⟨rfl,by omega⟩
theorem total_p(o:Int):Pure Tryz.prog gs0 314 [AU8 o] (totalF o):=by
 rcases testsF_cases o with ⟨f,hf,ho⟩|⟨hf,ho⟩
 ·have e:totalF o= .fn 348 [] [.pe 1 (.fn f [] [])]:=by
   unfold totalF;rw [hf];repeat rw [if_neg (by omega)]
  refine p_ tt_ok Tryz.func314 30 fun w0 h0 F hgs=>?_
  refine y_ ?_
  refine k_ (fun h1=>?_) fun h1=>?_;(· (refine y_ ?_;refine R_ ?_;refine Sb.eq ?_;simp at*;simp [totalF, *]))
  refine y_ ?_;refine k_ (fun h2=>?_) fun h2=>?_;(· (refine y_ ?_;refine R_ ?_;refine Sb.eq ?_;simp at*;simp [totalF, *]))
  refine y_ ?_;refine k_ (fun h3=>?_) fun h3=>?_;(· (refine y_ ?_;refine R_ ?_;refine Sb.eq ?_;simp at*;simp [totalF, *]))
  refine y_ ?_;refine k_ (fun h4=>?_) fun h4=>?_;(· (refine y_ ?_;refine R_ ?_;refine Sb.eq ?_;simp at*;simp [totalF, *]))
  refine y_ ?_;refine k_ (fun h5=>?_) fun h5=>?_;(· (refine y_ ?_;refine R_ ?_;refine Sb.eq ?_;simp at*;simp [totalF, *]))
  refine y_ ?_;refine k_ (fun h6=>?_) fun h6=>?_;(· (refine y_ ?_;refine R_ ?_;refine Sb.eq ?_;simp at*;simp [totalF, *]))
  refine y_ ?_;refine k_ (fun h7=>?_) fun h7=>?_;(· (refine y_ ?_;refine R_ ?_;refine Sb.eq ?_;simp at*;simp [totalF, *]))
  refine y_ ?_;refine k_ (fun h8=>?_) fun h8=>?_;(· (refine y_ ?_;refine R_ ?_;refine Sb.eq ?_;simp at*;simp [totalF, *]))
  refine y_ ?_;refine k_ (fun h9=>?_) fun h9=>?_;(· (refine y_ ?_;refine R_ ?_;refine Sb.eq ?_;simp at*;simp [totalF, *]))
  refine y_ ?_;refine k_ (fun ha=>?_) fun ha=>?_;(· (refine y_ ?_;refine R_ ?_;refine Sb.eq ?_;simp at*;simp [totalF, *]))
  refine y_ ?_
  refine n_ (hf▸tests_p o) ?_
  refine A.alloc rfl rfl rfl rfl rfl rfl fun bx=>?_
  refine A.store rfl rfl rfl rfl rfl rfl rfl ?_
  refine A.freeze 3 rfl rfl rfl ?_
  refine y_ ?_;refine R_ ?_;rw [e];exact .refl
 ·refine p_ tt_ok Tryz.func314 30 fun w0 h0 F hgs=>?_
  refine y_ ?_
  refine k_ (fun h1=>?_) fun h1=>?_;(· (refine y_ ?_;refine R_ ?_;refine Sb.eq ?_;simp at*;simp [totalF, *]))
  refine y_ ?_;refine k_ (fun h2=>?_) fun h2=>?_;(· (refine y_ ?_;refine R_ ?_;refine Sb.eq ?_;simp at*;simp [totalF, *]))
  refine y_ ?_;refine k_ (fun h3=>?_) fun h3=>?_;(· (refine y_ ?_;refine R_ ?_;refine Sb.eq ?_;simp at*;simp [totalF, *]))
  refine y_ ?_;refine k_ (fun h4=>?_) fun h4=>?_;(· (refine y_ ?_;refine R_ ?_;refine Sb.eq ?_;simp at*;simp [totalF, *]))
  refine y_ ?_;refine k_ (fun h5=>?_) fun h5=>?_;(· (refine y_ ?_;refine R_ ?_;refine Sb.eq ?_;simp at*;simp [totalF, *]))
  refine y_ ?_;refine k_ (fun h6=>?_) fun h6=>?_;(· (refine y_ ?_;refine R_ ?_;refine Sb.eq ?_;simp at*;simp [totalF, *]))
  refine y_ ?_;refine k_ (fun h7=>?_) fun h7=>?_;(· (refine y_ ?_;refine R_ ?_;refine Sb.eq ?_;simp at*;simp [totalF, *]))
  refine y_ ?_;refine k_ (fun h8=>?_) fun h8=>?_;(· (refine y_ ?_;refine R_ ?_;refine Sb.eq ?_;simp at*;simp [totalF, *]))
  refine y_ ?_;refine k_ (fun h9=>?_) fun h9=>?_;(· (refine y_ ?_;refine R_ ?_;refine Sb.eq ?_;simp at*;simp [totalF, *]))
  refine y_ ?_;refine k_ (fun ha=>?_) fun ha=>?_;(· (refine y_ ?_;refine R_ ?_;refine Sb.eq ?_;simp at*;simp [totalF, *]))
  refine y_ ?_
  refine n_ (hf▸tests_p o) ?_
  (refine b_ fun bx=>?_;refine y_ ?_);refine R_ ?_;refine Sb.eq ?_;simp at*;simp [totalF, *]
def isT(a:Int):Bool:=a==0||a==1
def applyC(o a b:Int):Option Int:=
 if o=1 then fit32 (a+b) else if o=2 then fit32 (a-b) else if o=3 then fit32 (a*b)
 else if o=4 then (if divB a b then none else some (a.tdiv b)) else if o=5 then (if b=0 then none else some (a.tmod b))
 else if o=6 then some (w32 (a+b)) else if o=7 then some (w32 (a-b)) else if o=8 then some (w32 (a*b))
 else if o=9 then some (band a b) else if o=10 then some (bor a b) else if o=11 then some (bxor a b)
 else if o=12 then some (shlM a b) else if o=13 then some (shrM a b)
 else if o=14 then some (truthI (a==b)) else if o=15 then some (truthI (a !=b)) else if o=16 then some (truthI (decide (a<b)))
 else if o=17 then some (truthI (decide (b<a))) else if o=18 then some (truthI (decide (a<=b))) else if o=19 then some (truthI (decide (b<=a)))
 else if o=20 then (if isT a&&isT b then some (truthI (a==1&&b==1)) else none)
 else if o=21 then (if isT a&&isT b then some (truthI (a==1||b==1)) else none)
 else if o=22 then some (truthI (decide (0<w32 (a-b)))) else if o=23 then fit32 (0-a) else if o=24 then some (w32 (0-a))
 else if o=25 then some (bnot a) else if o=26 then (if isT a then some (truthI (a==0)) else none) else none
theorem total_cases(o a b:Int)(ha:i32 a)(hb:i32 b):
 (∃f caps r,totalF o= .fn f [] caps/\applyC o a b=some r/\Pure Tryz.prog gs0 f ([AI32 a,AI32 b]++caps) (AI32 r))\/
 (totalF o= .v .nilFunc/\(o<6\/19<o/\o≠22/\o≠24/\o≠25)):=by
 by_cases h:o=6
 ·subst h;exact .inl ⟨_,[],_,rfl,rfl,wsum_p a b⟩
 by_cases h:o=7
 ·subst h;exact .inl ⟨_,[],_,rfl,rfl,wdiff_p a b⟩
 by_cases h:o=8
 ·subst h;exact .inl ⟨_,[],_,rfl,rfl,wprod_p a b⟩
 by_cases h:o=9
 ·subst h;exact .inl ⟨_,[],_,rfl,rfl,t1_p a b⟩
 by_cases h:o=10
 ·subst h;exact .inl ⟨_,[],_,rfl,rfl,t2_p a b⟩
 by_cases h:o=11
 ·subst h;exact .inl ⟨_,[],_,rfl,rfl,t3_p a b⟩
 by_cases h:o=12
 ·subst h;exact .inl ⟨_,[],_,rfl,rfl,wshl_p a b ha hb⟩
 by_cases h:o=13
 ·subst h;exact .inl ⟨_,[],_,rfl,rfl,wshr_p a b ha hb⟩
 by_cases h:o=24
 ·subst h;exact .inl ⟨_,[],_,rfl,rfl,t4_p a b⟩
 by_cases h:o=25
 ·subst h;exact .inl ⟨_,[],_,rfl,rfl,t5_p a b⟩
 by_cases h:o=14
 ·subst h;exact .inl ⟨_,_,_,rfl,rfl,t6_p _ a b _ (te1_p a b)⟩
 by_cases h:o=15
 ·subst h;exact .inl ⟨_,_,_,rfl,rfl,t6_p _ a b _ (te2_p a b)⟩
 by_cases h:o=16
 ·subst h;exact .inl ⟨_,_,_,rfl,rfl,t6_p _ a b _ (te3_p a b)⟩
 by_cases h:o=17
 ·subst h;exact .inl ⟨_,_,_,rfl,rfl,t6_p _ a b _ (te4_p a b)⟩
 by_cases h:o=18
 ·subst h;exact .inl ⟨_,_,_,rfl,rfl,t6_p _ a b _ (te5_p a b)⟩
 by_cases h:o=19
 ·subst h;exact .inl ⟨_,_,_,rfl,rfl,t6_p _ a b _ (te6_p a b)⟩
 by_cases h:o=22
 ·subst h;exact .inl ⟨_,_,_,rfl,rfl,t6_p _ a b _ (wafter_p a b)⟩
 refine .inr ⟨?_,by omega⟩
 have ht:testsF o= .v .nilFunc:=by unfold testsF;repeat rw [if_neg (by assumption)]
 unfold totalF;rw [ht];repeat rw [if_neg (by assumption)]
def overT(a:Int):Bool:=bitsOf .andNot .i32 a 1 !=0
def partR(o a b:Int):Int×Bool:=
 if o=1 then (w32 (a+b),fitB (a+b)) else if o=2 then (w32 (a-b),fitB (a-b)) else if o=3 then (w32 (a*b),fitB (a*b))
 else if o=4 then (divM a b, !divB a b) else if o=5 then (remM a b, !(b==0)) else if o=23 then (w32 (0-a),fitB (0-a))
 else if o=20 then (band a b, !overT (bor a b)) else if o=21 then (bor a b, !overT (bor a b)) else if o=26 then (w32 (1-a), !overT a) else (0,false)
theorem partial_p(o a b:Int)(ha:i32 a)(hb:i32 b):Pure Tryz.prog gs0 315 [AU8 o,AI32 a,AI32 b] (.tp [AI32 (partR o a b).1,AB (partR o a b).2]):=by
 have z0:i32 0:=⟨by decide,by decide⟩
 refine p_ tt_ok Tryz.func315 87 fun w0 h0 F hgs=>?_
 refine y_ ?_;refine k_ (fun h1=>?_) fun h1=>?_
 ·refine y_ ?_;refine n_ (wadd_p a b ha hb) ?_;(refine y_ ?_;refine q_ ?_;refine Sb.eq ?_;simp at*;simp [partR, *])
 refine y_ ?_;refine k_ (fun h2=>?_) fun h2=>?_
 ·refine y_ ?_;refine n_ (wsub_p a b ha hb) ?_;(refine y_ ?_;refine q_ ?_;refine Sb.eq ?_;simp at*;simp [partR, *])
 refine y_ ?_;refine k_ (fun h3=>?_) fun h3=>?_
 ·refine y_ ?_;refine n_ (wmul_p a b ha hb) ?_;(refine y_ ?_;refine q_ ?_;refine Sb.eq ?_;simp at*;simp [partR, *])
 refine y_ ?_;refine k_ (fun h4=>?_) fun h4=>?_
 ·refine y_ ?_;refine n_ (wdiv_p a b ha hb) ?_;(refine y_ ?_;refine q_ ?_;refine Sb.eq ?_;simp at*;simp [partR, *])
 refine y_ ?_;refine k_ (fun h5=>?_) fun h5=>?_
 ·refine y_ ?_;refine n_ (wrem_p a b ha hb) ?_;(refine y_ ?_;refine q_ ?_;refine Sb.eq ?_;simp at*;simp [partR, *])
 refine y_ ?_;refine k_ (fun h6=>?_) fun h6=>?_
 ·refine y_ ?_;refine n_ (wsub_p 0 a z0 ha) ?_;(refine y_ ?_;refine q_ ?_;refine Sb.eq ?_;simp at*;simp [partR, *])
 refine y_ ?_;refine k_ (fun h7=>?_) fun h7=>?_
 ·refine y_ ?_;refine q_ ?_;refine Sb.eq ?_;simp at h1 h2 h3 h4 h5 h6 h7;subst h7;rfl
 refine y_ ?_;refine k_ (fun h8=>?_) fun h8=>?_
 ·refine y_ ?_;refine q_ ?_;refine Sb.eq ?_;simp at h8;subst h8;rfl
 refine y_ ?_;refine k_ (fun h9=>?_) fun h9=>?_
 ·refine y_ ?_;refine q_ ?_;refine Sb.eq ?_;simp at h9;subst h9;rfl
 (refine y_ ?_;refine q_ ?_;refine Sb.eq ?_;simp at*;simp [partR, *])
theorem ofInt_wrap32(n:Nat):BitVec.ofInt 32 (IntKind.i32.wrap (n:Int))=BitVec.ofNat 32 n:=by
 apply BitVec.eq_of_toInt_eq
 rw [BitVec.toInt_ofInt,BitVec.toInt_ofNat',w32_eq]
 rw [Int.bmod_def,Int.bmod_def]
 simp only [show ((2^32:Nat):Int)=4294967296 by decide]
 split<;>split<;>omega
theorem wrap32_zero{x:BitVec 32}(h:IntKind.i32.wrap (x.toNat:Int)=0):x=0:=by
 have hx:=x.isLt
 rw [w32_eq] at h
 apply BitVec.eq_of_toNat_eq
 simp only [BitVec.ofNat_eq_ofNat,BitVec.toNat_ofNat]
 omega
theorem andNot_one{x:BitVec 32}(h:x&&& ~~~(1#32)=0):x.toNat<2:=by
 have key:x>>>1=0#32:=by
  apply BitVec.eq_of_getLsbD_eq
  intro i hi
  have h1:(x&&& ~~~(1#32)).getLsbD (1+i)=false:=by rw [h];simp
  rw [BitVec.getLsbD_and,BitVec.getLsbD_not] at h1
  rw [BitVec.getLsbD_ushiftRight]
  by_cases h32:1+i<32
  ·have h2:(1#32).getLsbD (1+i)=false:=by
    rw [BitVec.getLsbD_ofNat]
    have:(1:Nat).testBit (1+i)=false:=by rw [Nat.testBit_eq_decide_div_mod_eq];simp;rw [Nat.div_eq_of_lt (Nat.one_lt_two_pow (by omega))]
    simp [this]
   simp [h2,h32] at h1
   rw [BitVec.getLsbD_eq_getElem h32,h1];simp
  ·have:=BitVec.getLsbD_of_ge x (1+i) (by omega)
   simp [this]
 have h2:=congrArg BitVec.toNat key
 simp [BitVec.toNat_ushiftRight,Nat.shiftRight_eq_div_pow] at h2
 omega
theorem or_zero{x y z:BitVec 32}(h:(x|||y)&&&z=0):x&&&z=0/\y&&&z=0:=by
 have key: ∀i,((x|||y)&&&z).getLsbD i=false:=fun i=>by rw [h];simp
 constructor<;>(apply BitVec.eq_of_getLsbD_eq;intro i hi;have:=key i;simp only [BitVec.getLsbD_and,BitVec.getLsbD_or] at this⊢;revert this;cases x.getLsbD i<;>cases y.getLsbD i<;>cases z.getLsbD i<;>simp)
theorem isT_of{a:Int}(ha:i32 a)(h:(BitVec.ofInt 32 a).toNat<2):isT a=true:=by
 unfold i32 at ha
 rw [BitVec.toNat_ofInt] at h
 simp only [show ((2^32:Nat):Int)=4294967296 by decide] at h
 simp [isT];omega
theorem overT_or{a b:Int}(ha:i32 a)(hb:i32 b):overT (bor a b)= !(isT a&&isT b):=by
 by_cases h:(isT a&&isT b)=true
 ·simp [isT] at h
  obtain ⟨h1|h1,h2|h2⟩:=h<;>subst h1<;>subst h2<;>decide
 ·have h':(isT a&&isT b)=false:=by simpa using h
  rw [h']
  simp only [Bool.not_false]
  unfold overT
  rw [bne_iff_ne]
  intro hz
  apply h
  unfold bor at hz
  simp only [bitsOf] at hz
  have hz:=wrap32_zero hz
  simp only [IntKind.bits] at hz
  rw [ofInt_wrap32] at hz
  rw [BitVec.ofNat_toNat,BitVec.setWidth_eq] at hz
  have hone:BitVec.ofInt 32 1=1#32:=by decide
  rw [hone] at hz
  obtain ⟨hA,hB⟩:=or_zero hz
  simp [isT_of ha (andNot_one hA),isT_of hb (andNot_one hB)]
theorem overT_one{a:Int}(ha:i32 a):overT a= !isT a:=by
 by_cases h:isT a=true
 ·simp [isT] at h
  rcases h with h|h<;>subst h<;>decide
 ·have h':isT a=false:=by simpa using h
  rw [h']
  simp only [Bool.not_false]
  unfold overT
  rw [bne_iff_ne]
  intro hz
  apply h
  simp only [bitsOf] at hz
  have hz:=wrap32_zero hz
  simp only [IntKind.bits] at hz
  have hone:BitVec.ofInt 32 1=1#32:=by decide
  rw [hone] at hz
  exact isT_of ha (andNot_one hz)
theorem fit_w32{n:Int}(h:fitB n=true):w32 n=n:=by simp [fitB] at h;unfold w32;rw [w32_eq];omega
theorem part_apply{o a b:Int}(ha:i32 a)(hb:i32 b)(h:o<6\/19<o/\o≠22/\o≠24/\o≠25):applyC o a b=if (partR o a b).2 then some (partR o a b).1 else none:=by
 have fx: ∀n,fit32 n=if fitB n then some (w32 n) else none:=fun n=>by
  unfold fit32;split
  ·rename_i h;rw [fit_w32 h]
  ·rfl
 by_cases h1:o=1
 ·subst h1;exact fx _
 by_cases h2:o=2
 ·subst h2;exact fx _
 by_cases h3:o=3
 ·subst h3;exact fx _
 by_cases h4:o=4
 ·subst h4;show (if divB a b then none else some (a.tdiv b))=if (!divB a b) then some (divM a b) else none
  unfold divM;cases divB a b<;>rfl
 by_cases h5:o=5
 ·subst h5;show (if b=0 then none else some (a.tmod b))=if (!(b==0)) then some (remM a b) else none
  unfold remM;by_cases hb:b=0<;>simp [hb]
 by_cases h6:o=20
 ·subst h6;show (if isT a&&isT b then some (truthI (a==1&&b==1)) else none)=if (!overT (bor a b)) then some (band a b) else none
  rw [overT_or ha hb,Bool.not_not]
  split
  ·rename_i h;simp [isT] at h
   obtain ⟨q1|q1,q2|q2⟩:=h<;>subst q1<;>subst q2<;>decide
  ·rfl
 by_cases h7:o=21
 ·subst h7;show (if isT a&&isT b then some (truthI (a==1||b==1)) else none)=if (!overT (bor a b)) then some (bor a b) else none
  rw [overT_or ha hb,Bool.not_not]
  split
  ·rename_i h;simp [isT] at h
   obtain ⟨q1|q1,q2|q2⟩:=h<;>subst q1<;>subst q2<;>decide
  ·rfl
 by_cases h8:o=23
 ·subst h8;exact fx _
 by_cases h9:o=26
 ·subst h9;show (if isT a then some (truthI (a==0)) else none)=if (!overT a) then some (w32 (1-a)) else none
  rw [overT_one ha,Bool.not_not]
  split
  ·rename_i h;simp [isT] at h
   rcases h with q1|q1<;>subst q1<;>decide
  ·rfl
 have e1:applyC o a b=none:=by unfold applyC;repeat rw [if_neg (by omega)]
 have e2:partR o a b=(0,false):=by unfold partR;repeat rw [if_neg (by omega)]
 rw [e1,e2];rfl
theorem apply_p(o a b:Int)(ha:i32 a)(hb:i32 b):Pure Tryz.prog gs0 286 [AU8 o,AI32 a,AI32 b] (optA (applyC o a b)):=by
 rcases total_cases o a b ha hb with ⟨f,caps,r,h1,h2,h3⟩|⟨h1,h2⟩
 ·refine p_ tt_ok Tryz.func286 29 fun w0 h0 F hgs=>?_
  refine y_ ?_
  refine c_ (h1▸total_p o) ?_
  refine c_ h3 ?_;refine q_ ?_;rw [h2];exact .refl
 ·have e:=part_apply ha hb h2
  refine p_ tt_ok Tryz.func286 29 fun w0 h0 F hgs=>?_
  refine y_ ?_
  refine c_ (h1▸total_p o) ?_
  refine c_ (partial_p o a b ha hb) ?_
  refine k_ (fun hc=>?_) fun hc=>?_
  ·refine y_ ?_;refine q_ ?_;simp at hc;rw [e,hc];exact .refl
  ·refine y_ ?_;refine q_ ?_;simp at hc;rw [e,hc];exact .refl
def convC(t v:Int):Option Int:=if t=1\/t=2/\0<=v/\v<=255\/t=3/\0<=v/\v<=1 then some v else none
theorem encKl_len(l:List KE):(encKl l).length=l.length:=by rw [encKl_map,List.length_map]
theorem plain_p(e:KE)(hw:wfK e):Pure Tryz.prog gs0 284 [encK e] (AB (shapeB e)):=by
 obtain ⟨k,o,t,n,v,l⟩:=e
 simp only [wfK,u8,i32,i64] at hw
 obtain ⟨hw,_⟩:=hw
 rw [encK]
 by_cases h1:k=1
 ·subst h1;refine p_ tt_ok Tryz.func284 86 fun w0 h0 F hgs=>?_
  (refine gb_ fun bx=>?_;refine gb_ fun bx=>?_;refine g_ ?_);refine R_ ?_;(refine Sb.eq (ab_iff ?_);simp only [shapeB,KE.kind,KE.oper,KE.to,KE.n,KE.v,KE.l,encKl_len];generalize l.length=len at*;(try simp at hc);(try simp at hd);simp;omega)
 by_cases h2:k=2
 ·subst h2;refine p_ tt_ok Tryz.func284 86 fun w0 h0 F hgs=>?_
  (refine gb_ fun bx=>?_;refine gb_ fun bx=>?_;refine g_ ?_)
  refine k_ (fun hc=>?_) fun hc=>?_
  ·refine y_ ?_;refine R_ ?_;(refine Sb.eq (ab_iff ?_);simp only [shapeB,KE.kind,KE.oper,KE.to,KE.n,KE.v,KE.l,encKl_len];generalize l.length=len at*;(try simp at hc);(try simp at hd);simp;omega)
  ·refine g_ ?_;refine R_ ?_;(refine Sb.eq (ab_iff ?_);simp only [shapeB,KE.kind,KE.oper,KE.to,KE.n,KE.v,KE.l,encKl_len];generalize l.length=len at*;(try simp at hc);(try simp at hd);simp;omega)
 by_cases h3:k=3
 ·subst h3;refine p_ tt_ok Tryz.func284 86 fun w0 h0 F hgs=>?_
  (refine gb_ fun bx=>?_;refine gb_ fun bx=>?_;refine g_ ?_)
  refine k_ (fun hc=>?_) fun hc=>?_
  ·refine y_ ?_;refine R_ ?_;(refine Sb.eq (ab_iff ?_);simp only [shapeB,KE.kind,KE.oper,KE.to,KE.n,KE.v,KE.l,encKl_len];generalize l.length=len at*;(try simp at hc);(try simp at hd);simp;omega)
  ·refine g_ ?_;refine R_ ?_;(refine Sb.eq (ab_iff ?_);simp only [shapeB,KE.kind,KE.oper,KE.to,KE.n,KE.v,KE.l,encKl_len];generalize l.length=len at*;(try simp at hc);(try simp at hd);simp;omega)
 by_cases h4:k=4
 ·subst h4;refine p_ tt_ok Tryz.func284 86 fun w0 h0 F hgs=>?_
  (refine gb_ fun bx=>?_;refine gb_ fun bx=>?_;refine g_ ?_);refine R_ ?_;(refine Sb.eq (ab_iff ?_);simp only [shapeB,KE.kind,KE.oper,KE.to,KE.n,KE.v,KE.l,encKl_len];generalize l.length=len at*;(try simp at hc);(try simp at hd);simp;omega)
 by_cases h5:k=5
 ·subst h5;refine p_ tt_ok Tryz.func284 86 fun w0 h0 F hgs=>?_
  (refine gb_ fun bx=>?_;refine gb_ fun bx=>?_;refine g_ ?_);refine R_ ?_;(refine Sb.eq (ab_iff ?_);simp only [shapeB,KE.kind,KE.oper,KE.to,KE.n,KE.v,KE.l,encKl_len];generalize l.length=len at*;(try simp at hc);(try simp at hd);simp;omega)
 by_cases h6:k=6
 ·subst h6;refine p_ tt_ok Tryz.func284 86 fun w0 h0 F hgs=>?_
  (refine gb_ fun bx=>?_;refine gb_ fun bx=>?_;refine g_ ?_);refine R_ ?_;(refine Sb.eq (ab_iff ?_);simp only [shapeB,KE.kind,KE.oper,KE.to,KE.n,KE.v,KE.l,encKl_len];generalize l.length=len at*;(try simp at hc);(try simp at hd);simp;omega)
 refine p_ tt_ok Tryz.func284 86 fun w0 h0 F hgs=>?_
 (repeat (first|first|refine A.s rfl ?_|refine A.r rfl rfl ?_|refine A.w rfl rfl ?_|refine A.p rfl ?_|refine A.b rfl fun bx=>?_|refine A.t rfl fun bl=>?_|refine A.cond rfl (fun h=>(by simp at h;omega)) (fun _=>?_)|first|refine A.step rfl ?_|refine A.v rfl rfl ?_));refine R_ ?_;refine Sb.eq ?_;simp [shapeB, *]
abbrev rowA(r:List Int):AV:= .sl 1 (r.map AI32) none
abbrev rowsA(s:List (List Int)):AV:= .sl 1 (s.map rowA) none
theorem some_p(v:Int)(ok:Bool):Pure Tryz.prog gs0 285 [AI32 v,AB ok] (optA (if ok then some v else none)):=by
 refine p_ tt_ok Tryz.func285 9 fun w0 h0 F hgs=>?_
 refine y_ ?_
 refine k_ (fun hc=>?_) fun hc=>?_
 ·refine y_ ?_;refine q_ ?_;simp at hc;subst hc;exact .refl
 ·refine y_ ?_;refine q_ ?_;simp at hc;subst hc;exact .refl
def fitsB(k v:Int):Bool:=if k=2 then decide (0<=v)&&decide (v<=255) else if k=3 then v==0||v==1 else k==1
theorem fits_p(k v:Int):Pure Tryz.prog gs0 259 [AU8 k,AI32 v] (AB (fitsB k v)):=by
 refine p_ tt_ok Tryz.func259 24 fun w0 h0 F hgs=>?_
 refine y_ ?_
 refine k_ (fun hc=>?_) fun hc=>?_
 ·refine g_ ?_;refine R_ ?_;refine Sb.eq ?_;simp at hc;subst hc;simp [fitsB]
 ·refine y_ ?_
  refine k_ (fun hd=>?_) fun hd=>?_
  ·refine g_ ?_;refine R_ ?_;refine Sb.eq ?_;simp at hc hd;subst hd;simp [fitsB]
  ·refine y_ ?_;refine R_ ?_;refine Sb.eq ?_;simp at hc hd;simp [fitsB,hc,hd]
theorem conv_fits(k v:Int):convC k v=if fitsB k v then some v else none:=by
 unfold convC fitsB
 by_cases h1:k=1
 ·subst h1;simp
 by_cases h2:k=2
 ·subst h2;simp
 by_cases h3:k=3
 ·subst h3;simp;by_cases h:0<=v/\v<=1
  ·rw [if_pos h,if_pos (by omega)]
  ·rw [if_neg h,if_neg (by omega)]
 ·simp [h1,h2,h3]
def atM(s:List (List Int))(v i:Int):Option Int:=if v<0\/i<0 then none else (s[v.toNat]?).bind (·[i.toNat]?)
theorem at_p(s:List (List Int))(v i:Int):Pure Tryz.prog gs0 92 [rowsA s,AI v,AI i] (optA (atM s v i)):=by
 refine p_ tt_ok Tryz.func92 36 fun w0 h0 F hgs=>?_
 (refine g_ ?_;refine A.split 20 rfl (fun hc=>?_) (fun hc=>?_);(refine y_ ?_;refine q_ ?_;refine Sb.eq ?_;simp at hc;have:atM s v i=none:=(by unfold atM;split;rfl;rw [at_none (by omega)];rfl);rw [this];rfl);simp at hc;refine Exists.elim (at_ex hc.1.1 hc.1.2) fun r hr=>?_;have e1:atM s v i=r[i.toNat]? :=(by unfold atM;rw [if_neg (by omega),hr];rfl);refine i_ rfl (map_at hr) rfl ?_;refine k_ (fun hd=>?_) fun hd=>?_;(simp at hd;refine y_ ?_;refine q_ ?_;rw [e1,at_none hd];exact .refl);simp at hd;refine y_ ?_;refine i_ rfl (map_at hr) rfl ?_;refine Exists.elim (at_ex hc.2 hd) fun x hx=>?_;refine i_ rfl (map_at hx) rfl ?_;refine q_ ?_;rw [e1,hx];exact .refl)
def allEq{α β:Type}(f:α->β->Bool)(a:List α)(b:List β)(i:Nat):Bool:=(List.range i).all fun k=>match a[k]?,b[k]? with
 |some x,some y=>f x y
 |_,_=>true
structure KV where
 kind:Int
 dim:Int
abbrev encV(v:KV):AV:= .ag [AU8 v.kind,AI v.dim]
def soundB(v:KV):Bool:=(v.kind==1||v.kind==2||v.kind==3)&&decide (0<=v.dim)&&decide (v.dim<=64)
theorem sound_p(v:KV):Pure Tryz.prog gs0 224 [encV v] (AB (soundB v)):=by
 obtain ⟨k,d⟩:=v
 refine p_ tt_ok Tryz.func224 26 fun w0 h0 F hgs=>?_
 (refine gb_ fun bx=>?_;refine g_ ?_);refine R_ ?_
 refine Sb.eq (ab_eq ?_)
 simp only [soundB]
 cases (k==1)<;>cases (k==2)<;>cases (k==3)<;>cases decide (0<=d)<;>simp
theorem row_one(r:List Int)(h:GH)(zs:List Value)(q:RpC h (r.map AI32) zs): ∀z,z∈zs->allOne (cellsL z)=true:=by
 induction r generalizing zs with
 |nil=>rw [List.map_nil,RpC_nil] at q;subst q;intro z hz;cases hz
 |cons x r ih=>
  rw [List.map_cons,RpC_cons] at q
  obtain ⟨v,vs,rfl,q1,q2⟩:=q
  rw [Rp_v] at q1
  intro z hz
  rcases List.mem_cons.1 hz with rfl|hz
  ·rw [q1.1];rfl
  ·exact ih vs q2 z hz
theorem clone_p(r:List Int)(hr:r.length<=35184372088832):FunE Tryz.prog gs0 91 [rowA r] [] (fun z:Value=> .ms z 1 r.length) (fun z=>[.row 1 z (r.map AI32)]) (fun _=>True):=by
 unfold FunE
 cases r with
 |nil=>
  refine Fun.of (S:=tt) (fn:=Tryz.f91) (n:=8) tt_ok Tryz.func91 rfl rfl rfl rfl fun w0 h0 F hgs=>?_
  refine y_ ?_
  refine A.eqNil rfl rfl rfl rfl rfl rfl rfl rfl fun b hb=>?_
  cases b
  ·refine y_ ?_
   refine A.lit0 rfl rfl rfl rfl rfl rfl rfl fun bl=>?_;refine y_ ?_;refine A.appendNewW rfl rfl rfl rfl rfl rfl rfl rfl rfl rfl rfl rfl rfl (by show (List.map AI32 _).length*1<=_;rw [List.length_map];omega) (by show (List.map AI32 _).length*1*4<=_;rw [List.length_map];omega) (fun x hx=>by injection hx with hx;subst hx;rfl) (row_one _) fun z=>?_;refine y_ ?_
   refine A.ret1 (Λ':=[.row 1 z _]) rfl rfl rfl sl_ ⟨z, .refl,rfl,trivial⟩
  ·refine y_ ?_
   refine A.emptyRow 2 1 rfl fun z=>?_
   refine A.ret1 (Λ':=[.row 1 z []]) rfl rfl rfl sl_ ⟨z, .refl,rfl,trivial⟩
 |cons x r=>
  refine Fun.of (S:=tt) (fn:=Tryz.f91) (n:=8) tt_ok Tryz.func91 rfl rfl rfl rfl fun w0 h0 F hgs=>?_
  refine y_ ?_
  refine A.eqNil rfl rfl rfl rfl rfl rfl rfl rfl fun b hb=>?_
  cases b
  case true=>cases hb rfl
  refine y_ ?_
  refine A.lit0 rfl rfl rfl rfl rfl rfl rfl fun bl=>?_;refine y_ ?_;refine A.appendNewW rfl rfl rfl rfl rfl rfl rfl rfl rfl rfl rfl rfl rfl (by show (List.map AI32 _).length*1<=_;rw [List.length_map];omega) (by show (List.map AI32 _).length*1*4<=_;rw [List.length_map];omega) (fun x hx=>by injection hx with hx;subst hx;rfl) (row_one _) fun z=>?_;refine y_ ?_
  refine A.valE 2 rfl (x':= .ms z 1 (x::r).length) (by rw [List.length_map];rfl) ?_
  refine A.ret1 (Λ':=[.row 1 z _]) rfl rfl rfl sl_ ⟨z, .refl,rfl,trivial⟩
abbrev rowsH(hs:List (Value×List Int)):List (Value×List AV):=hs.map fun p=>(p.1,p.2.map AI32)
def putM(s:List (List Int))(v i x:Int):List (List Int):=if (atM s v i).isSome then (match s[v.toNat]? with|some r=>s.set v.toNat (r.set i.toNat x)|none=>s) else s
abbrev nilV:AV:= .v (.slice none 0 0)
theorem rowsH_len(hs:List (Value×List Int)):(msL 1 (rowsH hs)).length=hs.length:=by rw [msL,rowsH,List.length_map,List.length_map]
theorem out_set(hs:List (Value×List Int))(z:Value)(r:List Int)(m:Nat):(msL 1 (rowsH hs)++List.replicate (m+1) nilV).set hs.length (.ms z 1 r.length)=msL 1 (rowsH (hs++[(z,r)]))++List.replicate m nilV:=by
 rw [List.set_append_right _ _ (by rw [rowsH_len];exact Nat.le_refl _),rowsH_len,Nat.sub_self,List.replicate_succ,List.set_cons_zero]
 simp [msL,rowsH]
theorem set_rows{hs:List (Value×List Int)}{j:Nat}(hj:j<hs.length)(z:Value)(q:List Int):rowsH (hs.set j (z,q))=(rowsH hs).take j++(z,q.map AI32)::(rowsH hs).drop (j+1):=by
 rw [rowsH,List.map_set,List.set_eq_take_append_cons_drop,if_pos (by rw [List.length_map];exact hj)]
theorem set_ms{hs:List (Value×List Int)}{j:Nat}{p:Value×List Int}(hp:hs[j]? =some p)(q:List Int)(hq:q.length=p.2.length):msL 1 (rowsH (hs.set j (p.1,q)))=msL 1 (rowsH hs):=by
 have hj:j<hs.length:=(List.getElem?_eq_some_iff.1 hp).1
 apply List.ext_getElem?
 intro m
 simp only [msL,rowsH,List.getElem?_map,List.getElem?_set]
 by_cases h:j=m
 ·subst h;rw [if_pos rfl,if_pos hj,hp];simp [hq]
 ·rw [if_neg h]
theorem put_p(s:List (List Int))(v i x:Int)(h1:s.length<=1073741824)(h2: ∀r,r∈s->r.length<=35184372088832):
 FunE Tryz.prog gs0 47 [rowsA s,AI v,AI i,AI32 x] [] (fun p:Value×List (Value×List Int)=> .ms p.1 1 s.length) (fun p=>[.rows 1 (rowsH p.2), .row 1 p.1 (msL 1 (rowsH p.2))]) (fun p=>p.2.map Prod.snd=putM s v i x):=by
 unfold FunE
 have hl:((s.map rowA).length:Int)=s.length:=by rw [List.length_map]
 have hat:=at_p s v i
 refine Fun.of (S:=tt) (fn:=Tryz.f47) (n:=46) tt_ok Tryz.func47 rfl rfl rfl rfl fun w0 h0 F hgs=>?_
 refine y_ ?_
 refine A.valE 15 rfl (x':=AI (s.length:Nat)) (ai_eq hl) ?_
 refine A.make rfl rfl rfl rfl rfl rfl rfl rfl rfl rfl rfl rfl (by omega) ?_ (by omega) fun zo=>?_
 ·show ((24:Nat):Int)*_<=_
  omega
 refine y_ ?_
 refine A.valE 9 rfl (x':= .ms zo 1 s.length) (by rw [Int.toNat_natCast];rfl) ?_
 refine A.entsEq (Λ':=[.row 1 zo (List.replicate s.length nilV)]) (by rw [Int.toNat_natCast];rfl) ?_
 refine A.valE 18 rfl (x':=AI (s.length:Nat)) (ai_eq hl) ?_
 refine A.keep [0,1,2,3,9,17,18,19] rfl ?_
 refine A.rows0 1 ?_
 refine A.loopP (ι:=List (Value×List Int)) (fun hs=>(⟨[(0,rowsA s),(1,AI v),(2,AI i),(3,AI32 x),(9, .ms zo 1 s.length),(17,rowsA s),(18,AI (s.length:Nat)),(19,AI (hs.length:Nat))],[]⟩,[.rows 1 (rowsH hs), .row 1 zo (msL 1 (rowsH hs)++List.replicate (s.length-hs.length) nilV)]))
  (fun hs=>hs.map Prod.snd=s.take hs.length/\hs.length<=s.length) (fun hs=>s.length-hs.length) [] ⟨rfl,Nat.zero_le _⟩ rfl fun hs hi ih=>?_
 refine y_ ?_
 refine k_ (fun hc=>?_) fun hc=>?_
 ·simp at hc
  refine Exists.elim (at_exN (l:=s) (i:=hs.length) hc) fun r hr=>?_
  have hrl:=h2 r (List.mem_of_getElem? hr)
  refine y_ ?_
  refine i_ rfl (map_at hr) rfl ?_
  refine A.e rfl (clone_p r hrl) .refl (.refl _) fun z _=>?_
  refine l_ (Λ':=[.row 1 z (r.map AI32), .rows 1 (rowsH hs), .row 1 zo (msL 1 (rowsH hs)++List.replicate (s.length-hs.length) nilV)]) ?_
  refine A.indexRow rfl rfl rfl rfl rfl rfl rfl rfl (by omega) (by rw [List.length_append,rowsH_len,List.length_replicate];omega) rfl ?_
  refine A.storeRow rfl rfl rfl rfl rfl rfl rfl rfl rfl ?_ (xs':=msL 1 (rowsH (hs++[(z,r)]))++List.replicate (s.length-(hs++[(z,r)]).length) nilV) ?_ ?_
  ·rw [List.length_append,rowsH_len,List.length_replicate];omega
  ·have:=out_set hs z r (s.length-(hs++[(z,r)]).length)
   rw [show s.length-hs.length=s.length-(hs++[(z,r)]).length+1 by simp;omega]
   exact this
  refine A.rowsIn (.refl _) ?_
  refine y_ ?_
  refine A.valE 19 rfl (x':=AI (((hs++[(z,r)]).length:Nat):Int)) ?_ ?_
  ·rw [inc_eq hs.length (by omega)];simp
  refine A.entsEq (Λ':=[.rows 1 (rowsH (hs++[(z,r)])), .row 1 zo (msL 1 (rowsH (hs++[(z,r)]))++List.replicate (s.length-(hs++[(z,r)]).length) nilV)]) (by simp [rowsH]) ?_
  refine u_ (ih (hs++[(z,r)]) ⟨?_,by simp;omega⟩ (by simp;omega))
  simp [hi.1,List.take_add_one,hr]
 ·simp at hc
  have hlen:hs.length=s.length:=by omega
  have hsnd:hs.map Prod.snd=s:=by rw [hi.1,hlen,List.take_length]
  refine A.entsEq (Λ':=[.rows 1 (rowsH hs), .row 1 zo (msL 1 (rowsH hs))]) (by rw [hlen,Nat.sub_self];simp) ?_
  cases hv:atM s v i with
  |none=>
   rw [hv] at hat
   refine y_ ?_;refine c_ (hat) ?_
   refine A.ret1 (Λ':=[.rows 1 (rowsH hs), .row 1 zo (msL 1 (rowsH hs))]) rfl rfl rfl sl_ ⟨(zo,hs), .refl,rfl,?_⟩
   show hs.map Prod.snd=_
   rw [hsnd,putM,hv];rfl
  |some y=>
   rw [hv] at hat
   refine y_ ?_;refine c_ (hat) ?_
   unfold atM at hv
   by_cases hneg:v<0\/i<0
   ·rw [if_pos hneg] at hv;cases hv
   rw [if_neg hneg] at hv
   refine Exists.elim (Option.bind_eq_some_iff.1 hv) fun r hr=>?_
   have hgv:hs[v.toNat]? =(hs[v.toNat]?):=rfl
   have hv2:(hs.map Prod.snd)[v.toNat]? =some r:=by rw [hsnd];exact hr.1
   rw [List.getElem?_map] at hv2
   refine Exists.elim (Option.map_eq_some_iff.1 hv2) fun p hp=>?_
   have hpl:(rowsH hs)[v.toNat]? =some (p.1,r.map AI32):=by rw [rowsH,List.getElem?_map,hp.1,<-hp.2];rfl
   have hvl:v.toNat<hs.length:=(List.getElem?_eq_some_iff.1 hp.1).1
   have hrl:i.toNat<r.length:=(List.getElem?_eq_some_iff.1 hr.2).1
   refine A.indexRow rfl rfl rfl rfl rfl rfl rfl rfl (by omega) (by rw [rowsH_len];omega) rfl ?_
   refine A.loadRow rfl rfl rfl rfl rfl rfl (y':= .ms p.1 1 (r.map AI32).length) rfl (by rw [msL,List.getElem?_map,hpl];rfl) rfl rfl ?_
   refine A.rowsOut v.toNat hpl (.refl _) ?_
   refine y_ ?_
   refine A.indexRow rfl rfl rfl rfl rfl rfl rfl rfl (by omega) (by rw [List.length_map];omega) rfl ?_
   refine A.storeRow rfl rfl rfl rfl rfl rfl rfl rfl rfl (by rw [List.length_map];omega) (xs':=(r.set i.toNat x).map AI32) List.map_set.symm ?_
   refine A.rowsBack (.refl _) ?_
   have hp2:p.2=r:=hp.2
   refine A.entsEq (Λ':=[.rows 1 (rowsH (hs.set v.toNat (p.1,r.set i.toNat x))), .row 1 zo (msL 1 (rowsH (hs.set v.toNat (p.1,r.set i.toNat x))))]) (by rw [set_ms hp.1 _ (by rw [List.length_set,hp2]),set_rows hvl]) ?_
   refine y_ ?_
   refine A.ret1 (Λ':=[.rows 1 (rowsH (hs.set v.toNat (p.1,r.set i.toNat x))), .row 1 zo _]) rfl rfl rfl sl_ ⟨(zo,hs.set v.toNat (p.1,r.set i.toNat x)), .refl,rfl,?_⟩
   show (hs.set v.toNat (p.1,r.set i.toNat x)).map Prod.snd=putM s v i x
   rw [List.map_set,hsnd,putM,atM,if_neg hneg,hv,hr.1];rfl
def idxF{α:Type}(p:α->Bool):List α->Nat->Int
 | [],_=> -1
 |x::r,i=>if p x then (i:Int) else idxF p r (i+1)
theorem idxF_any{α:Type}(p:α->Bool): ∀(l:List α) (i:Nat),decide (0<=idxF p l i)=l.any p
 | [],_=>rfl
 |x::r,i=>by
  rw [idxF,List.any_cons]
  cases h:p x
  ·simp;exact idxF_any p r (i+1)
  ·simp
theorem drop_at{α:Type}{l:List α}{i:Nat}{x:α}(h:l[i]? =some x):l.drop i=x::l.drop (i+1):=by
 obtain ⟨h1,h2⟩:=List.getElem?_eq_some_iff.1 h
 rw [<-h2,List.getElem_cons_drop]
abbrev varsA(l:List KV):AV:= .sl 2 (l.map encV) none
theorem idxV_p(f:FuncId)(c:List AV)(p:KV->Bool)(hcb: ∀x,Pure Tryz.prog gs0 f (encV x::c) (AB (p x)))(l:List KV)(hb:l.length<=281474976710656):
 Pure Tryz.prog gs0 289 [varsA l, .fn f [] c] (AI (idxF p l 0)):=by
 refine p_ tt_ok Tryz.func289 19 fun w0 h0 F hgs=>?_
 (refine y_ ?_;refine A.valE 7 rfl (x':=AI (l.length:Nat)) (ai_eq (by rw [List.length_map])) ?_)
 refine A.keep [0,1,7,8] rfl ?_
 refine A.loopP (ι:=Nat) (fun i=>(⟨[(0,varsA l),(1, .fn f [] c),(7,AI (l.length:Nat)),(8,AI (i:Int))],[]⟩,[])) (fun i=>i<=l.length/\idxF p l 0=idxF p (l.drop i) i) (fun i=>l.length-i) 0 ⟨by omega,rfl⟩ rfl fun i hi ih=>?_
 refine y_ ?_
 refine k_ (fun hc=>?_) fun hc=>?_
 ·simp at hc
  refine Exists.elim (at_exN (l:=l) (i:=i) hc) fun x hx=>?_
  refine y_ ?_
  refine i_ rfl (map_at hx) rfl ?_
  refine A.c rfl (hcb x) SbL.refl ?_
  have h1:=hi.2
  rw [drop_at hx,idxF] at h1
  cases hp:p x with
  |true=>
   rw [hp] at h1
   refine y_ ?_;refine R_ ?_;rw [h1];exact .refl
  |false=>
   rw [hp] at h1
   refine y_ ?_
   refine A.valE 8 rfl (x':=AI ((i+1:Nat):Int)) (inc_eq i (by omega)) ?_
   refine u_ (ih (i+1) ⟨by omega,h1⟩ (by omega))
 ·simp at hc
  have:i=l.length:=by omega
  subst this
  refine y_ ?_;refine R_ ?_;rw [hi.2,List.drop_length];exact .refl
theorem hasV_p(f:FuncId)(c:List AV)(p:KV->Bool)(hcb: ∀x,Pure Tryz.prog gs0 f (encV x::c) (AB (p x)))(l:List KV)(hb:l.length<=281474976710656):
 Pure Tryz.prog gs0 222 [varsA l, .fn f [] c] (AB (l.any p)):=by
 refine p_ tt_ok Tryz.func222 9 fun w0 h0 F hgs=>?_
 refine y_ ?_
 refine c_ (idxV_p f c p hcb l hb) ?_;refine R_ ?_;refine Sb.eq (ab_eq ?_);exact idxF_any p l 0
theorem sounds1_p(v:KV):Pure Tryz.prog gs0 223 [encV v] (AB (!soundB v)):=by
 refine p_ tt_ok Tryz.func223 6 fun w0 h0 F hgs=>?_
 (refine b_ fun bx=>?_;refine y_ ?_);exact cr_ (sound_p v)
def soundsB(l:List KV):Bool:=decide (l.length<=256)&& !l.any (fun v=> !soundB v)
theorem sounds_p(l:List KV)(hb:l.length<=281474976710656):Pure Tryz.prog gs0 142 [varsA l] (AB (soundsB l)):=by
 have hl:((l.map encV).length:Int)=l.length:=by rw [List.length_map]
 by_cases h:l.length<=256
 ·refine p_ tt_ok Tryz.func142 11 fun w0 h0 F hgs=>?_
  refine g_ ?_
  refine A.valE 6 rfl (x':=AB true) (ab_eq (by simp;omega)) ?_
  refine c_ (hasV_p _ [] _ sounds1_p l hb) ?_;refine R_ ?_;refine Sb.eq (ab_eq ?_);simp [soundsB,h]
 ·refine p_ tt_ok Tryz.func142 11 fun w0 h0 F hgs=>?_
  refine g_ ?_
  refine e_ 6 rfl (x':=AB false) (ab_eq (by simp;omega)) ?_;refine R_ ?_;refine Sb.eq (ab_eq ?_);simp [soundsB,h]
def longI(v:KV):Int:=if v.dim<1 then 1 else v.dim
def mayRow(v:KV)(r:List Int):Bool:=(r.length:Int)==longI v&& !r.any (fun x=> !fitsB v.kind x)
def mayB(l:List KV)(s:List (List Int)):Bool:=decide (s.length=l.length)&&soundsB l&&allEq mayRow l s l.length
def storeM(l:List KV):List (List Int):=l.map fun v=>List.replicate (longI v).toNat 0
def closV(b1 b2:Nat):AV:= .fn 283 [] [.v (.pointer (some ⟨b1,0,none⟩)), .v (.pointer (some ⟨b2,0,none⟩))]
abbrev walkX(e:KE)(left deep:Int):Int->AV:=fun _=>AB (decide (fits e left (33-deep)))
abbrev walkL(b1 b2:Nat):Int->List AEnt:=fun i=>[.box b1 (AI i), .box b2 (closV b1 b2)]
abbrev walkP(e:KE)(left deep:Int):Int->Prop:=fun i=>fits e left (33-deep)->i=left-sz e
theorem pe_enc{z:Nat}(a:KE):AV.pe z (encK a)= .pe z (.ag [AU8 a.kind,AU8 a.oper,AU8 a.to,AI32 a.n,AI a.v, .sl 6 (encKl a.l) none]):=by rw [encK_eq]
theorem walkV(b1 b2:Nat): ∀(N:Nat) (e:KE) (left deep:Int),sz e<=N->wfK e->0<=left->left<=256->1<=deep->deep<=33->
 FunE Tryz.prog gs0 283 [encK e,AI deep, .v (.pointer (some ⟨b1,0,none⟩)), .v (.pointer (some ⟨b2,0,none⟩))] [.box b1 (AI left), .box b2 (closV b1 b2)] (walkX e left deep) (walkL b1 b2) (walkP e left deep)
 |0,e,left,deep,hn,_,_,_,_,_=>by have:=sz_pos e;omega
 |N+1,e,left,deep,hn,hw,r0,r1,d0,d1=>by
  have hw1:IntKind.i64.wrap (left-1)=left-1:=wr64 _ (by omega)
  have hp:=plain_p e hw
  rw [encK_eq] at hp⊢
  unfold FunE
  by_cases hz:left=0\/deep=33
  ·have hnf: ¬fits e left (33-deep):=fits_not (by omega)
   refine Fun.of (S:=tt) (fn:=Tryz.f283) (n:=36) tt_ok Tryz.func283 rfl rfl rfl rfl fun w0 h0 F hgs=>?_
   (refine gb_ fun bx=>?_;refine g_ ?_)
   refine e_ 17 rfl (x':=AB true) (ab_eq (by rw [hw1];simp;omega)) ?_;(refine A.ret1 (Λ':=[.box b1 _, .box b2 _]) rfl rfl rfl sl_ ⟨_,Sb.eq (ab_eq ?_),rfl,?_⟩;exact (decide_eq_false hnf).symm;exact fun h=>absurd h hnf)
  have hw2:IntKind.i64.wrap (deep+1)=deep+1:=wr64 _ (by omega)
  have h17: ∀b:Bool,(bif decide (IntKind.i64.wrap (left-1)<0) then true else decide (32<deep))=b->b=false:=by intro b hb;subst hb;rw [hw1];simp;omega
  by_cases hs:shapeB e=true
  case neg=>
   have hs:shapeB e=false:=by simpa using hs
   have hnf: ¬fits e left (33-deep):=fits_not (by simp [hs])
   refine Fun.of (S:=tt) (fn:=Tryz.f283) (n:=36) tt_ok Tryz.func283 rfl rfl rfl rfl fun w0 h0 F hgs=>?_
   (refine gb_ fun bx=>?_;refine g_ ?_)
   refine A.valE 17 rfl (x':=AB false) (ab_eq (h17 _ rfl)) ?_
   refine n_ (hp) ?_
   refine e_ 19 rfl (x':=AB false) (ab_eq hs) ?_;(refine A.ret1 (Λ':=[.box b1 _, .box b2 _]) rfl rfl rfl sl_ ⟨_,Sb.eq (ab_eq ?_),rfl,?_⟩;exact (decide_eq_false hnf).symm;exact fun h=>absurd h hnf)
  rcases shape_cases hs with ⟨k,o,t,n,v,rfl⟩|⟨k,o,t,n,v,a,rfl⟩|⟨k,o,t,n,v,a,b,rfl⟩
  ·simp only [encKl] at hp⊢
   have hf:=(fits0 (room:=left) (deep:=33-deep) hs).2 (by omega)
   refine Fun.of (S:=tt) (fn:=Tryz.f283) (n:=36) tt_ok Tryz.func283 rfl rfl rfl rfl fun w0 h0 F hgs=>?_
   (refine gb_ fun bx=>?_;refine g_ ?_)
   refine A.valE 17 rfl (x':=AB false) (ab_eq (h17 _ rfl)) ?_
   refine n_ (hp) ?_
   refine e_ 19 rfl (x':=AB true) (ab_eq hs) ?_
   refine A.loop1 ?_
   refine y_ ?_
   refine A.ret1 (Λ':=[.box b1 _, .box b2 _]) rfl rfl rfl sl_ ⟨_,Sb.eq (ab_eq ?_),rfl,?_⟩
   ·exact (decide_eq_true hf).symm
   ·intro _;simp [sz,szl,hw1]
  ·simp only [encKl] at hp⊢
   simp only [sz,szl] at hn
   have hf:=fits1 (room:=left) (deep:=33-deep) hs
   have ih:=walkV b1 b2 N a (IntKind.i64.wrap (left-1)) (deep+1) (by omega) (wfK1 hw) (by omega) (by omega) (by omega) (by omega)
   rw [encK_eq] at ih
   refine Fun.of (S:=tt) (fn:=Tryz.f283) (n:=36) tt_ok Tryz.func283 rfl rfl rfl rfl fun w0 h0 F hgs=>?_
   (refine gb_ fun bx=>?_;refine g_ ?_)
   refine A.valE 17 rfl (x':=AB false) (ab_eq (h17 _ rfl)) ?_
   refine n_ (hp) ?_
   refine e_ 19 rfl (x':=AB true) (ab_eq hs) ?_
   refine A.loop1 ?_
   refine y_ ?_
   refine j_ rfl rfl rfl ?_
   refine A.valE 27 rfl (pe_enc a) ?_
   (refine b_ fun bx=>?_;refine y_ ?_)
   refine A.valE 32 rfl (x':=AI (deep+1)) (ai_eq hw2) ?_
   refine A.e rfl ih .refl (List.perm_append_comm (l₁:=[_,_]) (l₂:=[_,_])) fun lf hlf=>?_
   refine y_ ?_
   have e3:33-deep-1=33-(deep+1):=by omega
   rw [e3] at hf
   rw [hw1] at hlf
   refine k_ (fun hc=>?_) fun hc=>?_
   ·simp [hw1] at hc
    have hnf: ¬fits ⟨k,o,t,n,v,[a]⟩ left (33-deep):=fun h=>hc (hf.1 h)
    refine y_ ?_;(refine A.ret1 (Λ':=[.box b1 _, .box b2 _]) rfl rfl rfl sl_ ⟨_,Sb.eq (ab_eq ?_),rfl,?_⟩;exact (decide_eq_false hnf).symm;exact fun h=>absurd h hnf)
   ·simp [hw1] at hc
    refine y_ ?_;refine A.again ?_;refine y_ ?_;refine A.ret1 (Λ':=[.box b1 _, .box b2 _]) rfl rfl rfl sl_ ⟨_,Sb.eq (ab_eq ?_),rfl,?_⟩
    ·exact (decide_eq_true (hf.2 hc)).symm
    ·intro _;have:=hlf hc;simp [sz,szl];omega
  ·simp only [encKl] at hp⊢
   simp only [sz,szl] at hn
   have hf:=fits2 (room:=left) (deep:=33-deep) hs
   have ha:=sz_pos a
   have hb:=sz_pos b
   have ih:=walkV b1 b2 N a (IntKind.i64.wrap (left-1)) (deep+1) (by omega) (wfK2 hw).1 (by omega) (by omega) (by omega) (by omega)
   have e3:33-deep-1=33-(deep+1):=by omega
   rw [e3] at hf
   rw [encK_eq] at ih
   refine Fun.of (S:=tt) (fn:=Tryz.f283) (n:=36) tt_ok Tryz.func283 rfl rfl rfl rfl fun w0 h0 F hgs=>?_
   (refine gb_ fun bx=>?_;refine g_ ?_)
   refine A.valE 17 rfl (x':=AB false) (ab_eq (h17 _ rfl)) ?_
   refine n_ (hp) ?_
   refine e_ 19 rfl (x':=AB true) (ab_eq hs) ?_
   refine A.loop1 ?_
   refine y_ ?_
   refine j_ rfl rfl rfl ?_
   refine A.valE 27 rfl (pe_enc a) ?_
   (refine b_ fun bx=>?_;refine y_ ?_)
   refine A.valE 32 rfl (x':=AI (deep+1)) (ai_eq hw2) ?_
   refine A.e rfl ih .refl (List.perm_append_comm (l₁:=[_,_]) (l₂:=[_,_])) fun lf hlf=>?_
   refine l_ (Λ':=[.box b1 (AI lf), .box b2 (closV b1 b2)]) ?_
   refine y_ ?_
   rw [hw1] at hlf
   refine k_ (fun hc=>?_) fun hc=>?_
   ·simp [hw1] at hc
    have hnf: ¬fits ⟨k,o,t,n,v,[a,b]⟩ left (33-deep):=fun h=>hc (hf.1 h).1
    refine y_ ?_;(refine A.ret1 (Λ':=[.box b1 _, .box b2 _]) rfl rfl rfl sl_ ⟨_,Sb.eq (ab_eq ?_),rfl,?_⟩;exact (decide_eq_false hnf).symm;exact fun h=>absurd h hnf)
   simp [hw1] at hc
   have hlf:=hlf hc
   have h2:=hc.2.1
   have ih2:=walkV b1 b2 N b lf (deep+1) (by omega) (wfK2 hw).2 (by omega) (by omega) (by omega) (by omega)
   rw [encK_eq] at ih2
   refine y_ ?_;refine A.again ?_;refine y_ ?_
   refine j_ rfl rfl rfl ?_
   refine A.valE 27 rfl (pe_enc b) ?_
   (refine b_ fun bx=>?_;refine y_ ?_)
   refine A.valE 32 rfl (x':=AI (deep+1)) (ai_eq hw2) ?_
   refine A.e rfl ih2 .refl (List.perm_append_comm (l₁:=[_]) (l₂:=[_,_])) fun lf2 hlf2=>?_
   have e4:left-(1+(sz a:Int))=lf:=by omega
   rw [e4] at hf
   refine y_ ?_
   refine k_ (fun hc=>?_) fun hc=>?_
   ·simp at hc
    have hnf: ¬fits ⟨k,o,t,n,v,[a,b]⟩ left (33-deep):=fun h=>hc (hf.1 h).2
    refine y_ ?_;(refine A.ret1 (Λ':=[.box b1 _, .box b2 _]) rfl rfl rfl sl_ ⟨_,Sb.eq (ab_eq ?_),rfl,?_⟩;exact (decide_eq_false hnf).symm;exact fun h=>absurd h hnf)
   ·rename_i hca
    simp at hc
    refine y_ ?_;refine A.again ?_;refine y_ ?_;refine A.ret1 (Λ':=[.box b1 _, .box b2 _]) rfl rfl rfl sl_ ⟨_,Sb.eq (ab_eq ?_),rfl,?_⟩
    ·exact (decide_eq_true (hf.2 ⟨hca,hc⟩)).symm
    ·intro _;have:=hlf2 hc;simp [sz,szl];omega
theorem evalid_p(e:KE)(hw:wfK e):Pure Tryz.prog gs0 216 [encK e] (AB (decide (valid e))):=by
 have hp:=fun b1 b2=>walkV b1 b2 (sz e) e 256 1 (Nat.le_refl _) hw (by decide) (by decide) (by decide) (by decide)
 simp only [encK_eq e] at hp
 rw [encK_eq]
 refine p_ tt_ok Tryz.func216 9 fun w0 h0 F hgs=>?_
 (refine b_ fun bx=>?_;refine b_ fun bx=>?_;refine b_ fun bx=>?_;refine y_ ?_)
 refine A.e rfl (hp _ _) .refl (List.Perm.swap _ _ _) fun lf _=>?_
 exact yr_
abbrev FK:=Int->Bool
def fitC(l:List KV)(k o t n v:Int)(fs:List FK)(kind:Int):Bool:=
 if k=1 then (kind==1||(kind==2&&decide (0<=n)&&decide (n<=255))||(kind==3&&(n==0||n==1)))
 else if k=2 then (match l[v.toNat]? with|some x=>x.dim==0&&x.kind==kind|none=>false)
 else if k=3 then (match l[v.toNat]?,fs with|some x,f::_=>decide (0<x.dim)&&x.kind==kind&&f 1|_,_=>false)
 else match fs with
 | []=>false
 |f::r=>if k=6 then t==kind&&(f 1||f 2||f 3)
  else if k=4 then (if o=26 then kind==3&&f 3 else kind==1&&f 1)
  else match r with
  | []=>false
  |g::_=>if o<=13 then kind==1&&(f 1&&g 1) else if kind≠3 then false
   else if o=14\/o=15 then (f 1&&g 1)||(f 2&&g 2)||(f 3&&g 3)
   else if o<=19 then (f 1&&g 1)||(f 2&&g 2)
   else if o=22 then f 1&&g 1 else f 3&&g 3
mutual
def fitsM(l:List KV):KE->FK
 |⟨k,o,t,n,v,a⟩=>fitC l k o t n v (fitsL l a)
def fitsL(l:List KV):List KE->List FK
 | []=>[]
 |e::r=>fitsM l e::fitsL l r
end
def primB(k:Int):Bool:=decide (1<=k)&&decide (k<=3)
theorem kprim_p(k:Int):Pure Tryz.prog gs0 131 [AU8 k] (AB (primB k)):=by
 refine p_ tt_ok Tryz.func131 9 fun w0 h0 F hgs=>?_
 refine y_ ?_
 ((fail_if_success (refine A.lit? rfl ?_));refine A.gS rfl (fun hc=>?_) (fun hc=>?_))
 ·refine y_ ?_;refine R_ ?_;refine Sb.eq (ab_eq ?_);rw [primB,hc];rfl
 ·refine y_ ?_;refine R_ ?_;refine Sb.eq (ab_eq ?_);rw [primB,hc];rfl
theorem fields_p(e:KE)(hw:wfK e):Pure Tryz.prog gs0 379 [encK e] (AB (shapeB e)):=by
 obtain ⟨k,o,t,n,v,l⟩:=e
 simp only [wfK,u8,i32,i64] at hw
 obtain ⟨hw,_⟩:=hw
 rw [encK]
 by_cases h1:k=1
 ·subst h1;refine p_ tt_ok Tryz.func379 87 fun w0 h0 F hgs=>?_
  (refine gb_ fun bx=>?_;refine gb_ fun bx=>?_;refine g_ ?_);refine R_ ?_;(refine Sb.eq (ab_iff ?_);simp only [shapeB,KE.kind,KE.oper,KE.to,KE.n,KE.v,KE.l,encKl_len];generalize l.length=len at*;(try simp at hc);(try simp at hd);simp;omega)
 by_cases h2:k=2
 ·subst h2;refine p_ tt_ok Tryz.func379 87 fun w0 h0 F hgs=>?_
  (refine gb_ fun bx=>?_;refine gb_ fun bx=>?_;refine g_ ?_);refine R_ ?_;(refine Sb.eq (ab_iff ?_);simp only [shapeB,KE.kind,KE.oper,KE.to,KE.n,KE.v,KE.l,encKl_len];generalize l.length=len at*;(try simp at hc);(try simp at hd);simp;omega)
 by_cases h3:k=3
 ·subst h3;refine p_ tt_ok Tryz.func379 87 fun w0 h0 F hgs=>?_
  (refine gb_ fun bx=>?_;refine gb_ fun bx=>?_;refine g_ ?_);refine R_ ?_;(refine Sb.eq (ab_iff ?_);simp only [shapeB,KE.kind,KE.oper,KE.to,KE.n,KE.v,KE.l,encKl_len];generalize l.length=len at*;(try simp at hc);(try simp at hd);simp;omega)
 by_cases h4:k=4
 ·subst h4;refine p_ tt_ok Tryz.func379 87 fun w0 h0 F hgs=>?_
  (refine gb_ fun bx=>?_;refine gb_ fun bx=>?_;refine g_ ?_);refine R_ ?_;(refine Sb.eq (ab_iff ?_);simp only [shapeB,KE.kind,KE.oper,KE.to,KE.n,KE.v,KE.l,encKl_len];generalize l.length=len at*;(try simp at hc);(try simp at hd);simp;omega)
 by_cases h5:k=5
 ·subst h5;refine p_ tt_ok Tryz.func379 87 fun w0 h0 F hgs=>?_
  (refine gb_ fun bx=>?_;refine gb_ fun bx=>?_;refine g_ ?_);refine R_ ?_;(refine Sb.eq (ab_iff ?_);simp only [shapeB,KE.kind,KE.oper,KE.to,KE.n,KE.v,KE.l,encKl_len];generalize l.length=len at*;(try simp at hc);(try simp at hd);simp;omega)
 by_cases h6:k=6
 ·subst h6;refine p_ tt_ok Tryz.func379 87 fun w0 h0 F hgs=>?_
  (refine gb_ fun bx=>?_;refine gb_ fun bx=>?_;refine g_ ?_);refine n_ (kprim_p _) ?_;refine g_ ?_;refine R_ ?_
  refine Sb.eq (ab_iff ?_);simp only [shapeB,primB,KE.kind,KE.oper,KE.to,KE.n,KE.v,KE.l,encKl_len];generalize l.length=len at*;simp;omega
 refine p_ tt_ok Tryz.func379 87 fun w0 h0 F hgs=>?_
 (repeat (first|first|refine A.s rfl ?_|refine A.r rfl rfl ?_|refine A.w rfl rfl ?_|refine A.p rfl ?_|refine A.b rfl fun bx=>?_|refine A.t rfl fun bl=>?_|refine A.cond rfl (fun h=>(by simp at h;omega)) (fun _=>?_)|first|refine A.step rfl ?_|refine A.v rfl rfl ?_));refine R_ ?_;refine Sb.eq ?_;simp [shapeB, *]
def fitsKl(l:List KE)(room deep:Int):Prop:=finel l=true/\(szl l:Int)<=room/\(htl l:Int)<=deep
instance (l:List KE) (room deep:Int):Decidable (fitsKl l room deep):=by unfold fitsKl;infer_instance
theorem sz_eq(e:KE):sz e=1+szl e.l:=by obtain ⟨k,o,t,n,v,l⟩:=e;rw [sz]
theorem fine_eq(e:KE):fine e=(shapeB e&&finel e.l):=by obtain ⟨k,o,t,n,v,l⟩:=e;rw [fine]
theorem fits_l{e:KE}{room deep:Int}(hr:1<=room)(hd:1<=deep)(hs:shapeB e=true):fits e room deep↔fitsKl e.l (room-1) (deep-1):=by
 unfold fits fitsKl
 rw [fine_eq,hs,Bool.true_and,sz_eq,ht_eq]
 constructor
 ·rintro ⟨h1,h2,h3⟩;exact ⟨h1,by omega,by omega⟩
 ·rintro ⟨h1,h2,h3⟩;exact ⟨h1,by omega,by omega⟩
theorem szl_append(a b:List KE):szl (a++b)=szl a+szl b:=by
 induction a with
 |nil=>simp [szl]
 |cons x r ih=>rw [List.cons_append,szl,szl,ih];omega
theorem htl_append(a b:List KE):htl (a++b)=max (htl a) (htl b):=by
 induction a with
 |nil=>simp [htl]
 |cons x r ih=>rw [List.cons_append,htl,htl,ih];omega
theorem finel_append(a b:List KE):finel (a++b)=(finel a&&finel b):=by
 induction a with
 |nil=>simp [finel]
 |cons x r ih=>rw [List.cons_append,finel,finel,ih,Bool.and_assoc]
theorem fitsKl_snoc{a:List KE}{x:KE}{room deep:Int}(ha:fitsKl a room deep):fitsKl (a++[x]) room deep↔fits x (room-szl a) deep:=by
 obtain ⟨h1,h2,h3⟩:=ha
 unfold fitsKl fits
 rw [finel_append,szl_append,htl_append,h1,Bool.true_and]
 simp only [finel,szl,htl,Bool.and_true]
 constructor
 ·rintro ⟨g1,g2,g3⟩;exact ⟨g1,by omega,by omega⟩
 ·rintro ⟨g1,g2,g3⟩;exact ⟨g1,by omega,by omega⟩
theorem fitsKl_take{l:List KE}{room deep:Int}(h:fitsKl l room deep)(i:Nat):fitsKl (l.take i) room deep:=by
 obtain ⟨h1,h2,h3⟩:=h
 rw [<-List.take_append_drop i l] at h1 h2 h3
 rw [finel_append,Bool.and_eq_true] at h1
 rw [szl_append] at h2
 rw [htl_append] at h3
 exact ⟨h1.1,by omega,by omega⟩
theorem szl_le: ∀{l:List KE} {x:KE},x∈l->sz x<=szl l
 | [],_,h=>by cases h
 |y::r,x,h=>by
  rw [szl]
  rcases List.mem_cons.1 h with rfl|h
  ·omega
  ·have:=szl_le h;omega
theorem wfKl_mem: ∀{l:List KE},wfKl l-> ∀x,x∈l->wfK x
 | [],_,x,h=>by cases h
 |y::r,hw,x,h=>by
  rw [wfKl] at hw
  rcases List.mem_cons.1 h with rfl|h
  ·exact hw.1
  ·exact wfKl_mem hw.2 x h
theorem wfK_l{e:KE}(h:wfK e):wfKl e.l:=by obtain ⟨k,o,t,n,v,l⟩:=e;rw [wfK] at h;exact h.2
theorem encKl_at{l:List KE}{i:Nat}{x:KE}(h:l[i]? =some x):(encKl l)[i]? =some (encK x):=by rw [encKl_map];exact map_at h
abbrev cellsK(e:KE):AV:= .ag [AU8 e.kind,AU8 e.oper,AU8 e.to,AI32 e.n,AI e.v, .sl 6 (encKl e.l) none]
abbrev ptrA(b:Nat):AV:= .v (.pointer (some ⟨b,0,none⟩))
def closK(b1 b2:Nat):AV:= .fn 378 [] [ptrA b1,ptrA b2]
abbrev visKX(e:KE)(left deep:Int):Int->AV:=fun _=>AB (decide (fits e left (33-deep)))
abbrev visKL(b1 b2:Nat):Int->List AEnt:=fun i=>[.box b1 (AI i), .box b2 (closK b1 b2)]
abbrev visKP(e:KE)(left deep:Int):Int->Prop:=fun i=>fits e left (33-deep)->i=left-sz e
def VisK(b1 b2:Nat)(x:KE)(left deep:Int):Prop:=FunE Tryz.prog gs0 378 [cellsK x,AI deep,ptrA b1,ptrA b2] [.box b1 (AI left), .box b2 (closK b1 b2)] (visKX x left deep) (visKL b1 b2) (visKP x left deep)
theorem cloK_p(b1 b2 b3:Nat)(x:KE)(left deep:Int)(hd:IntKind.i64.wrap (deep+1)=deep+1)(hcb:VisK b1 b2 x left (deep+1)):
 FunE Tryz.prog gs0 381 [cellsK x,ptrA b2,ptrA b3] [.box b1 (AI left), .box b2 (closK b1 b2), .box b3 (AI deep)] (fun _:Int=>AB (!decide (fits x left (33-(deep+1))))) (fun i=>[.box b1 (AI i), .box b2 (closK b1 b2), .box b3 (AI deep)]) (visKP x left (deep+1)):=by
 unfold FunE
 refine Fun.of (S:=tt) (fn:=Tryz.f381) (n:=11) tt_ok Tryz.func381 rfl rfl rfl rfl fun w0 h0 F hgs=>?_
 (refine b_ fun bx=>?_;refine y_ ?_)
 refine A.valE 8 rfl (x':=AI (deep+1)) (ai_eq hd) ?_
 refine A.e rfl hcb .refl (List.perm_middle (a:=_) (l₁:=[_,_]) (l₂:=[_])).symm fun lf hlf=>?_
 refine y_ ?_
 refine A.ret1 (Λ':=[.box b1 _, .box b2 _, .box b3 _]) rfl rfl rfl sl_ ⟨lf, .refl,rfl,hlf⟩
abbrev idxKP(l:List KE)(left D:Int):Int×Int->Prop:=fun p=>(p.1= -1\/0<=p.1)/\(p.1= -1↔fitsKl l left D)/\(p.1= -1->p.2=left-szl l)
theorem idxK_p(b1 b2 b3:Nat)(l:List KE)(left deep:Int)(hd:IntKind.i64.wrap (deep+1)=deep+1)(hl:l.length<=2)(h0:0<=left)(h33:0<=33-(deep+1))
 (hcb: ∀x,x∈l-> ∀lf,0<=lf->lf<=left->VisK b1 b2 x lf (deep+1)):
 FunE Tryz.prog gs0 400 [.sl 6 (encKl l) none, .fn 381 [] [ptrA b2,ptrA b3]] [.box b1 (AI left), .box b2 (closK b1 b2), .box b3 (AI deep)]
  (fun p:Int×Int=>AI p.1) (fun p=>[.box b1 (AI p.2), .box b2 (closK b1 b2), .box b3 (AI deep)]) (idxKP l left (33-(deep+1))):=by
 unfold FunE
 refine Fun.of (S:=tt) (fn:=Tryz.f400) (n:=19) tt_ok Tryz.func400 rfl rfl rfl rfl fun w0 h0 F hgs=>?_
 refine y_ ?_
 refine A.valE 7 rfl (x':=AI (l.length:Nat)) (ai_eq (by rw [encKl_len])) ?_
 refine A.entsEq (Λ':=[.box b1 (AI (left-(szl (l.take 0):Nat))), .box b2 (closK b1 b2), .box b3 (AI deep)]) (by simp [szl]) ?_
 refine A.keep [0,1,7,8] rfl ?_
 refine A.loopP (ι:=Nat×Int) (fun p=>(⟨[(0, .sl 6 (encKl l) none),(1, .fn 381 [] [ptrA b2,ptrA b3]),(7,AI (l.length:Nat)),(8,AI (p.1:Nat))],[]⟩,[.box b1 (AI p.2), .box b2 (closK b1 b2), .box b3 (AI deep)]))
  (fun p=>p.1<=l.length/\fitsKl (l.take p.1) left (33-(deep+1))/\p.2=left-(szl (l.take p.1):Nat)) (fun p=>l.length-p.1) (0,left-(szl (l.take 0):Nat)) ⟨Nat.zero_le _,⟨by simp [finel],by simp [szl];omega,by simp [htl];omega⟩,rfl⟩ rfl fun p hi ih=>?_
 obtain ⟨i,lf⟩:=p
 obtain ⟨hi1,hi2,hi3⟩:=hi
 simp only at hi1 hi2 hi3
 have hsz2:=hi2.2.1
 refine y_ ?_
 refine k_ (fun hc=>?_) fun hc=>?_
 ·simp at hc
  refine Exists.elim (at_exN (l:=l) (i:=i) (by omega)) fun x hx=>?_
  have hxm:=List.mem_of_getElem? hx
  have htk:l.take (i+1)=l.take i++[x]:=by rw [List.take_add_one,hx];rfl
  have hsn:=fitsKl_snoc (x:=x) hi2
  rw [<-htk,<-hi3] at hsn
  have hcx:=cloK_p b1 b2 b3 x lf deep hd (hcb x hxm lf (by omega) (by omega))
  refine y_ ?_
  refine i_ rfl (encKl_at hx) (encK_eq x) ?_
  refine A.e rfl hcx .refl (by exact List.Perm.refl _) fun lf2 hlf2=>?_
  by_cases hfx:fits x lf (33-(deep+1))
  ·refine e_ 16 rfl (x':=AB false) (ab_eq (by simp [hfx])) ?_
   refine A.valE 8 rfl (x':=AI ((i+1:Nat):Int)) (inc_eq i (by omega)) ?_
   refine u_ (ih (i+1,lf2) ⟨by show i+1<=_;omega,hsn.2 hfx,?_⟩ (by show _-(i+1)<_-i;omega))
   show lf2=left-(szl (l.take (i+1)):Nat)
   rw [hlf2 hfx,htk,szl_append,hi3];simp [szl];omega
  ·have hnf: ¬fitsKl l left (33-(deep+1)):=fun hf=>hfx (hsn.1 (fitsKl_take hf (i+1)))
   refine e_ 16 rfl (x':=AB true) (ab_eq (by simp [hfx])) ?_
   refine A.ret1 (Λ':=[.box b1 _, .box b2 _, .box b3 _]) rfl rfl rfl sl_ ⟨((i:Int),lf2), .refl,rfl, .inr (by simp only;omega),⟨fun h=>by simp only at h;omega,fun h=>absurd h hnf⟩,fun h=>by simp only at h;omega⟩
 ·simp at hc
  have hil:i=l.length:=by omega
  rw [hil,List.take_length] at hi2 hi3
  refine y_ ?_
  refine A.ret1 (Λ':=[.box b1 _, .box b2 _, .box b3 _]) rfl rfl rfl sl_ ⟨((-1:Int),lf), .refl,rfl, .inl rfl,⟨fun _=>hi2,fun _=>rfl⟩,fun _=>hi3⟩
theorem hasK_p(b1 b2 b3:Nat)(l:List KE)(left deep:Int)(hd:IntKind.i64.wrap (deep+1)=deep+1)(hl:l.length<=2)(h0:0<=left)(h33:0<=33-(deep+1))
 (hcb: ∀x,x∈l-> ∀lf,0<=lf->lf<=left->VisK b1 b2 x lf (deep+1)):
 FunE Tryz.prog gs0 380 [.sl 6 (encKl l) none, .fn 381 [] [ptrA b2,ptrA b3]] [.box b1 (AI left), .box b2 (closK b1 b2), .box b3 (AI deep)]
  (fun p:Int×Int=>AB (decide (0<=p.1))) (fun p=>[.box b1 (AI p.2), .box b2 (closK b1 b2), .box b3 (AI deep)]) (idxKP l left (33-(deep+1))):=by
 have hi:=idxK_p b1 b2 b3 l left deep hd hl h0 h33 hcb
 unfold FunE
 refine Fun.of (S:=tt) (fn:=Tryz.f380) (n:=9) tt_ok Tryz.func380 rfl rfl rfl rfl fun w0 h0 F hgs=>?_
 refine y_ ?_
 refine A.e rfl hi .refl (by exact List.Perm.refl _) fun p hp=>?_
 refine y_ ?_
 refine A.ret1 (Λ':=[.box b1 _, .box b2 _, .box b3 _]) rfl rfl rfl sl_ ⟨p, .refl,rfl,hp⟩
theorem visK_p(b1 b2:Nat): ∀(N:Nat) (e:KE) (left deep:Int),sz e<=N->wfK e->0<=left->left<=256->1<=deep->deep<=33->VisK b1 b2 e left deep
 |0,e,left,deep,hn,_,_,_,_,_=>by have:=sz_pos e;omega
 |N+1,e,left,deep,hn,hw,r0,r1,d0,d1=>by
  have hw1:IntKind.i64.wrap (left-1)=left-1:=wr64 _ (by omega)
  have hw2:IntKind.i64.wrap (deep+1)=deep+1:=wr64 _ (by omega)
  have hp:=fields_p e hw
  rw [encK_eq] at hp
  unfold VisK FunE
  by_cases hz:left=0
  ·have hnf: ¬fits e left (33-deep):=fits_not (by omega)
   refine Fun.of (S:=tt) (fn:=Tryz.f378) (n:=25) tt_ok Tryz.func378 rfl rfl rfl rfl fun w0 h0 F hgs=>?_
   (refine b_ fun bx=>?_;refine b_ fun bx=>?_;refine y_ ?_)
   refine A.valE 10 rfl (x':=AB true) (ab_eq (by rw [hw1];simp;omega)) ?_
   refine e_ 11 rfl (x':=AB true) (ab_eq (by rw [hw1];simp;omega)) ?_;(refine A.ret1 (Λ':=[.box b1 _, .box b2 _]) rfl rfl rfl sl_ ⟨_,Sb.eq (ab_eq ?_),rfl,?_⟩;exact (decide_eq_false hnf).symm;exact fun h=>absurd h hnf)
  by_cases hd33:deep=33
  ·have hnf: ¬fits e left (33-deep):=fits_not (by omega)
   refine Fun.of (S:=tt) (fn:=Tryz.f378) (n:=25) tt_ok Tryz.func378 rfl rfl rfl rfl fun w0 h0 F hgs=>?_
   (refine b_ fun bx=>?_;refine b_ fun bx=>?_;refine y_ ?_)
   refine e_ 11 rfl (x':=AB false) (ab_eq (by rw [hw1];simp;omega)) ?_
   refine e_ 15 rfl (x':=AB true) (ab_eq (by simp;omega)) ?_;(refine A.ret1 (Λ':=[.box b1 _, .box b2 _]) rfl rfl rfl sl_ ⟨_,Sb.eq (ab_eq ?_),rfl,?_⟩;exact (decide_eq_false hnf).symm;exact fun h=>absurd h hnf)
  by_cases hs:shapeB e=true
  case neg=>
   have hs:shapeB e=false:=by simpa using hs
   have hnf: ¬fits e left (33-deep):=fits_not (by simp [hs])
   rw [hs] at hp
   refine Fun.of (S:=tt) (fn:=Tryz.f378) (n:=25) tt_ok Tryz.func378 rfl rfl rfl rfl fun w0 h0 F hgs=>?_
   (refine b_ fun bx=>?_;refine b_ fun bx=>?_;refine y_ ?_)
   refine e_ 11 rfl (x':=AB false) (ab_eq (by rw [hw1];simp;omega)) ?_
   refine e_ 15 rfl (x':=AB false) (ab_eq (by simp;omega)) ?_;refine c_ hp ?_;(refine A.ret1 (Λ':=[.box b1 _, .box b2 _]) rfl rfl rfl sl_ ⟨_,Sb.eq (ab_eq ?_),rfl,?_⟩;exact (decide_eq_false hnf).symm;exact fun h=>absurd h hnf)
  rw [hs] at hp
  have hfl:=fits_l (e:=e) (room:=left) (deep:=33-deep) (by omega) (by omega) hs
  rw [show 33-deep-1=33-(deep+1) by omega] at hfl
  have hll:e.l.length<=2:=by rcases shape_cases hs with ⟨k,o,t,n,v,rfl⟩|⟨k,o,t,n,v,a,rfl⟩|⟨k,o,t,n,v,a,b,rfl⟩<;>simp
  have hse:=sz_eq e
  have hhas:=fun b3=>hasK_p b1 b2 b3 e.l (left-1) deep hw2 hll (by omega) (by omega) fun x hx lf l0 l1=>visK_p b1 b2 N x lf (deep+1) (by have:=szl_le hx;omega) (wfKl_mem (wfK_l hw) x hx) l0 (by omega) (by omega) (by omega)
  refine Fun.of (S:=tt) (fn:=Tryz.f378) (n:=25) tt_ok Tryz.func378 rfl rfl rfl rfl fun w0 h0 F hgs=>?_
  (refine b_ fun bx=>?_;refine b_ fun bx=>?_;refine y_ ?_)
  refine e_ 11 rfl (x':=AB false) (ab_eq (by rw [hw1];simp;omega)) ?_
  refine e_ 15 rfl (x':=AB false) (ab_eq (by simp;omega)) ?_;refine c_ hp ?_
  refine A.entsEq (Λ':=[.box _ (AI deep), .box _ (cellsK e), .box b1 (AI (left-1)), .box b2 (closK b1 b2)]) (by rw [hw1]) ?_
  refine A.e (Λ2:=[.box _ (cellsK e)]) rfl (hhas _) .refl (List.perm_append_comm (l₁:=[_,_]) (l₂:=[_,_])) fun p hpp=>?_
  refine A.valE 23 rfl (x':=AB (decide (¬fits e left (33-deep)))) (ab_eq ?_) ?_
  ·rw [Bool.eq_iff_iff]
   simp only [decide_eq_true_eq,hfl,<-hpp.2.1]
   have:=hpp.1
   constructor
   ·intro h;omega
   ·intro h;omega
  refine y_ ?_
  refine A.ret1 (Λ':=[.box b1 _, .box b2 _]) rfl rfl rfl sl_ ⟨p.2,Sb.eq (ab_eq (by simp)),rfl,fun h=>?_⟩
  have:=hpp.2.2 (hpp.2.1.2 (hfl.1 h))
  omega
theorem kvalid_p(e:KE)(hw:wfK e):Pure Tryz.prog gs0 332 [encK e] (AB (decide (valid e))):=by
 have hp:=fun b1 b2=>visK_p b1 b2 (sz e) e 256 1 (Nat.le_refl _) hw (by decide) (by decide) (by decide) (by decide)
 rw [encK_eq]
 refine p_ tt_ok Tryz.func332 9 fun w0 h0 F hgs=>?_
 (refine b_ fun bx=>?_;refine b_ fun bx=>?_;refine b_ fun bx=>?_;refine y_ ?_)
 refine A.e rfl (hp _ _) .refl (List.Perm.swap _ _ _) fun lf _=>?_
 exact yr_
abbrev AU64(n:Int):AV:= .v (.int .u64 n)
theorem au64_eq{a b:Int}(h:a=b):AU64 a=AU64 b:=by rw [h]
def kS(a b c:Bool):Int:=(if a then 2 else 0)+(if b then 4 else 0)+(if c then 8 else 0)
abbrev kF(f:FK):Int:=kS (f 1) (f 2) (f 3)
theorem kS_ones(a b c:Bool):bitsOf .and .u64 18446744073709551615 (kS a b c)=kS a b c:=by cases a<;>cases b<;>cases c<;>kernel_rfl
theorem kS_and(a b c a' b' c':Bool):bitsOf .and .u64 (kS a b c) (kS a' b' c')=kS (a&&a') (b&&b') (c&&c'):=by cases a<;>cases b<;>cases c<;>cases a'<;>cases b'<;>cases c'<;>kernel_rfl
def hasB(n k:Int):Bool:=bitsOf .and .u64 (arV .shr .u64 n k) 1==1
theorem has_1(a b c:Bool):hasB (kS a b c) 1=a:=by cases a<;>cases b<;>cases c<;>kernel_rfl
theorem has_2(a b c:Bool):hasB (kS a b c) 2=b:=by cases a<;>cases b<;>cases c<;>kernel_rfl
theorem has_3(a b c:Bool):hasB (kS a b c) 3=c:=by cases a<;>cases b<;>cases c<;>kernel_rfl
theorem kS_ne(a b c:Bool):(kS a b c !=0)=(a||b||c):=by cases a<;>cases b<;>cases c<;>rfl
theorem kS_6(a b c:Bool):(bitsOf .and .u64 (kS a b c) 6 !=0)=(a||b):=by cases a<;>cases b<;>cases c<;>kernel_rfl
def ofI(l:List Int):Int:=l.foldl (fun s k=>bitsOf .or .u64 s (arV .shl .u64 1 k)) 0
theorem has_p(n k:Int)(hk:0<=k/\k<64):Pure Tryz.prog gs0 334 [AU64 n,AU8 k] (AB (hasB n k)):=by
 refine p_ tt_ok Tryz.func334 10 fun w0 h0 F hgs=>?_
 refine y_ ?_
 refine A.shift rfl rfl rfl rfl rfl rfl (by omega) ?_
 exact yr_
theorem of_p(l:List Int)(hl: ∀k,k∈l->0<=k/\k<64)(hb:l.length<=10):Pure Tryz.prog gs0 383 [.sl 1 (l.map AU8) none] (AU64 (ofI l)):=by
 refine p_ tt_ok Tryz.func383 17 fun w0 h0 F hgs=>?_
 refine y_ ?_
 refine A.valE 6 rfl (x':=AI (l.length:Nat)) (ai_eq (by rw [List.length_map])) ?_
 refine A.keep [2,5,6,7] rfl ?_
 refine A.loopP (ι:=Nat×Int) (fun p=>(⟨[(2,AU64 p.2),(5, .sl 1 (l.map AU8) none),(6,AI (l.length:Nat)),(7,AI (p.1:Nat))],[]⟩,[])) (fun p=>p.1<=l.length/\(l.drop p.1).foldl (fun s k=>bitsOf .or .u64 s (arV .shl .u64 1 k)) p.2=ofI l) (fun p=>l.length-p.1) (0,0) ⟨by simp,rfl⟩ rfl fun p hi ih=>?_
 obtain ⟨i,s⟩:=p
 simp only at hi ih⊢
 refine y_ ?_
 refine k_ (fun hc=>?_) fun hc=>?_
 ·simp at hc
  refine Exists.elim (at_exN (l:=l) (i:=i) (by omega)) fun k hk=>?_
  have hkb:=hl k (List.mem_of_getElem? hk)
  have h1:=hi.2
  rw [drop_at hk,List.foldl_cons] at h1
  refine y_ ?_
  refine i_ rfl (map_at hk) rfl ?_
  refine A.shift rfl rfl rfl rfl rfl rfl (by omega) ?_
  refine y_ ?_
  refine A.valE 7 rfl (x':=AI ((i+1:Nat):Int)) (inc_eq i (by omega)) ?_
  refine u_ (ih (i+1,bitsOf .or .u64 s (arV .shl .u64 1 k)) ⟨by simp only;omega,h1⟩ (by simp only;omega))
 ·simp at hc
  have hil:i=l.length:=by omega
  have h1:=hi.2
  rw [hil,List.drop_length,List.foldl_nil] at h1
  refine y_ ?_;refine R_ ?_;rw [h1];exact .refl
abbrev isF(b:Bool)(k:Int):FK:=fun j=>b&&j==k
theorem when_p(b:Bool)(k:Int)(hk:1<=k/\k<=3):Pure Tryz.prog gs0 382 [AB b,AU8 k] (AU64 (kF (isF b k))):=by
 have ho:=of_p [k] (fun x hx=>by rw [List.mem_singleton.1 hx];omega) (by simp)
 cases b with
 |false=>
  refine p_ tt_ok Tryz.func382 9 fun w0 h0 F hgs=>?_
  exact yr_
 |true=>
  have he:ofI [k]=kF (isF true k):=by
   have:k=1\/k=2\/k=3:=by omega
   rcases this with rfl|rfl|rfl
   ·exact (show ofI [1]=kF (isF true 1) by kernel_rfl)
   ·exact (show ofI [2]=kF (isF true 2) by kernel_rfl)
   ·exact (show ofI [3]=kF (isF true 3) by kernel_rfl)
  rw [he] at ho
  refine p_ tt_ok Tryz.func382 9 fun w0 h0 F hgs=>?_
  refine t_ fun bl=>?_;exact cr_ ho
theorem shr_0(n:Int)(d:Nat)(hd:d<32):(arV .shr .i32 n (d:Int)==0)=decide (0<=n/\n<2^d):=by
 simp only [arV,show IntKind.i32.bits=32 from rfl,Int.toNat_natCast,Nat.min_eq_left (Nat.le_of_lt hd)]
 have h2:(0:Int)<2^d:=Int.pow_pos (by omega)
 rw [Int.fdiv_eq_ediv_of_nonneg _ (Int.le_of_lt h2),Bool.eq_iff_iff]
 simp only [beq_iff_eq,decide_eq_true_eq]
 constructor
 ·intro h
  have h3:=Int.emod_add_mul_ediv n (2^d)
  rw [h] at h3
  have h4:=Int.emod_nonneg n (Int.ne_of_gt h2)
  have h5:=Int.emod_lt_of_pos n h2
  omega
 ·rintro ⟨h3,h4⟩;exact Int.ediv_eq_zero_of_lt h3 h4
def numF(n:Int):FK:=fun k=>k==1||(k==2&&decide (0<=n)&&decide (n<=255))||(k==3&&(n==0||n==1))
theorem knumber_p(n:Int):Pure Tryz.prog gs0 384 [AI32 n] (AU64 (kF (numF n))):=by
 have o3:=of_p [1,2,3] (by decide) (by decide)
 have o2:=of_p [1,2] (by decide) (by decide)
 have o1:=of_p [1] (by decide) (by decide)
 have e1:=shr_0 n 1 (by decide)
 have e8:=shr_0 n 8 (by decide)
 by_cases h1:0<=n/\n<2
 ·have hk:ofI [1,2,3]=kF (numF n):=by
   have:n=0\/n=1:=by omega
   rcases this with rfl|rfl
   ·exact (show ofI [1,2,3]=kF (numF 0) by kernel_rfl)
   ·exact (show ofI [1,2,3]=kF (numF 1) by kernel_rfl)
  rw [hk] at o3
  refine p_ tt_ok Tryz.func384 17 fun w0 h0 F hgs=>?_
  refine y_ ?_
  refine A.shift rfl rfl rfl rfl rfl rfl (by omega) ?_
  refine y_ ?_
  refine A.valE 3 rfl (x':=AB true) (ab_eq (e1.trans (decide_eq_true h1))) ?_
  refine t_ fun bl=>?_;exact cr_ o3
 by_cases h2:0<=n/\n<256
 ·have hk:ofI [1,2]=kF (numF n):=by
   have:numF n 3=false:=by simp [numF];omega
   have h3:numF n 2=true:=by simp [numF];omega
   show _=kS (numF n 1) (numF n 2) (numF n 3)
   rw [this,h3];kernel_rfl
  rw [hk] at o2
  refine p_ tt_ok Tryz.func384 17 fun w0 h0 F hgs=>?_
  refine y_ ?_
  refine A.shift rfl rfl rfl rfl rfl rfl (by omega) ?_
  refine y_ ?_
  refine e_ 3 rfl (x':=AB false) (ab_eq (e1.trans (decide_eq_false (fun h=>h1 h)))) ?_
  refine A.shift rfl rfl rfl rfl rfl rfl (by omega) ?_
  refine y_ ?_
  refine A.valE 9 rfl (x':=AB true) (ab_eq (e8.trans (decide_eq_true h2))) ?_
  refine t_ fun bl=>?_;exact cr_ o2
 ·have hk:ofI [1]=kF (numF n):=by
   have:numF n 3=false:=by simp [numF];omega
   have h3:numF n 2=false:=by simp [numF];omega
   show _=kS (numF n 1) (numF n 2) (numF n 3)
   rw [this,h3];kernel_rfl
  rw [hk] at o1
  refine p_ tt_ok Tryz.func384 17 fun w0 h0 F hgs=>?_
  refine y_ ?_
  refine A.shift rfl rfl rfl rfl rfl rfl (by omega) ?_
  refine y_ ?_
  refine e_ 3 rfl (x':=AB false) (ab_eq (e1.trans (decide_eq_false (fun h=>h1 h)))) ?_
  refine A.shift rfl rfl rfl rfl rfl rfl (by omega) ?_
  refine y_ ?_
  refine A.valE 9 rfl (x':=AB false) (ab_eq (e8.trans (decide_eq_false (fun h=>h2 h)))) ?_
  refine t_ fun bl=>?_;exact cr_ o1
abbrev chsA(ch:List Int):AV:= .sl 1 (ch.map AU8) none
abbrev ckA(l:List KV)(ch:List Int)(x:Nat->AV)(lf:Int):AV:= .ag [varsA l,chsA ch,x 0,x 1,x 2,x 3,x 4,x 5,x 6,x 7,x 8,AI lf]
abbrev ckP(l:List KV)(ch:List Int)(x:Nat->AV)(lf:Int):AV:= .pe 12 (ckA l ch x lf)
def VarsOk(l:List KV):Prop:= ∀y,y∈l->1<=y.kind/\y.kind<=3
theorem kF_eq{f g:FK}(h: ∀k,f k=g k):kF f=kF g:=by rw [show f=g from funext h]
theorem kF_none:kF (fun _=>false)=0:=rfl
theorem beq_c(a b:Int):(a==b)=(b==a):=by rw [Bool.eq_iff_iff];simp;exact eq_comm
theorem of12:ofI [1,2]=6:=by kernel_rfl
theorem kinds_p(l:List KV)(ch:List Int)(x:Nat->AV)(lf:Int)(hl:l.length<=281474976710656)(hv:VarsOk l): ∀(N:Nat) (e:KE),ht e<=N->fine e=true->Pure Tryz.prog gs0 333 [ckP l ch x lf,encK e] (AU64 (kF (fitsM l e)))
 |0,e,hn,_=>by rw [ht_eq] at hn;omega
 |N+1,e,hn,hf=>by
  have hlen:((l.map encV).length:Int)=l.length:=by rw [List.length_map]
  rcases fine_cases hf with ⟨n,rfl⟩|⟨v,h1,h2,rfl⟩|⟨v,a,h1,h2,h3,rfl⟩|⟨o,a,h1,h2,h3,rfl⟩|⟨o,a,b,h1,h2,h3,h4,rfl⟩|⟨t,a,h1,h2,h3,rfl⟩
  ·have hk:=knumber_p n
   simp only [encK,encKl]
   refine p_ tt_ok Tryz.func333 160 fun w0 h0 F hgs=>?_
   (refine b_ fun bx=>?_;refine y_ ?_)
   refine A.loop1 ?_
   refine y_ ?_;refine c_ hk ?_;refine R_ ?_
   refine Sb.eq (au64_eq (kF_eq fun k=>?_))
   simp [numF,fitsM,fitsL,fitC]
  ·simp only [encK,encKl]
   by_cases hvl:v<l.length
   ·refine Exists.elim (at_ex h1 hvl) fun y hy=>?_
    have hyk:=hv y (List.mem_of_getElem? hy)
    have hw:=when_p (y.dim==0) y.kind hyk
    refine p_ tt_ok Tryz.func333 160 fun w0 h0 F hgs=>?_
    (refine b_ fun bx=>?_;refine y_ ?_)
    refine A.loop1 ?_
    refine y_ ?_
    refine d_ 8 [0,1,2,3,4,5,6,7] [] ?_
    refine z_ ?_
    refine e_ 49 rfl (x':=AB true) (ab_eq (by rw [hlen];simp [hvl])) ?_
    refine d_ 22 [0,1,2,3,4,5,6,7,8,9,10,11,12,13,14,15,16,17,18,19,20,21] [] ?_
    refine WA.x rfl h1 (map_at hy) rfl rfl ?_
    refine w_ ?_
    refine WA.x rfl h1 (map_at hy) rfl rfl ?_
    refine w_ ?_
    refine WA.nil (l:=[]) rfl ?_
    refine c_ hw ?_;refine R_ ?_;refine Sb.eq (au64_eq (kF_eq fun k=>?_));simp [isF,fitsM,fitsL,fitC,hy,beq_c k]
   ·refine p_ tt_ok Tryz.func333 160 fun w0 h0 F hgs=>?_
    (refine b_ fun bx=>?_;refine y_ ?_)
    refine A.loop1 ?_
    refine y_ ?_
    refine d_ 8 [0,1,2,3,4,5,6,7] [] ?_
    refine z_ ?_
    refine e_ 49 rfl (x':=AB false) (ab_eq (by rw [hlen];simp;omega)) ?_;refine R_ ?_;refine Sb.eq (au64_eq ?_);rw [<-kF_none];exact kF_eq fun k=>by simp [fitsM,fitsL,fitC,at_none (l:=l) (i:=v) (by omega)]
  ·rw [ht,htl,htl] at hn
   have ea:=encK_eq a
   have iha:=kinds_p l ch x lf hl hv N a (by omega) h3
   rw [ea] at iha
   simp only [encK,encKl]
   by_cases hvl:v<l.length
   ·refine Exists.elim (at_ex h1 hvl) fun y hy=>?_
    have hyk:=hv y (List.mem_of_getElem? hy)
    by_cases hd:0<y.dim
    ·have hw:=when_p (fitsM l a 1) y.kind hyk
     have hh:=has_p (kF (fitsM l a)) 1 (by decide)
     rw [has_1] at hh
     refine p_ tt_ok Tryz.func333 160 fun w0 h0 F hgs=>?_
     (refine b_ fun bx=>?_;refine y_ ?_)
     refine A.loop1 ?_
     refine y_ ?_
     refine j_ rfl rfl ea ?_
     (refine b_ fun bx=>?_;refine y_ ?_)
     refine n_ iha ?_
     refine t_ fun bl=>?_
     refine A.append0 rfl rfl rfl rfl rfl rfl rfl rfl rfl rfl rfl rfl rfl rfl (by show (0+1)*1<=_;decide) fun z=>?_
     refine y_ ?_
     refine A.valE 27 rfl (x':=AI 0) rfl ?_
     refine i_ rfl rfl rfl ?_
     refine A.valE 6 rfl (x':=AU64 (kF (fitsM l a))) (au64_eq (kS_ones _ _ _)) ?_
     refine A.again ?_
     refine y_ ?_
     refine d_ 8 [0,1,2,3,4,5,6,7] [] ?_
     refine z_ ?_
     refine e_ 83 rfl (x':=AB true) (ab_eq (by rw [hlen];simp [hvl])) ?_
     refine d_ 26 [0,1,2,3,4,5,6,7,8,9,10,11,12,13,16,17,18,19,20,21,22,23,24,25,14,15] [(14,AB (fitsM l a 1))] ?_
     refine WA.x rfl h1 (map_at hy) rfl rfl ?_
     refine w_ ?_
     refine ew_ 96 rfl (x':=AB true) (ab_eq (by simpa using hd)) ?_
     refine WA.x rfl h1 (map_at hy) rfl rfl ?_
     refine w_ ?_
     refine cw_ hh ?_
     refine WA.nil (l:=[]) rfl ?_
     refine c_ hw ?_;refine R_ ?_;refine Sb.eq (au64_eq (kF_eq fun k=>?_));simp [isF,fitsM,fitsL,fitC,hy,beq_c k,hd];exact Bool.and_comm _ _
    ·have hw:=when_p false y.kind hyk
     refine p_ tt_ok Tryz.func333 160 fun w0 h0 F hgs=>?_
     (refine b_ fun bx=>?_;refine y_ ?_)
     refine A.loop1 ?_
     refine y_ ?_
     refine j_ rfl rfl ea ?_
     (refine b_ fun bx=>?_;refine y_ ?_)
     refine n_ iha ?_
     refine t_ fun bl=>?_
     refine A.append0 rfl rfl rfl rfl rfl rfl rfl rfl rfl rfl rfl rfl rfl rfl (by show (0+1)*1<=_;decide) fun z=>?_
     refine y_ ?_
     refine A.valE 27 rfl (x':=AI 0) rfl ?_
     refine i_ rfl rfl rfl ?_
     refine A.valE 6 rfl (x':=AU64 (kF (fitsM l a))) (au64_eq (kS_ones _ _ _)) ?_
     refine A.again ?_
     refine y_ ?_
     refine d_ 8 [0,1,2,3,4,5,6,7] [] ?_
     refine z_ ?_
     refine e_ 83 rfl (x':=AB true) (ab_eq (by rw [hlen];simp [hvl])) ?_
     refine d_ 26 [0,1,2,3,4,5,6,7,8,9,10,11,12,13,16,17,18,19,20,21,22,23,24,25,14,15] [(14,AB false)] ?_
     refine WA.x rfl h1 (map_at hy) rfl rfl ?_
     refine w_ ?_
     refine ew_ 96 rfl (x':=AB false) (ab_eq (by simpa using hd)) ?_
     refine WA.x rfl h1 (map_at hy) rfl rfl ?_
     refine w_ ?_
     refine WA.nil (l:=[]) rfl ?_
     refine c_ hw ?_;refine R_ ?_;refine Sb.eq (au64_eq (kF_eq fun k=>?_));simp [isF,fitsM,fitsL,fitC,hy,hd]
   ·refine p_ tt_ok Tryz.func333 160 fun w0 h0 F hgs=>?_
    (refine b_ fun bx=>?_;refine y_ ?_)
    refine A.loop1 ?_
    refine y_ ?_
    refine j_ rfl rfl ea ?_
    (refine b_ fun bx=>?_;refine y_ ?_)
    refine n_ iha ?_
    refine t_ fun bl=>?_
    refine A.append0 rfl rfl rfl rfl rfl rfl rfl rfl rfl rfl rfl rfl rfl rfl (by show (0+1)*1<=_;decide) fun z=>?_
    refine y_ ?_
    refine A.valE 27 rfl (x':=AI 0) rfl ?_
    refine i_ rfl rfl rfl ?_
    refine A.valE 6 rfl (x':=AU64 (kF (fitsM l a))) (au64_eq (kS_ones _ _ _)) ?_
    refine A.again ?_
    refine y_ ?_
    refine d_ 8 [0,1,2,3,4,5,6,7] [] ?_
    refine z_ ?_
    refine e_ 83 rfl (x':=AB false) (ab_eq (by rw [hlen];simp;omega)) ?_;refine R_ ?_;refine Sb.eq (au64_eq ?_);rw [<-kF_none];exact kF_eq fun k=>by simp [fitsM,fitsL,fitC,at_none (l:=l) (i:=v) (by omega)]
  ·rw [ht,htl,htl] at hn
   have ea:=encK_eq a
   have iha:=kinds_p l ch x lf hl hv N a (by omega) h3
   rw [ea] at iha
   simp only [encK,encKl]
   by_cases ho:o=26
   ·subst ho
    have hw:=when_p (fitsM l a 3) 3 (by decide)
    have hh:=has_p (kF (fitsM l a)) 3 (by decide)
    rw [has_3] at hh
    refine p_ tt_ok Tryz.func333 160 fun w0 h0 F hgs=>?_
    (refine b_ fun bx=>?_;refine y_ ?_)
    refine A.loop1 ?_
    refine y_ ?_
    refine j_ rfl rfl ea ?_
    (refine b_ fun bx=>?_;refine y_ ?_)
    refine n_ iha ?_
    refine t_ fun bl=>?_
    refine A.append0 rfl rfl rfl rfl rfl rfl rfl rfl rfl rfl rfl rfl rfl rfl (by show (0+1)*1<=_;decide) fun z=>?_
    refine y_ ?_
    refine A.valE 27 rfl (x':=AI 0) rfl ?_
    refine i_ rfl rfl rfl ?_
    refine A.valE 6 rfl (x':=AU64 (kF (fitsM l a))) (au64_eq (kS_ones _ _ _)) ?_
    refine A.again ?_
    refine y_ ?_;refine n_ hh ?_
    refine c_ hw ?_;refine R_ ?_;refine Sb.eq (au64_eq (kF_eq fun k=>?_));simp [isF,fitsM,fitsL,fitC];exact Bool.and_comm _ _
   ·have hw:=when_p (fitsM l a 1) 1 (by decide)
    have hh:=has_p (kF (fitsM l a)) 1 (by decide)
    rw [has_1] at hh
    refine p_ tt_ok Tryz.func333 160 fun w0 h0 F hgs=>?_
    (refine b_ fun bx=>?_;refine y_ ?_)
    refine A.loop1 ?_
    refine y_ ?_
    refine j_ rfl rfl ea ?_
    (refine b_ fun bx=>?_;refine y_ ?_)
    refine n_ iha ?_
    refine t_ fun bl=>?_
    refine A.append0 rfl rfl rfl rfl rfl rfl rfl rfl rfl rfl rfl rfl rfl rfl (by show (0+1)*1<=_;decide) fun z=>?_
    refine y_ ?_
    refine A.valE 27 rfl (x':=AI 0) rfl ?_
    refine i_ rfl rfl rfl ?_
    refine A.valE 6 rfl (x':=AU64 (kF (fitsM l a))) (au64_eq (kS_ones _ _ _)) ?_
    refine A.again ?_
    (repeat (first|first|refine A.s rfl ?_|refine A.r rfl rfl ?_|refine A.w rfl rfl ?_|refine A.p rfl ?_|refine A.b rfl fun bx=>?_|refine A.t rfl fun bl=>?_|refine A.cond rfl (fun h=>(by simp at h;omega)) (fun _=>?_)|first|refine A.step rfl ?_|refine A.v rfl rfl ?_))
    refine n_ hh ?_
    refine c_ hw ?_;refine R_ ?_;refine Sb.eq (au64_eq (kF_eq fun k=>?_));simp [isF,fitsM,fitsL,fitC,ho];exact Bool.and_comm _ _
  ·rw [ht,htl,htl,htl] at hn
   have ea:=encK_eq a
   have eb:=encK_eq b
   have iha:=kinds_p l ch x lf hl hv N a (by omega) h3
   have ihb:=kinds_p l ch x lf hl hv N b (by omega) h4
   rw [ea] at iha
   rw [eb] at ihb
   simp only [encK,encKl]
   by_cases o14:o=14
   ·subst o14
    have hw:=when_p ((fitsM l a 1&&fitsM l b 1)||(fitsM l a 2&&fitsM l b 2)||(fitsM l a 3&&fitsM l b 3)) 3 (by decide)
    refine p_ tt_ok Tryz.func333 160 fun w0 h0 F hgs=>?_
    (refine b_ fun bx=>?_;refine y_ ?_)
    refine A.loop1 ?_
    refine y_ ?_
    refine j_ rfl rfl ea ?_
    (refine b_ fun bx=>?_;refine y_ ?_)
    refine n_ iha ?_
    refine t_ fun bl=>?_
    refine A.append0 rfl rfl rfl rfl rfl rfl rfl rfl rfl rfl rfl rfl rfl rfl (by show (0+1)*1<=_;decide) fun z=>?_
    refine y_ ?_
    refine A.valE 27 rfl (x':=AI 0) rfl ?_
    refine i_ rfl rfl rfl ?_
    refine A.valE 6 rfl (x':=AU64 (kF (fitsM l a))) (au64_eq (kS_ones _ _ _)) ?_
    refine A.again ?_
    refine y_ ?_
    refine j_ rfl rfl eb ?_
    (refine b_ fun bx=>?_;refine y_ ?_)
    refine n_ ihb ?_
    refine t_ fun bl=>?_
    refine A.append rfl rfl rfl rfl rfl rfl rfl rfl rfl rfl rfl rfl rfl rfl (by show (1+1)*1<=_;decide) fun z'=>?_
    refine y_ ?_
    refine A.valE 27 rfl (x':=AI 1) rfl ?_
    refine i_ rfl rfl rfl ?_
    refine A.valE 6 rfl (x':=AU64 (kS (fitsM l a 1&&fitsM l b 1) (fitsM l a 2&&fitsM l b 2) (fitsM l a 3&&fitsM l b 3))) (au64_eq (kS_and _ _ _ _ _ _)) ?_
    refine A.again ?_
    refine y_ ?_
    refine A.valE 128 rfl (x':=AB ((fitsM l a 1&&fitsM l b 1)||(fitsM l a 2&&fitsM l b 2)||(fitsM l a 3&&fitsM l b 3))) (ab_eq (kS_ne _ _ _)) ?_
    refine c_ hw ?_;refine R_ ?_;refine Sb.eq (au64_eq (kF_eq fun k=>?_));simp only [isF,fitsM,fitsL,fitC];by_cases hk:k=3<;>simp [hk]
   by_cases o15:o=15
   ·subst o15
    have hw:=when_p ((fitsM l a 1&&fitsM l b 1)||(fitsM l a 2&&fitsM l b 2)||(fitsM l a 3&&fitsM l b 3)) 3 (by decide)
    refine p_ tt_ok Tryz.func333 160 fun w0 h0 F hgs=>?_
    (refine b_ fun bx=>?_;refine y_ ?_)
    refine A.loop1 ?_
    refine y_ ?_
    refine j_ rfl rfl ea ?_
    (refine b_ fun bx=>?_;refine y_ ?_)
    refine n_ iha ?_
    refine t_ fun bl=>?_
    refine A.append0 rfl rfl rfl rfl rfl rfl rfl rfl rfl rfl rfl rfl rfl rfl (by show (0+1)*1<=_;decide) fun z=>?_
    refine y_ ?_
    refine A.valE 27 rfl (x':=AI 0) rfl ?_
    refine i_ rfl rfl rfl ?_
    refine A.valE 6 rfl (x':=AU64 (kF (fitsM l a))) (au64_eq (kS_ones _ _ _)) ?_
    refine A.again ?_
    refine y_ ?_
    refine j_ rfl rfl eb ?_
    (refine b_ fun bx=>?_;refine y_ ?_)
    refine n_ ihb ?_
    refine t_ fun bl=>?_
    refine A.append rfl rfl rfl rfl rfl rfl rfl rfl rfl rfl rfl rfl rfl rfl (by show (1+1)*1<=_;decide) fun z'=>?_
    refine y_ ?_
    refine A.valE 27 rfl (x':=AI 1) rfl ?_
    refine i_ rfl rfl rfl ?_
    refine A.valE 6 rfl (x':=AU64 (kS (fitsM l a 1&&fitsM l b 1) (fitsM l a 2&&fitsM l b 2) (fitsM l a 3&&fitsM l b 3))) (au64_eq (kS_and _ _ _ _ _ _)) ?_
    refine A.again ?_
    refine y_ ?_
    refine A.valE 128 rfl (x':=AB ((fitsM l a 1&&fitsM l b 1)||(fitsM l a 2&&fitsM l b 2)||(fitsM l a 3&&fitsM l b 3))) (ab_eq (kS_ne _ _ _)) ?_
    refine c_ hw ?_;refine R_ ?_;refine Sb.eq (au64_eq (kF_eq fun k=>?_));simp only [isF,fitsM,fitsL,fitC];by_cases hk:k=3<;>simp [hk]
   by_cases o16:o=16
   ·subst o16
    have hw:=when_p ((fitsM l a 1&&fitsM l b 1)||(fitsM l a 2&&fitsM l b 2)) 3 (by decide)
    have ho2:=of_p [1,2] (by decide) (by decide)
    rw [of12] at ho2
    refine p_ tt_ok Tryz.func333 160 fun w0 h0 F hgs=>?_
    (refine b_ fun bx=>?_;refine y_ ?_)
    refine A.loop1 ?_
    refine y_ ?_
    refine j_ rfl rfl ea ?_
    (refine b_ fun bx=>?_;refine y_ ?_)
    refine n_ iha ?_
    refine t_ fun bl=>?_
    refine A.append0 rfl rfl rfl rfl rfl rfl rfl rfl rfl rfl rfl rfl rfl rfl (by show (0+1)*1<=_;decide) fun z=>?_
    refine y_ ?_
    refine A.valE 27 rfl (x':=AI 0) rfl ?_
    refine i_ rfl rfl rfl ?_
    refine A.valE 6 rfl (x':=AU64 (kF (fitsM l a))) (au64_eq (kS_ones _ _ _)) ?_
    refine A.again ?_
    refine y_ ?_
    refine j_ rfl rfl eb ?_
    (refine b_ fun bx=>?_;refine y_ ?_)
    refine n_ ihb ?_
    refine t_ fun bl=>?_
    refine A.append rfl rfl rfl rfl rfl rfl rfl rfl rfl rfl rfl rfl rfl rfl (by show (1+1)*1<=_;decide) fun z'=>?_
    refine y_ ?_
    refine A.valE 27 rfl (x':=AI 1) rfl ?_
    refine i_ rfl rfl rfl ?_
    refine A.valE 6 rfl (x':=AU64 (kS (fitsM l a 1&&fitsM l b 1) (fitsM l a 2&&fitsM l b 2) (fitsM l a 3&&fitsM l b 3))) (au64_eq (kS_and _ _ _ _ _ _)) ?_
    refine A.again ?_
    refine t_ fun bl=>?_
    refine c_ ho2 ?_
    refine A.valE 140 rfl (x':=AB ((fitsM l a 1&&fitsM l b 1)||(fitsM l a 2&&fitsM l b 2))) (ab_eq (kS_6 _ _ _)) ?_
    refine c_ hw ?_;refine R_ ?_;refine Sb.eq (au64_eq (kF_eq fun k=>?_));simp only [isF,fitsM,fitsL,fitC];by_cases hk:k=3<;>simp [hk]
   by_cases o17:o=17
   ·subst o17
    have hw:=when_p ((fitsM l a 1&&fitsM l b 1)||(fitsM l a 2&&fitsM l b 2)) 3 (by decide)
    have ho2:=of_p [1,2] (by decide) (by decide)
    rw [of12] at ho2
    refine p_ tt_ok Tryz.func333 160 fun w0 h0 F hgs=>?_
    (refine b_ fun bx=>?_;refine y_ ?_)
    refine A.loop1 ?_
    refine y_ ?_
    refine j_ rfl rfl ea ?_
    (refine b_ fun bx=>?_;refine y_ ?_)
    refine n_ iha ?_
    refine t_ fun bl=>?_
    refine A.append0 rfl rfl rfl rfl rfl rfl rfl rfl rfl rfl rfl rfl rfl rfl (by show (0+1)*1<=_;decide) fun z=>?_
    refine y_ ?_
    refine A.valE 27 rfl (x':=AI 0) rfl ?_
    refine i_ rfl rfl rfl ?_
    refine A.valE 6 rfl (x':=AU64 (kF (fitsM l a))) (au64_eq (kS_ones _ _ _)) ?_
    refine A.again ?_
    refine y_ ?_
    refine j_ rfl rfl eb ?_
    (refine b_ fun bx=>?_;refine y_ ?_)
    refine n_ ihb ?_
    refine t_ fun bl=>?_
    refine A.append rfl rfl rfl rfl rfl rfl rfl rfl rfl rfl rfl rfl rfl rfl (by show (1+1)*1<=_;decide) fun z'=>?_
    refine y_ ?_
    refine A.valE 27 rfl (x':=AI 1) rfl ?_
    refine i_ rfl rfl rfl ?_
    refine A.valE 6 rfl (x':=AU64 (kS (fitsM l a 1&&fitsM l b 1) (fitsM l a 2&&fitsM l b 2) (fitsM l a 3&&fitsM l b 3))) (au64_eq (kS_and _ _ _ _ _ _)) ?_
    refine A.again ?_
    refine t_ fun bl=>?_
    refine c_ ho2 ?_
    refine A.valE 140 rfl (x':=AB ((fitsM l a 1&&fitsM l b 1)||(fitsM l a 2&&fitsM l b 2))) (ab_eq (kS_6 _ _ _)) ?_
    refine c_ hw ?_;refine R_ ?_;refine Sb.eq (au64_eq (kF_eq fun k=>?_));simp only [isF,fitsM,fitsL,fitC];by_cases hk:k=3<;>simp [hk]
   by_cases o18:o=18
   ·subst o18
    have hw:=when_p ((fitsM l a 1&&fitsM l b 1)||(fitsM l a 2&&fitsM l b 2)) 3 (by decide)
    have ho2:=of_p [1,2] (by decide) (by decide)
    rw [of12] at ho2
    refine p_ tt_ok Tryz.func333 160 fun w0 h0 F hgs=>?_
    (refine b_ fun bx=>?_;refine y_ ?_)
    refine A.loop1 ?_
    refine y_ ?_
    refine j_ rfl rfl ea ?_
    (refine b_ fun bx=>?_;refine y_ ?_)
    refine n_ iha ?_
    refine t_ fun bl=>?_
    refine A.append0 rfl rfl rfl rfl rfl rfl rfl rfl rfl rfl rfl rfl rfl rfl (by show (0+1)*1<=_;decide) fun z=>?_
    refine y_ ?_
    refine A.valE 27 rfl (x':=AI 0) rfl ?_
    refine i_ rfl rfl rfl ?_
    refine A.valE 6 rfl (x':=AU64 (kF (fitsM l a))) (au64_eq (kS_ones _ _ _)) ?_
    refine A.again ?_
    refine y_ ?_
    refine j_ rfl rfl eb ?_
    (refine b_ fun bx=>?_;refine y_ ?_)
    refine n_ ihb ?_
    refine t_ fun bl=>?_
    refine A.append rfl rfl rfl rfl rfl rfl rfl rfl rfl rfl rfl rfl rfl rfl (by show (1+1)*1<=_;decide) fun z'=>?_
    refine y_ ?_
    refine A.valE 27 rfl (x':=AI 1) rfl ?_
    refine i_ rfl rfl rfl ?_
    refine A.valE 6 rfl (x':=AU64 (kS (fitsM l a 1&&fitsM l b 1) (fitsM l a 2&&fitsM l b 2) (fitsM l a 3&&fitsM l b 3))) (au64_eq (kS_and _ _ _ _ _ _)) ?_
    refine A.again ?_
    refine t_ fun bl=>?_
    refine c_ ho2 ?_
    refine A.valE 140 rfl (x':=AB ((fitsM l a 1&&fitsM l b 1)||(fitsM l a 2&&fitsM l b 2))) (ab_eq (kS_6 _ _ _)) ?_
    refine c_ hw ?_;refine R_ ?_;refine Sb.eq (au64_eq (kF_eq fun k=>?_));simp only [isF,fitsM,fitsL,fitC];by_cases hk:k=3<;>simp [hk]
   by_cases o19:o=19
   ·subst o19
    have hw:=when_p ((fitsM l a 1&&fitsM l b 1)||(fitsM l a 2&&fitsM l b 2)) 3 (by decide)
    have ho2:=of_p [1,2] (by decide) (by decide)
    rw [of12] at ho2
    refine p_ tt_ok Tryz.func333 160 fun w0 h0 F hgs=>?_
    (refine b_ fun bx=>?_;refine y_ ?_)
    refine A.loop1 ?_
    refine y_ ?_
    refine j_ rfl rfl ea ?_
    (refine b_ fun bx=>?_;refine y_ ?_)
    refine n_ iha ?_
    refine t_ fun bl=>?_
    refine A.append0 rfl rfl rfl rfl rfl rfl rfl rfl rfl rfl rfl rfl rfl rfl (by show (0+1)*1<=_;decide) fun z=>?_
    refine y_ ?_
    refine A.valE 27 rfl (x':=AI 0) rfl ?_
    refine i_ rfl rfl rfl ?_
    refine A.valE 6 rfl (x':=AU64 (kF (fitsM l a))) (au64_eq (kS_ones _ _ _)) ?_
    refine A.again ?_
    refine y_ ?_
    refine j_ rfl rfl eb ?_
    (refine b_ fun bx=>?_;refine y_ ?_)
    refine n_ ihb ?_
    refine t_ fun bl=>?_
    refine A.append rfl rfl rfl rfl rfl rfl rfl rfl rfl rfl rfl rfl rfl rfl (by show (1+1)*1<=_;decide) fun z'=>?_
    refine y_ ?_
    refine A.valE 27 rfl (x':=AI 1) rfl ?_
    refine i_ rfl rfl rfl ?_
    refine A.valE 6 rfl (x':=AU64 (kS (fitsM l a 1&&fitsM l b 1) (fitsM l a 2&&fitsM l b 2) (fitsM l a 3&&fitsM l b 3))) (au64_eq (kS_and _ _ _ _ _ _)) ?_
    refine A.again ?_
    refine t_ fun bl=>?_
    refine c_ ho2 ?_
    refine A.valE 140 rfl (x':=AB ((fitsM l a 1&&fitsM l b 1)||(fitsM l a 2&&fitsM l b 2))) (ab_eq (kS_6 _ _ _)) ?_
    refine c_ hw ?_;refine R_ ?_;refine Sb.eq (au64_eq (kF_eq fun k=>?_));simp only [isF,fitsM,fitsL,fitC];by_cases hk:k=3<;>simp [hk]
   by_cases o20:o=20
   ·subst o20
    have hw:=when_p (fitsM l a 3&&fitsM l b 3) 3 (by decide)
    have hh:=has_p (kS (fitsM l a 1&&fitsM l b 1) (fitsM l a 2&&fitsM l b 2) (fitsM l a 3&&fitsM l b 3)) 3 (by decide)
    rw [has_3] at hh
    refine p_ tt_ok Tryz.func333 160 fun w0 h0 F hgs=>?_
    (refine b_ fun bx=>?_;refine y_ ?_)
    refine A.loop1 ?_
    refine y_ ?_
    refine j_ rfl rfl ea ?_
    (refine b_ fun bx=>?_;refine y_ ?_)
    refine n_ iha ?_
    refine t_ fun bl=>?_
    refine A.append0 rfl rfl rfl rfl rfl rfl rfl rfl rfl rfl rfl rfl rfl rfl (by show (0+1)*1<=_;decide) fun z=>?_
    refine y_ ?_
    refine A.valE 27 rfl (x':=AI 0) rfl ?_
    refine i_ rfl rfl rfl ?_
    refine A.valE 6 rfl (x':=AU64 (kF (fitsM l a))) (au64_eq (kS_ones _ _ _)) ?_
    refine A.again ?_
    refine y_ ?_
    refine j_ rfl rfl eb ?_
    (refine b_ fun bx=>?_;refine y_ ?_)
    refine n_ ihb ?_
    refine t_ fun bl=>?_
    refine A.append rfl rfl rfl rfl rfl rfl rfl rfl rfl rfl rfl rfl rfl rfl (by show (1+1)*1<=_;decide) fun z'=>?_
    refine y_ ?_
    refine A.valE 27 rfl (x':=AI 1) rfl ?_
    refine i_ rfl rfl rfl ?_
    refine A.valE 6 rfl (x':=AU64 (kS (fitsM l a 1&&fitsM l b 1) (fitsM l a 2&&fitsM l b 2) (fitsM l a 3&&fitsM l b 3))) (au64_eq (kS_and _ _ _ _ _ _)) ?_
    refine A.again ?_
    refine y_ ?_
    refine n_ hh ?_
    refine c_ hw ?_;refine R_ ?_;refine Sb.eq (au64_eq (kF_eq fun k=>?_));simp only [isF,fitsM,fitsL,fitC];by_cases hk:k=3<;>simp [hk]
   by_cases o21:o=21
   ·subst o21
    have hw:=when_p (fitsM l a 3&&fitsM l b 3) 3 (by decide)
    have hh:=has_p (kS (fitsM l a 1&&fitsM l b 1) (fitsM l a 2&&fitsM l b 2) (fitsM l a 3&&fitsM l b 3)) 3 (by decide)
    rw [has_3] at hh
    refine p_ tt_ok Tryz.func333 160 fun w0 h0 F hgs=>?_
    (refine b_ fun bx=>?_;refine y_ ?_)
    refine A.loop1 ?_
    refine y_ ?_
    refine j_ rfl rfl ea ?_
    (refine b_ fun bx=>?_;refine y_ ?_)
    refine n_ iha ?_
    refine t_ fun bl=>?_
    refine A.append0 rfl rfl rfl rfl rfl rfl rfl rfl rfl rfl rfl rfl rfl rfl (by show (0+1)*1<=_;decide) fun z=>?_
    refine y_ ?_
    refine A.valE 27 rfl (x':=AI 0) rfl ?_
    refine i_ rfl rfl rfl ?_
    refine A.valE 6 rfl (x':=AU64 (kF (fitsM l a))) (au64_eq (kS_ones _ _ _)) ?_
    refine A.again ?_
    refine y_ ?_
    refine j_ rfl rfl eb ?_
    (refine b_ fun bx=>?_;refine y_ ?_)
    refine n_ ihb ?_
    refine t_ fun bl=>?_
    refine A.append rfl rfl rfl rfl rfl rfl rfl rfl rfl rfl rfl rfl rfl rfl (by show (1+1)*1<=_;decide) fun z'=>?_
    refine y_ ?_
    refine A.valE 27 rfl (x':=AI 1) rfl ?_
    refine i_ rfl rfl rfl ?_
    refine A.valE 6 rfl (x':=AU64 (kS (fitsM l a 1&&fitsM l b 1) (fitsM l a 2&&fitsM l b 2) (fitsM l a 3&&fitsM l b 3))) (au64_eq (kS_and _ _ _ _ _ _)) ?_
    refine A.again ?_
    refine y_ ?_
    refine n_ hh ?_
    refine c_ hw ?_;refine R_ ?_;refine Sb.eq (au64_eq (kF_eq fun k=>?_));simp only [isF,fitsM,fitsL,fitC];by_cases hk:k=3<;>simp [hk]
   by_cases o22:o=22
   ·subst o22
    have hw:=when_p (fitsM l a 1&&fitsM l b 1) 3 (by decide)
    have hh:=has_p (kS (fitsM l a 1&&fitsM l b 1) (fitsM l a 2&&fitsM l b 2) (fitsM l a 3&&fitsM l b 3)) 1 (by decide)
    rw [has_1] at hh
    refine p_ tt_ok Tryz.func333 160 fun w0 h0 F hgs=>?_
    (refine b_ fun bx=>?_;refine y_ ?_)
    refine A.loop1 ?_
    refine y_ ?_
    refine j_ rfl rfl ea ?_
    (refine b_ fun bx=>?_;refine y_ ?_)
    refine n_ iha ?_
    refine t_ fun bl=>?_
    refine A.append0 rfl rfl rfl rfl rfl rfl rfl rfl rfl rfl rfl rfl rfl rfl (by show (0+1)*1<=_;decide) fun z=>?_
    refine y_ ?_
    refine A.valE 27 rfl (x':=AI 0) rfl ?_
    refine i_ rfl rfl rfl ?_
    refine A.valE 6 rfl (x':=AU64 (kF (fitsM l a))) (au64_eq (kS_ones _ _ _)) ?_
    refine A.again ?_
    refine y_ ?_
    refine j_ rfl rfl eb ?_
    (refine b_ fun bx=>?_;refine y_ ?_)
    refine n_ ihb ?_
    refine t_ fun bl=>?_
    refine A.append rfl rfl rfl rfl rfl rfl rfl rfl rfl rfl rfl rfl rfl rfl (by show (1+1)*1<=_;decide) fun z'=>?_
    refine y_ ?_
    refine A.valE 27 rfl (x':=AI 1) rfl ?_
    refine i_ rfl rfl rfl ?_
    refine A.valE 6 rfl (x':=AU64 (kS (fitsM l a 1&&fitsM l b 1) (fitsM l a 2&&fitsM l b 2) (fitsM l a 3&&fitsM l b 3))) (au64_eq (kS_and _ _ _ _ _ _)) ?_
    refine A.again ?_
    refine y_ ?_
    refine n_ hh ?_
    refine c_ hw ?_;refine R_ ?_;refine Sb.eq (au64_eq (kF_eq fun k=>?_));simp only [isF,fitsM,fitsL,fitC];by_cases hk:k=3<;>simp [hk]
   have hw:=when_p (fitsM l a 1&&fitsM l b 1) 1 (by decide)
   have hh:=has_p (kS (fitsM l a 1&&fitsM l b 1) (fitsM l a 2&&fitsM l b 2) (fitsM l a 3&&fitsM l b 3)) 1 (by decide)
   rw [has_1] at hh
   have ho13:o<=13:=by omega
   refine p_ tt_ok Tryz.func333 160 fun w0 h0 F hgs=>?_
   (refine b_ fun bx=>?_;refine y_ ?_)
   refine A.loop1 ?_
   refine y_ ?_
   refine j_ rfl rfl ea ?_
   (refine b_ fun bx=>?_;refine y_ ?_)
   refine n_ iha ?_
   refine t_ fun bl=>?_
   refine A.append0 rfl rfl rfl rfl rfl rfl rfl rfl rfl rfl rfl rfl rfl rfl (by show (0+1)*1<=_;decide) fun z=>?_
   refine y_ ?_
   refine A.valE 27 rfl (x':=AI 0) rfl ?_
   refine i_ rfl rfl rfl ?_
   refine A.valE 6 rfl (x':=AU64 (kF (fitsM l a))) (au64_eq (kS_ones _ _ _)) ?_
   refine A.again ?_
   refine y_ ?_
   refine j_ rfl rfl eb ?_
   (refine b_ fun bx=>?_;refine y_ ?_)
   refine n_ ihb ?_
   refine t_ fun bl=>?_
   refine A.append rfl rfl rfl rfl rfl rfl rfl rfl rfl rfl rfl rfl rfl rfl (by show (1+1)*1<=_;decide) fun z'=>?_
   refine y_ ?_
   refine A.valE 27 rfl (x':=AI 1) rfl ?_
   refine i_ rfl rfl rfl ?_
   refine A.valE 6 rfl (x':=AU64 (kS (fitsM l a 1&&fitsM l b 1) (fitsM l a 2&&fitsM l b 2) (fitsM l a 3&&fitsM l b 3))) (au64_eq (kS_and _ _ _ _ _ _)) ?_
   refine A.again ?_
   (repeat (first|first|refine A.s rfl ?_|refine A.r rfl rfl ?_|refine A.w rfl rfl ?_|refine A.p rfl ?_|refine A.b rfl fun bx=>?_|refine A.t rfl fun bl=>?_|refine A.cond rfl (fun h=>(by simp at h;omega)) (fun _=>?_)|first|refine A.step rfl ?_|refine A.v rfl rfl ?_))
   refine n_ hh ?_
   refine c_ hw ?_;refine R_ ?_;refine Sb.eq (au64_eq (kF_eq fun k=>?_));simp only [isF,fitsM,fitsL,fitC,if_pos ho13];simp;exact Bool.and_comm _ _
  ·rw [ht,htl,htl] at hn
   have ea:=encK_eq a
   have iha:=kinds_p l ch x lf hl hv N a (by omega) h3
   rw [ea] at iha
   simp only [encK,encKl]
   have hw:=when_p (fitsM l a 1||fitsM l a 2||fitsM l a 3) t ⟨h1,h2⟩
   refine p_ tt_ok Tryz.func333 160 fun w0 h0 F hgs=>?_
   (refine b_ fun bx=>?_;refine y_ ?_)
   refine A.loop1 ?_
   refine y_ ?_
   refine j_ rfl rfl ea ?_
   (refine b_ fun bx=>?_;refine y_ ?_)
   refine n_ iha ?_
   refine t_ fun bl=>?_
   refine A.append0 rfl rfl rfl rfl rfl rfl rfl rfl rfl rfl rfl rfl rfl rfl (by show (0+1)*1<=_;decide) fun z=>?_
   refine y_ ?_
   refine A.valE 27 rfl (x':=AI 0) rfl ?_
   refine i_ rfl rfl rfl ?_
   refine A.valE 6 rfl (x':=AU64 (kF (fitsM l a))) (au64_eq (kS_ones _ _ _)) ?_
   refine A.again ?_
   refine y_ ?_
   refine d_ 7 [0,1,2,3,4,5,6] [] ?_
   refine iw_ rfl rfl rfl ?_
   refine WA.valE 117 rfl (x':=AB (fitsM l a 1||fitsM l a 2||fitsM l a 3)) (ab_eq (kS_ne _ _ _)) ?_
   refine WA.nil (l:=[]) rfl ?_
   refine c_ hw ?_;refine R_ ?_;refine Sb.eq (au64_eq (kF_eq fun k=>?_));simp [isF,fitsM,fitsL,fitC,beq_c k];exact Bool.and_comm _ _
theorem kfits_p(l:List KV)(ch:List Int)(x:Nat->AV)(lf:Int)(hl:l.length<=281474976710656)(hv:VarsOk l)(e:KE)(hw:wfK e)(kind:Int)(hk:1<=kind/\kind<=3):Pure Tryz.prog gs0 308 [ckP l ch x lf,encK e,AU8 kind] (AB (decide (valid e)&&fitsM l e kind)):=by
 have hva:=kvalid_p e hw
 rw [encK_eq] at hva⊢
 by_cases hve:valid e
 ·have hkd:=kinds_p l ch x lf hl hv (ht e) e (Nat.le_refl _) hve.1
  have hh:=has_p (kF (fitsM l e)) kind (by omega)
  have he:hasB (kF (fitsM l e)) kind=fitsM l e kind:=by
   have:kind=1\/kind=2\/kind=3:=by omega
   rcases this with rfl|rfl|rfl
   ·exact has_1 _ _ _
   ·exact has_2 _ _ _
   ·exact has_3 _ _ _
  rw [he] at hh
  rw [encK_eq] at hkd
  rw [decide_eq_true hve] at hva⊢
  refine p_ tt_ok Tryz.func308 16 fun w0 h0 F hgs=>?_
  (refine b_ fun bx=>?_;refine y_ ?_)
  refine c_ hva ?_
  refine c_ hkd ?_
  exact cr_ hh
 ·rw [decide_eq_false hve] at hva⊢
  refine p_ tt_ok Tryz.func308 16 fun w0 h0 F hgs=>?_
  (refine b_ fun bx=>?_;refine y_ ?_)
  exact cr_ hva
structure PL where
 v:Int
 ix:List KE
mutual
inductive PR where
 |mk (kind c v item:Int) (to:List PL) (e:List KE) (gs:List GD) (l:List PR)
inductive GD where
 |mk (kind:Int) (cond:KE) (c item:Int) (to:PL) (time:KE) (body:List PR)
end
abbrev PR.kind:PR->Int|⟨k,_,_,_,_,_,_,_⟩=>k
abbrev PR.c:PR->Int|⟨_,c,_,_,_,_,_,_⟩=>c
abbrev PR.v:PR->Int|⟨_,_,v,_,_,_,_,_⟩=>v
abbrev PR.item:PR->Int|⟨_,_,_,i,_,_,_,_⟩=>i
abbrev PR.to:PR->List PL|⟨_,_,_,_,t,_,_,_⟩=>t
abbrev PR.e:PR->List KE|⟨_,_,_,_,_,e,_,_⟩=>e
abbrev PR.gs:PR->List GD|⟨_,_,_,_,_,_,g,_⟩=>g
abbrev PR.l:PR->List PR|⟨_,_,_,_,_,_,_,l⟩=>l
abbrev GD.kind:GD->Int|⟨k,_,_,_,_,_,_⟩=>k
abbrev GD.cond:GD->KE|⟨_,e,_,_,_,_,_⟩=>e
abbrev GD.c:GD->Int|⟨_,_,c,_,_,_,_⟩=>c
abbrev GD.item:GD->Int|⟨_,_,_,i,_,_,_⟩=>i
abbrev GD.to:GD->PL|⟨_,_,_,_,t,_,_⟩=>t
abbrev GD.time:GD->KE|⟨_,_,_,_,_,t,_⟩=>t
abbrev GD.body:GD->List PR|⟨_,_,_,_,_,_,b⟩=>b
abbrev encPl(p:PL):AV:= .ag [AI p.v, .sl 6 (encKl p.ix) none]
abbrev plsA(l:List PL):AV:= .sl 2 (l.map encPl) none
abbrev kesA(l:List KE):AV:= .sl 6 (encKl l) none
mutual
def encR:PR->AV
 |⟨k,c,v,i,to,e,gs,l⟩=> .ag [AU8 k,AI c,AI v,AU8 i,plsA to,kesA e, .sl 18 (encGl gs) none, .sl 8 (encRl l) none]
def encRl:List PR->List AV
 | []=>[]
 |p::r=>encR p::encRl r
def encG:GD->AV
 |⟨k,e,c,i,to,t,b⟩=> .ag [AU8 k,AU8 e.kind,AU8 e.oper,AU8 e.to,AI32 e.n,AI e.v,kesA e.l,AI c,AU8 i,AI to.v,kesA to.ix,AU8 t.kind,AU8 t.oper,AU8 t.to,AI32 t.n,AI t.v,kesA t.l, .sl 8 (encRl b) none]
def encGl:List GD->List AV
 | []=>[]
 |g::r=>encG g::encGl r
end
abbrev rsA(l:List PR):AV:= .sl 8 (encRl l) none
abbrev gsA(l:List GD):AV:= .sl 18 (encGl l) none
abbrev cellsR(p:PR):AV:= .ag [AU8 p.kind,AI p.c,AI p.v,AU8 p.item,plsA p.to,kesA p.e,gsA p.gs,rsA p.l]
abbrev cellsG(g:GD):AV:= .ag [AU8 g.kind,AU8 g.cond.kind,AU8 g.cond.oper,AU8 g.cond.to,AI32 g.cond.n,AI g.cond.v,kesA g.cond.l,AI g.c,AU8 g.item,AI g.to.v,kesA g.to.ix,AU8 g.time.kind,AU8 g.time.oper,AU8 g.time.to,AI32 g.time.n,AI g.time.v,kesA g.time.l,rsA g.body]
theorem encR_eq(p:PR):encR p=cellsR p:=by obtain ⟨k,c,v,i,to,e,gs,l⟩:=p;rw [encR]
theorem encG_eq(g:GD):encG g=cellsG g:=by obtain ⟨k,e,c,i,to,t,b⟩:=g;rw [encG]
theorem encRl_map(l:List PR):encRl l=l.map encR:=by
 induction l with
 |nil=>rw [encRl];rfl
 |cons x r ih=>rw [encRl,ih];rfl
theorem encGl_map(l:List GD):encGl l=l.map encG:=by
 induction l with
 |nil=>rw [encGl];rfl
 |cons x r ih=>rw [encGl,ih];rfl
theorem encRl_len(l:List PR):(encRl l).length=l.length:=by rw [encRl_map,List.length_map]
theorem encGl_len(l:List GD):(encGl l).length=l.length:=by rw [encGl_map,List.length_map]
theorem encRl_at{l:List PR}{i:Nat}{x:PR}(h:l[i]? =some x):(encRl l)[i]? =some (encR x):=by rw [encRl_map];exact map_at h
theorem encGl_at{l:List GD}{i:Nat}{x:GD}(h:l[i]? =some x):(encGl l)[i]? =some (encG x):=by rw [encGl_map];exact map_at h
def wfPl(p:PL):Prop:=wfKl p.ix
mutual
def wfR:PR->Prop
 |⟨k,c,v,i,to,e,gs,l⟩=>((∀t,t∈to->wfPl t)/\wfKl e/\to.length<=281474976710656/\gs.length<=281474976710656/\l.length<=281474976710656)/\wfGl gs/\wfRl l
def wfRl:List PR->Prop
 | []=>True
 |p::r=>wfR p/\wfRl r
def wfG:GD->Prop
 |⟨k,e,c,i,to,t,b⟩=>(wfK e/\wfK t/\wfPl to)/\wfRl b
def wfGl:List GD->Prop
 | []=>True
 |g::r=>wfG g/\wfGl r
end
theorem wfRl_mem: ∀{l:List PR},wfRl l-> ∀x,x∈l->wfR x
 | [],_,x,h=>by cases h
 |y::r,hw,x,h=>by
  rw [wfRl] at hw
  rcases List.mem_cons.1 h with rfl|h
  ·exact hw.1
  ·exact wfRl_mem hw.2 x h
theorem wfGl_mem: ∀{l:List GD},wfGl l-> ∀x,x∈l->wfG x
 | [],_,x,h=>by cases h
 |y::r,hw,x,h=>by
  rw [wfGl] at hw
  rcases List.mem_cons.1 h with rfl|h
  ·exact hw.1
  ·exact wfGl_mem hw.2 x h
structure WfR(p:PR):Prop where
 to: ∀t,t∈p.to->wfPl t
 e: ∀x,x∈p.e->wfK x
 tol:p.to.length<=281474976710656
 gl:p.gs.length<=281474976710656
 ll:p.l.length<=281474976710656
 g: ∀g,g∈p.gs->wfG g
 l: ∀x,x∈p.l->wfR x
theorem wfR_all{p:PR}(h:wfR p):WfR p:=by
 obtain ⟨k,c,v,i,to,e,gs,l⟩:=p
 rw [wfR] at h
 exact ⟨h.1.1,wfKl_mem h.1.2.1,h.1.2.2.1,h.1.2.2.2.1,h.1.2.2.2.2,wfGl_mem h.2.1,wfRl_mem h.2.2⟩
structure WfG(g:GD):Prop where
 cond:wfK g.cond
 time:wfK g.time
 to:wfPl g.to
 body: ∀x,x∈g.body->wfR x
theorem wfG_all{g:GD}(h:wfG g):WfG g:=by
 obtain ⟨k,e,c,i,to,t,b⟩:=g
 rw [wfG] at h
 exact ⟨h.1.1,h.1.2.1,h.1.2.2,wfRl_mem h.2⟩
def fitV(l:List KV)(e:KE)(k:Int):Bool:=decide (valid e)&&fitsM l e k
def fit1(l:List KV)(es:List KE)(k:Int):Bool:=match es with
 |e::_=>fitV l e k
 | []=>false
def placeB(l:List KV)(p:PL)(k:Int):Bool:=if p.v<0\/(l.length:Int)<=p.v then false else match l[p.v.toNat]? with
 |some x=>x.kind==k&&(if x.dim=0 then p.ix.length==0 else p.ix.length==1&&fit1 l p.ix 1)
 |none=>false
def chanB(n:Nat)(ch item no:Int):Bool:=decide (0<=ch)&&decide (ch<n)&&(ch !=no)&&primB item&&(decide (1<ch)||item==1)
def inputB(l:List KV)(n:Nat)(ch item:Int)(to:PL):Bool:=chanB n ch item 1&&placeB l to item
def zeroE(e:KE):Bool:=e.kind==0&&e.oper==0&&e.to==0&&e.n==0&&e.v==0&&decide (e.l.length<=0)
def plainGB(g:GD)(input timed:Bool):Bool:=(input||(g.c==0&&g.item==0&&g.to.v==0&&g.to.ix.length==0))&&(timed||zeroE g.time)
def guardB(l:List KV)(n:Nat)(g:GD)(choice:Bool):Bool:=(g.body.length==1)&&fitV l g.cond 3&&((g.kind==1)==choice)&&
 (if g.kind=1\/g.kind=2 then plainGB g false false else if g.kind=3 then plainGB g true false&&inputB l n g.c g.item g.to
  else if g.kind=4 then plainGB g false true&&fitV l g.time 1 else false)
def inB(n:Nat)(a b:Int):Bool:=decide (a<=(n:Int))&&decide ((n:Int)<=b)
def shapeR(p:PR)(ch v:Bool)(t1 t2 e1 e2 g1 g2 l1 l2:Int):Bool:=(ch||(p.c==0&&p.item==0))&&(v||p.v==0)&&inB p.to.length t1 t2&&inB p.e.length e1 e2&&inB p.gs.length g1 g2&&inB p.l.length l1 l2
def assignB(l:List KV)(t:PL)(e:KE):Bool:=if t.v<0\/(l.length:Int)<=t.v then false else match l[t.v.toNat]? with
 |some x=>placeB l t x.kind&&fitV l e x.kind
 |none=>false
def to1(f:PL->Bool)(ts:List PL):Bool:=match ts with
 |t::_=>f t
 | []=>false
def kindB(l:List KV)(n:Nat)(p:PR):Bool:=
 if p.kind=1\/p.kind=2 then shapeR p false false 0 0 0 0 0 0 0 0
 else if p.kind=3 then shapeR p false true 0 0 0 0 0 0 0 0&&decide (0<=p.v)&&decide (p.v<l.length)
 else if p.kind=4 then shapeR p false false 1 8 1 8 0 0 0 0&&(p.to.length==p.e.length)&&(p.to.zip p.e).all fun te=>assignB l te.1 te.2
 else if p.kind=5 then shapeR p true false 1 1 0 0 0 0 0 0&&to1 (inputB l n p.c p.item) p.to
 else if p.kind=6 then shapeR p true false 0 0 1 1 0 0 0 0&&chanB n p.c p.item 0&&fit1 l p.e p.item
 else if p.kind=7 then shapeR p false false 1 1 0 0 0 0 0 0&&to1 (fun t=>placeB l t 1) p.to
 else if p.kind=8 then shapeR p false false 0 0 1 1 0 0 0 0&&fit1 l p.e 1
 else if p.kind=9 then shapeR p false false 0 0 0 0 0 0 0 2048
 else if p.kind=10 then shapeR p false false 0 0 0 0 0 0 0 16
 else if p.kind=11 then shapeR p false false 0 0 0 0 0 0 2 2
 else if p.kind=12\/p.kind=14\/p.kind=15 then shapeR p false false 0 0 0 0 0 16 0 0&&p.gs.all fun g=>guardB l n g (p.kind==12)
 else if p.kind=13 then shapeR p false false 0 0 1 1 0 0 1 1&&fit1 l p.e 3
 else false
end Go.Proofs.YtkbolbpojpmicaaGreat
namespace Go.Proofs.YtkbolbpojpmicaaGreat
structure Ord{α:Type}(lt:α->α->Bool):Prop where
 irrefl: ∀x,lt x x=false
 trans: ∀x y z,lt x y=true->lt y z=true->lt x z=true
 tri: ∀x y,lt x y=false->lt y x=false->x=y
abbrev AscL{α:Type}(lt:α->α->Bool)(l:List α):Prop:=l.Pairwise fun x y=>lt x y=true
section
variable{α:Type}{lt:α->α->Bool}
theorem asc_eq(o:Ord lt): ∀{l m:List α},AscL lt l->AscL lt m->(∀z,z∈l↔z∈m)->l=m
 | [],[],_,_,_=>rfl
 | [],y::m,_,_,h=>by have:=(h y).2 (List.mem_cons_self ..);cases this
 |x::l,[],_,_,h=>by have:=(h x).1 (List.mem_cons_self ..);cases this
 |x::l,y::m,a,b,h=>by
  rw [AscL,List.pairwise_cons] at a b
  have hxy:x=y:=by
   rcases List.mem_cons.1 ((h x).1 (List.mem_cons_self ..)) with e|hx
   ·exact e
   ·rcases List.mem_cons.1 ((h y).2 (List.mem_cons_self ..)) with e|hy
    ·exact e.symm
    ·have h1:=b.1 x hx;have h2:=a.1 y hy
     have:=o.trans _ _ _ h1 h2
     rw [o.irrefl] at this;cases this
  subst hxy
  congr 1
  refine asc_eq o a.2 b.2 fun z=>⟨fun hz=>?_,fun hz=>?_⟩
  ·rcases List.mem_cons.1 ((h z).1 (List.mem_cons_of_mem _ hz)) with e|hz'
   ·subst e;have:=a.1 z hz;rw [o.irrefl] at this;cases this
   ·exact hz'
  ·rcases List.mem_cons.1 ((h z).2 (List.mem_cons_of_mem _ hz)) with e|hz'
   ·subst e;have:=b.1 z hz;rw [o.irrefl] at this;cases this
   ·exact hz'
def insS [DecidableEq α](lt:α->α->Bool):List α->α->List α
 | [],x=>[x]
 |y::r,x=>if lt y x=true then y::insS lt r x else if y=x then y::r else x::y::r
theorem mem_insS [DecidableEq α]{l:List α}{x z:α}:z∈insS lt l x↔z=x\/z∈l:=by
 induction l with
 |nil=>simp [insS]
 |cons y r ih=>
  simp only [insS]
  split
  ·simp [ih];constructor
   ·rintro (h|h|h)<;>simp [h]
   ·rintro (h|h|h)<;>simp [h]
  ·split
   ·rename_i _ e;subst e;simp
   ·simp
theorem asc_insS [DecidableEq α](o:Ord lt){l:List α}{x:α}(a:AscL lt l):AscL lt (insS lt l x):=by
 induction l with
 |nil=>simp [insS,AscL]
 |cons y r ih=>
  rw [AscL,List.pairwise_cons] at a
  simp only [insS]
  split
  ·rename_i h
   rw [AscL,List.pairwise_cons]
   refine ⟨fun z hz=>?_,ih a.2⟩
   rcases mem_insS.1 hz with rfl|hz
   ·exact h
   ·exact a.1 z hz
  ·rename_i h1
   split
   ·exact List.pairwise_cons.2 a
   ·rename_i h2
    have hxy:lt x y=true:=by
     cases hb:lt x y with
     |true=>rfl
     |false=>exact (h2 (o.tri _ _ (by simpa using h1) hb)).elim
    rw [AscL,List.pairwise_cons]
    refine ⟨fun z hz=>?_,List.pairwise_cons.2 a⟩
    rcases List.mem_cons.1 hz with rfl|hz
    ·exact hxy
    ·exact o.trans _ _ _ hxy (a.1 z hz)
def insAll [DecidableEq α](lt:α->α->Bool)(l m:List α):List α:=m.foldl (insS lt) l
theorem mem_insAll [DecidableEq α]{z:α}{m:List α}: ∀{l:List α},z∈insAll lt l m↔z∈l\/z∈m:=by
 induction m with
 |nil=>intro l;simp [insAll]
 |cons x m ih=>
  intro l
  have:=ih (l:=insS lt l x)
  simp only [insAll,List.foldl_cons] at this⊢
  rw [this,mem_insS]
  simp only [List.mem_cons]
  constructor
  ·rintro ((h|h)|h)<;>simp [h]
  ·rintro (h|h|h)<;>simp [h]
theorem asc_insAll [DecidableEq α](o:Ord lt): ∀{m l:List α},AscL lt l->AscL lt (insAll lt l m)
 | [],l,a=>a
 |x::m,l,a=>asc_insAll o (m:=m) (l:=insS lt l x) (asc_insS o a)
theorem insAll_append [DecidableEq α]{l m n:List α}:insAll lt l (m++n)=insAll lt (insAll lt l m) n:=List.foldl_append ..
def compD [DecidableEq α]:List α->List α
 | []=>[]
 | [x]=>[x]
 |x::y::r=>if x=y then compD (y::r) else x::compD (y::r)
theorem mem_compD [DecidableEq α]{z:α}: ∀{l:List α},z∈compD l↔z∈l
 | []=>by simp [compD]
 | [x]=>by simp [compD]
 |x::y::r=>by
  have ih:=mem_compD (z:=z) (l:=y::r)
  simp only [compD]
  split
  ·rename_i e;subst e;rw [ih];simp
  ·rw [List.mem_cons,ih];exact List.mem_cons.symm
theorem asc_compD [DecidableEq α](o:Ord lt): ∀{l:List α},l.Pairwise (fun x y=>lt y x=false)->AscL lt (compD l)
 | [],_=>by simp [compD,AscL]
 | [x],_=>by simp [compD,AscL]
 |x::y::r,a=>by
  rw [List.pairwise_cons] at a
  have ih:=asc_compD o (l:=y::r) a.2
  simp only [compD]
  split
  ·exact ih
  ·rename_i hne
   rw [AscL,List.pairwise_cons]
   refine ⟨fun z hz=>?_,ih⟩
   have hz:=mem_compD.1 hz
   have hle:=a.1 z hz
   cases hb:lt x z with
   |true=>rfl
   |false=>
    have e:=o.tri _ _ hb hle
    subst e
    have h1:=(List.pairwise_cons.1 a.2).1
    rcases List.mem_cons.1 hz with e|hz
    ·exact (hne e).elim
    ·exact (hne (o.tri _ _ (by
      cases hb2:lt x y with
      |false=>rfl
      |true=>have:=h1 x hz;rw [hb2] at this;cases this) (a.1 y (List.mem_cons_self ..)))).elim
theorem comp_ins [DecidableEq α](o:Ord lt){l m:List α}(p:l.Perm m)(s:l.Pairwise fun x y=>lt y x=false):compD l=insAll lt [] m:=
 asc_eq o (asc_compD o s) (asc_insAll o (List.Pairwise.nil)) fun z=>by rw [mem_compD,mem_insAll,p.mem_iff];simp
end
theorem ord_int:Ord (fun x y:Int=>decide (x<y)) where
 irrefl x:=by simp
 trans x y z h1 h2:=by simp at*;omega
 tri x y h1 h2:=by simp at*;omega
abbrev EL:=Int×Int
theorem take_two{α:Type}(l:List α)(m:Nat)(h0:0<m){x y:α}(hx:l[m-1]? =some x)(hy:l[m]? =some y):l.take (m+1)=l.take (m-1)++[x,y]/\l.take m=l.take (m-1)++[x]:=by
 have hxl:m-1<l.length:=(List.getElem?_eq_some_iff.1 hx).1
 have hyl:m<l.length:=(List.getElem?_eq_some_iff.1 hy).1
 have e1:l.take m=l.take (m-1)++[x]:=by
  have:=List.take_add_one (l:=l) (i:=m-1)
  rw [show m-1+1=m by omega] at this
  rw [this,hx];rfl
 refine ⟨?_,e1⟩
 rw [List.take_add_one,hy,e1]
 simp
section
variable{α:Type} [DecidableEq α]
theorem compD_snoc(x y:α): ∀l:List α,compD (l++[x,y])=if x=y then compD (l++[x]) else compD (l++[x])++[y]
 | []=>by
   simp only [List.nil_append,compD]
   split
   ·rename_i e;rw [e]
   ·rfl
 | [a]=>by
   have ih:=compD_snoc x y []
   simp only [List.nil_append,List.cons_append] at ih⊢
   rw [compD,ih]
   conv=>rhs;rw [compD]
   split<;>split<;>simp_all
 |a::b::l=>by
  have ih:=compD_snoc x y (b::l)
  simp only [List.cons_append] at ih⊢
  rw [compD,ih]
  conv=>rhs;rw [compD]
  split<;>split<;>simp_all
theorem comp_step(l:List α)(m:Nat)(h0:0<m){x y:α}(hx:l[m-1]? =some x)(hy:l[m]? =some y):
 compD (l.take (m+1))=if x=y then compD (l.take m) else compD (l.take m)++[y]:=by
 obtain ⟨e1,e2⟩:=take_two l m h0 hx hy
 rw [e1,e2,compD_snoc]
theorem comp_pos: ∀l:List α,l≠[]->compD l≠[]
 | [],h=>(h rfl).elim
 | [x],_=>by simp [compD]
 |x::y::r,_=>by
  have:=comp_pos (y::r) (by simp)
  simp only [compD]
  split
  ·exact this
  ·simp
structure CompI(l r:List α)(m k:Nat):Prop where
 len:r.length=l.length
 kl:(compD (l.take m)).length=k
 lt:k<m
 out:r.take k=compD (l.take m)
 rest: ∀i,m-1<=i->r[i]? =l[i]?
theorem CompI.start{l:List α}{m:Nat}{x:α}(h0:0<m)(hx:l[m-1]? =some x)(hy:l[m]? =some x)(hd:compD (l.take m)=l.take m):CompI l l (m+1) m:=by
 have hyl:m<l.length:=(List.getElem?_eq_some_iff.1 hy).1
 have e:=comp_step l m h0 hx hy
 rw [if_pos rfl,hd] at e
 exact ⟨rfl,by rw [e,List.length_take];omega,by omega,e.symm,fun _ _=>rfl⟩
theorem CompI.same{l r:List α}{m k:Nat}(c:CompI l r m k)(h0:0<m){x:α}(hx:l[m-1]? =some x)(hy:l[m]? =some x):CompI l r (m+1) k:=by
 have e:=comp_step l m h0 hx hy
 rw [if_pos rfl] at e
 exact ⟨c.len,by rw [e,c.kl],by have:=c.lt;omega,by rw [e,c.out],fun i hi=>c.rest i (by omega)⟩
theorem CompI.put{l r:List α}{m k:Nat}(c:CompI l r m k)(h0:0<m){x y:α}(hx:l[m-1]? =some x)(hy:l[m]? =some y)(hne:x≠y):CompI l (r.set k y) (m+1) (k+1):=by
 have hyl:m<l.length:=(List.getElem?_eq_some_iff.1 hy).1
 have e:=comp_step l m h0 hx hy
 rw [if_neg hne] at e
 have hk:=c.lt
 have hl:=c.len
 refine ⟨by simp [c.len],by rw [e,List.length_append,c.kl];rfl,by omega,?_,fun i hi=>?_⟩
 ·rw [e,List.take_add_one,List.take_set_of_le (Nat.le_refl _),c.out,List.getElem?_set_self (by omega)];rfl
 ·rw [List.getElem?_set_ne (by omega)];exact c.rest i (by omega)
theorem comp_dis{l:List α}{m:Nat}{x y:α}(h0:0<m)(hx:l[m-1]? =some x)(hy:l[m]? =some y)(hne:x≠y)(hd:compD (l.take m)=l.take m):compD (l.take (m+1))=l.take (m+1):=by
 rw [comp_step l m h0 hx hy,if_neg hne,hd,List.take_add_one,hy];rfl
end
end Go.Proofs.YtkbolbpojpmicaaGreat
namespace Go.Proofs.YtkbolbpojpmicaaGreat
open Go Go.Tp
def ltI(x y:Int):Bool:=decide (x<y)
def canI(l:List Int):List Int:=insAll ltI [] l
def okI(x:Option Int):Prop:= ∀r,x=some r->i32 r
theorem ok_ite{p:Prop} [Decidable p]{x y:Option Int}(hx:okI x)(hy:okI y):okI (if p then x else y):=by split<;>assumption
theorem ok_none:okI none:=fun r h=>by cases h
theorem ok_some{x:Int}(h:i32 x):okI (some x):=fun r e=>by injection e with e;subst e;exact h
theorem ok_wrap(n:Int):okI (some (w32 n)):=ok_some (w32_in n)
theorem ok_fit(n:Int):okI (fit32 n):=by
 unfold fit32;split
 ·rename_i h;simp [fitB] at h;exact ok_some (by unfold i32;omega)
 ·exact ok_none
theorem i32_0:i32 0:=by unfold i32;decide
theorem ok_truth(b:Bool):okI (some (truthI b)):=ok_some (by cases b<;>simp [truthI,i32])
theorem tmod_in{a b:Int}(ha:i32 a)(hb:i32 b)(h: ¬b=0):i32 (a.tmod b):=by
 have h1:=Int.natAbs_tmod a b
 have h2:a.natAbs % b.natAbs<b.natAbs:=Nat.mod_lt _ (by omega)
 unfold i32 at*;omega
theorem applyC_in{o a b:Int}(ha:i32 a)(hb:i32 b):okI (applyC o a b):=by
 unfold applyC
 refine ok_ite (ok_fit _)<|ok_ite (ok_fit _)<|ok_ite (ok_fit _)<|ok_ite ?_<|ok_ite ?_<|ok_ite (ok_wrap _)<|ok_ite (ok_wrap _)<|ok_ite (ok_wrap _)<|
  ok_ite (ok_some (w32_in _))<|ok_ite (ok_some (w32_in _))<|ok_ite (ok_some (w32_in _))<|ok_ite (ok_some ?_)<|ok_ite (ok_some ?_)<|ok_ite (ok_truth _)<|ok_ite (ok_truth _)<|ok_ite (ok_truth _)<|
  ok_ite (ok_truth _)<|ok_ite (ok_truth _)<|ok_ite (ok_truth _)<|ok_ite (ok_ite (ok_truth _) ok_none)<|ok_ite (ok_ite (ok_truth _) ok_none)<|ok_ite (ok_truth _)<|ok_ite (ok_fit _)<|ok_ite (ok_wrap _)<|ok_ite (ok_some (w32_in _))<|ok_ite (ok_ite (ok_truth _) ok_none) ok_none
 ·split
  ·exact ok_none
  ·rename_i h;exact ok_some (tdiv_in ha (by simpa using h))
 ·split
  ·exact ok_none
  ·rename_i h;exact ok_some (tmod_in ha hb h)
 ·unfold shlM;split
  ·exact i32_0
  ·exact w32_in _
 ·unfold shrM;split
  ·exact i32_0
  ·exact w32_in _
def wfS(s:List (List Int)):Prop:= ∀r,r∈s-> ∀x,x∈r->i32 x
theorem atM_in{s:List (List Int)}(hs:wfS s)(v i:Int):okI (atM s v i):=by
 unfold atM;split
 ·exact ok_none
 ·intro r h
  cases h1:s[v.toNat]? with
  |none=>rw [h1] at h;cases h
  |some l=>rw [h1] at h;exact hs l (List.mem_of_getElem? h1) r (List.mem_of_getElem? h)
theorem convC_in{t v:Int}(h:i32 v):okI (convC t v):=by
 unfold convC;split
 ·exact ok_some h
 ·exact ok_none
def isSh(o a:Int):Bool:=(o==20&&a==0)||(o==21&&a==1)
def combM(s:List (List Int))(k o t n v:Int)(vs:List (Option Int)):Option Int:=
 if k=1 then some n else if k=2 then atM s v 0 else match vs with
 |some a::r=>if k=3 then atM s v a else if k=4 then applyC o a 0 else if k=6 then convC t a else if isSh o a then some a else match r with
  |some b::_=>applyC o a b
  |_=>none
 |_=>none
theorem isSh_eq(o a:Int):(bif bif o==20 then a==0 else false then true else bif o==21 then a==1 else false)=isSh o a:=by unfold isSh;cases (o==20)<;>cases (a==0)<;>cases (o==21)<;>rfl
mutual
def valM(s:List (List Int)):KE->Option Int
 |⟨k,o,t,n,v,l⟩=>combM s k o t n v (valMl s l)
def valMl(s:List (List Int)):List KE->List (Option Int)
 | []=>[]
 |e::r=>valM s e::valMl s r
end
theorem valM_in{s:List (List Int)}(hs:wfS s): ∀(N:Nat) (e:KE),sz e<=N->wfK e->fine e=true->okI (valM s e)
 |0,e,hn,_,_=>by have:=sz_pos e;omega
 |N+1,e,hn,hw,hf=>by
  have hb0:=i32_0
  rcases fine_cases hf with ⟨n,rfl⟩|⟨v,h1,h2,rfl⟩|⟨v,a,h1,h2,h3,rfl⟩|⟨o,a,h1,h2,h3,rfl⟩|⟨o,a,b,h1,h2,h3,h4,rfl⟩|⟨t,a,h1,h2,h3,rfl⟩
  ·simp [valM,valMl,combM];simp only [wfK] at hw;exact ok_some hw.1.2.2.2.1
  ·simp [valM,valMl,combM];exact atM_in hs _ _
  ·cases ha:valM s a<;>simp [valM,valMl,combM,ha]
   ·exact ok_none
   ·exact atM_in hs _ _
  ·simp only [sz,szl] at hn
   have ih:=valM_in hs N a (by omega) (wfK1 hw) h3
   cases ha:valM s a<;>simp [valM,valMl,combM,ha]
   ·exact ok_none
   ·exact applyC_in (ih _ ha) hb0
  ·simp only [sz,szl] at hn
   have:=sz_pos a
   have:=sz_pos b
   have ih:=valM_in hs N a (by omega) (wfK2 hw).1 h3
   have ih2:=valM_in hs N b (by omega) (wfK2 hw).2 h4
   cases ha:valM s a<;>simp [valM,valMl,combM,ha]
   ·exact ok_none
   ·split
    ·exact ok_some (ih _ ha)
    ·cases hb:valM s b
     ·exact ok_none
     ·exact applyC_in (ih _ ha) (ih2 _ hb)
  ·simp only [sz,szl] at hn
   have ih:=valM_in hs N a (by omega) (wfK1 hw) h3
   cases ha:valM s a<;>simp [valM,valMl,combM,ha]
   ·exact ok_none
   ·exact convC_in (ih _ ha)
def valueM(s:List (List Int))(e:KE):Option Int:=if valid e then valM s e else none
theorem valueM_in{s:List (List Int)}(hs:wfS s){e:KE}(hw:wfK e):okI (valueM s e):=by
 unfold valueM;split
 ·rename_i h;exact valM_in hs _ e (Nat.le_refl _) hw h.1
 ·exact ok_none
theorem value_p(s:List (List Int))(hs:wfS s): ∀(N:Nat) (e:KE),sz e<=N->wfK e->fine e=true->Pure Tryz.prog gs0 217 [rowsA s,encK e] (optA (valM s e))
 |0,e,hn,_,_=>by have:=sz_pos e;omega
 |N+1,e,hn,hw,hf=>by
  have hb0:=i32_0
  rcases fine_cases hf with ⟨n,rfl⟩|⟨v,h1,h2,rfl⟩|⟨v,a,h1,h2,h3,rfl⟩|⟨o,a,h1,h2,h3,rfl⟩|⟨o,a,b,h1,h2,h3,h4,rfl⟩|⟨t,a,h1,h2,h3,rfl⟩
  ·simp only [encK,encKl]
   refine p_ tt_ok Tryz.func217 105 fun w0 h0 F hgs=>?_
   (refine b_ fun bx=>?_;refine y_ ?_);refine q_ ?_;exact .refl
  ·simp only [encK,encKl]
   refine p_ tt_ok Tryz.func217 105 fun w0 h0 F hgs=>?_
   (refine b_ fun bx=>?_;refine y_ ?_);refine c_ (at_p _ _ _) ?_;refine q_ ?_;exact .refl
  ·simp only [sz,szl] at hn
   have ih:=value_p s hs N a (by omega) (wfK1 hw) h3
   have hi:=valM_in hs N a (by omega) (wfK1 hw) h3
   rw [encK_eq] at ih
   simp only [encK,encKl]
   cases ha:valM s a with
   |none=>
    rw [ha] at ih
    have e:valM s ⟨3,0,0,0,v,[a]⟩=none:=by simp [valM,valMl,combM,ha]
    rw [e]
    refine p_ tt_ok Tryz.func217 105 fun w0 h0 F hgs=>?_
    (refine b_ fun bx=>?_;refine y_ ?_)
    refine j_ rfl rfl rfl ?_
    refine e_ 27 rfl (pe_enc a) ?_
    refine c_ (ih) ?_;refine q_ ?_;exact .refl
   |some x=>
    rw [ha] at ih
    have hx:=hi x ha
    have e:valM s ⟨3,0,0,0,v,[a]⟩=atM s v x:=by simp [valM,valMl,combM,ha]
    rw [e]
    refine p_ tt_ok Tryz.func217 105 fun w0 h0 F hgs=>?_
    (refine b_ fun bx=>?_;refine y_ ?_)
    refine j_ rfl rfl rfl ?_
    refine e_ 27 rfl (pe_enc a) ?_
    refine c_ (ih) ?_
    refine A.valE 42 rfl (x':=AI x) (ai_eq (w64_32 hx)) ?_
    refine c_ (at_p _ _ _) ?_;refine q_ ?_;exact .refl
  ·simp only [sz,szl] at hn
   have ih:=value_p s hs N a (by omega) (wfK1 hw) h3
   have hi:=valM_in hs N a (by omega) (wfK1 hw) h3
   rw [encK_eq] at ih
   simp only [encK,encKl]
   cases ha:valM s a with
   |none=>
    rw [ha] at ih
    have e:valM s ⟨4,o,0,0,0,[a]⟩=none:=by simp [valM,valMl,combM,ha]
    rw [e]
    refine p_ tt_ok Tryz.func217 105 fun w0 h0 F hgs=>?_
    (refine b_ fun bx=>?_;refine y_ ?_)
    refine j_ rfl rfl rfl ?_
    refine e_ 27 rfl (pe_enc a) ?_
    refine c_ (ih) ?_;refine q_ ?_;exact .refl
   |some x=>
    rw [ha] at ih
    have hx:=hi x ha
    have e:valM s ⟨4,o,0,0,0,[a]⟩=applyC o x 0:=by simp [valM,valMl,combM,ha]
    rw [e]
    refine p_ tt_ok Tryz.func217 105 fun w0 h0 F hgs=>?_
    (refine b_ fun bx=>?_;refine y_ ?_)
    refine j_ rfl rfl rfl ?_
    refine e_ 27 rfl (pe_enc a) ?_
    refine c_ (ih) ?_
    refine c_ (apply_p o x 0 hx hb0) ?_
    refine c_ (some_p _ _) ?_;refine q_ ?_;cases applyC o x 0<;>exact .refl
  ·simp only [sz,szl] at hn
   have:=sz_pos a
   have:=sz_pos b
   have ih:=value_p s hs N a (by omega) (wfK2 hw).1 h3
   have ih2:=value_p s hs N b (by omega) (wfK2 hw).2 h4
   have hi:=valM_in hs N a (by omega) (wfK2 hw).1 h3
   have hi2:=valM_in hs N b (by omega) (wfK2 hw).2 h4
   rw [encK_eq] at ih ih2
   simp only [encK,encKl]
   cases ha:valM s a with
   |none=>
    rw [ha] at ih
    have e:valM s ⟨5,o,0,0,0,[a,b]⟩=none:=by simp [valM,valMl,combM,ha]
    rw [e]
    refine p_ tt_ok Tryz.func217 105 fun w0 h0 F hgs=>?_
    (refine b_ fun bx=>?_;refine y_ ?_)
    refine j_ rfl rfl rfl ?_
    refine e_ 27 rfl (pe_enc a) ?_
    refine c_ (ih) ?_;refine q_ ?_;exact .refl
   |some x=>
    rw [ha] at ih
    have hx:=hi x ha
    by_cases hsh:isSh o x=true
    ·have e:valM s ⟨5,o,0,0,0,[a,b]⟩=some x:=by simp [valM,valMl,combM,ha,hsh]
     rw [e]
     refine p_ tt_ok Tryz.func217 105 fun w0 h0 F hgs=>?_
     (refine b_ fun bx=>?_;refine y_ ?_)
     refine j_ rfl rfl rfl ?_
     refine e_ 27 rfl (pe_enc a) ?_
     refine n_ (ih) ?_
     refine g_ ?_
     refine e_ 82 rfl (x':=AB true) (ab_eq ((isSh_eq o x).trans hsh)) ?_;refine q_ ?_;exact .refl
    ·have hsf:isSh o x=false:=by simpa using hsh
     cases hb:valM s b with
     |none=>
      rw [hb] at ih2
      have e:valM s ⟨5,o,0,0,0,[a,b]⟩=none:=by simp [valM,valMl,combM,ha,hb,hsf]
      rw [e]
      refine p_ tt_ok Tryz.func217 105 fun w0 h0 F hgs=>?_
      (refine b_ fun bx=>?_;refine y_ ?_)
      refine j_ rfl rfl rfl ?_
      refine e_ 27 rfl (pe_enc a) ?_
      refine n_ (ih) ?_
      refine g_ ?_
      refine e_ 82 rfl (x':=AB false) (ab_eq ((isSh_eq o x).trans hsf)) ?_
      refine j_ rfl rfl rfl ?_
      refine e_ 88 rfl (pe_enc b) ?_
      refine c_ (ih2) ?_;refine q_ ?_;exact .refl
     |some y=>
      rw [hb] at ih2
      have hy:=hi2 y hb
      have e:valM s ⟨5,o,0,0,0,[a,b]⟩=applyC o x y:=by simp [valM,valMl,combM,ha,hb,hsf]
      rw [e]
      refine p_ tt_ok Tryz.func217 105 fun w0 h0 F hgs=>?_
      (refine b_ fun bx=>?_;refine y_ ?_)
      refine j_ rfl rfl rfl ?_
      refine e_ 27 rfl (pe_enc a) ?_
      refine n_ (ih) ?_
      refine g_ ?_
      refine e_ 82 rfl (x':=AB false) (ab_eq ((isSh_eq o x).trans hsf)) ?_
      refine j_ rfl rfl rfl ?_
      refine e_ 88 rfl (pe_enc b) ?_
      refine c_ (ih2) ?_
      refine c_ (apply_p o x y hx hy) ?_
      refine c_ (some_p _ _) ?_;refine q_ ?_;cases applyC o x y<;>exact .refl
  ·simp only [sz,szl] at hn
   have ih:=value_p s hs N a (by omega) (wfK1 hw) h3
   rw [encK_eq] at ih
   simp only [encK,encKl]
   cases ha:valM s a with
   |none=>
    rw [ha] at ih
    have e:valM s ⟨6,0,t,0,0,[a]⟩=none:=by simp [valM,valMl,combM,ha]
    rw [e]
    refine p_ tt_ok Tryz.func217 105 fun w0 h0 F hgs=>?_
    (refine b_ fun bx=>?_;refine y_ ?_)
    refine j_ rfl rfl rfl ?_
    refine e_ 27 rfl (pe_enc a) ?_
    refine c_ (ih) ?_;refine q_ ?_;exact .refl
   |some x=>
    rw [ha] at ih
    have e:valM s ⟨6,0,t,0,0,[a]⟩=convC t x:=by simp [valM,valMl,combM,ha]
    rw [e,conv_fits]
    refine p_ tt_ok Tryz.func217 105 fun w0 h0 F hgs=>?_
    (refine b_ fun bx=>?_;refine y_ ?_)
    refine j_ rfl rfl rfl ?_
    refine e_ 27 rfl (pe_enc a) ?_
    refine c_ (ih) ?_
    refine n_ (fits_p _ _) ?_
    refine c_ (some_p _ _) ?_;refine q_ ?_;exact .refl
theorem Value_p(s:List (List Int))(hs:wfS s)(e:KE)(hw:wfK e):Pure Tryz.prog gs0 137 [rowsA s,encK e] (optA (valueM s e)):=by
 have hp:=evalid_p e hw
 have hv:=fun h=>value_p s hs _ e (Nat.le_refl _) hw h
 rw [encK_eq] at hp⊢
 simp only [encK_eq] at hv
 by_cases h:valid e
 ·have hv:=hv h.1
  rw [valueM,if_pos h];rw [decide_eq_true h] at hp
  refine p_ tt_ok Tryz.func137 14 fun w0 h0 F hgs=>?_
  (refine b_ fun bx=>?_;refine y_ ?_);refine c_ (hp) ?_;refine c_ (hv) ?_;refine q_ ?_;exact .refl
 ·rw [valueM,if_neg h];rw [decide_eq_false h] at hp
  refine p_ tt_ok Tryz.func137 14 fun w0 h0 F hgs=>?_
  (refine b_ fun bx=>?_;refine y_ ?_);refine c_ (hp) ?_;refine q_ ?_;exact .refl
def lens(s:List (List Int)):Nat:=(s.map List.length).sum
abbrev encP(v:Int)(l:List KE):AV:= .ag [AI v, .sl 6 (encKl l) none]
def placeM(s:List (List Int))(v:Int):List KE->Option (Int×Int)
 | []=>if (atM s v 0).isSome then some (v,0) else none
 | [e]=>match valueM s e with
   |some x=>if (atM s v x).isSome then some (v,x) else none
   |none=>none
 |_=>none
abbrev optP(x:Option (Int×Int)):AV:= .tp [AI (x.getD (0,0)).1,AI (x.getD (0,0)).2,AB x.isSome]
theorem Place_p(s:List (List Int))(hs:wfS s)(v:Int)(l:List KE)(hw:wfKl l)(hn:l.length<=281474976710656):Pure Tryz.prog gs0 215 [rowsA s,encP v l] (optP (placeM s v l)):=by
 have hl:=encKl_len l
 match l,hw,hn,hl with
 | [],hw,hn,hl=>
   unfold placeM
   cases h:atM s v 0 with
   |none=>
    have hp:=at_p s v 0
    rw [h] at hp
    refine p_ tt_ok Tryz.func215 42 fun w0 h0 F hgs=>?_
    (refine b_ fun bx=>?_;refine y_ ?_);refine c_ (hp) ?_;refine A.ret3 (Λ':=[]) rfl rfl rfl rfl rfl (List.nil_sublist _) ⟨?_,rfl⟩;exact .refl
   |some y=>
    have hp:=at_p s v 0
    rw [h] at hp
    refine p_ tt_ok Tryz.func215 42 fun w0 h0 F hgs=>?_
    (refine b_ fun bx=>?_;refine y_ ?_);refine c_ (hp) ?_;refine A.ret3 (Λ':=[]) rfl rfl rfl rfl rfl (List.nil_sublist _) ⟨?_,rfl⟩;exact .refl
 | [e],hw,hn,hl=>
   unfold placeM
   simp only [wfKl] at hw
   have hv:=Value_p s hs e hw.1
   rw [encK_eq] at hv
   simp only [encP,encKl]
   cases hx:valueM s e with
   |none=>
    rw [hx] at hv
    refine p_ tt_ok Tryz.func215 42 fun w0 h0 F hgs=>?_
    (refine b_ fun bx=>?_;refine y_ ?_)
    refine j_ rfl rfl rfl ?_
    refine e_ 20 rfl (pe_enc e) ?_;refine c_ (hv) ?_;refine A.ret3 (Λ':=[]) rfl rfl rfl rfl rfl (List.nil_sublist _) ⟨?_,rfl⟩;exact .refl
   |some x=>
    rw [hx] at hv
    have hxi:=valueM_in hs hw.1 x hx
    cases h:atM s v x with
    |none=>
     have hp:=at_p s v x
     rw [h] at hp
     simp only [h]
     refine p_ tt_ok Tryz.func215 42 fun w0 h0 F hgs=>?_
     (refine b_ fun bx=>?_;refine y_ ?_)
     refine j_ rfl rfl rfl ?_
     refine e_ 20 rfl (pe_enc e) ?_;refine c_ (hv) ?_
     refine A.valE 33 rfl (x':=AI x) (ai_eq (w64_32 hxi)) ?_
     refine c_ (hp) ?_;refine A.ret3 (Λ':=[]) rfl rfl rfl rfl rfl (List.nil_sublist _) ⟨?_,rfl⟩;exact .refl
    |some y=>
     have hp:=at_p s v x
     rw [h] at hp
     simp only [h]
     refine p_ tt_ok Tryz.func215 42 fun w0 h0 F hgs=>?_
     (refine b_ fun bx=>?_;refine y_ ?_)
     refine j_ rfl rfl rfl ?_
     refine e_ 20 rfl (pe_enc e) ?_;refine c_ (hv) ?_
     refine A.valE 33 rfl (x':=AI x) (ai_eq (w64_32 hxi)) ?_
     refine A.valE 5 rfl (x':=AI x) (ai_eq (w64_32 hxi)) ?_
     refine c_ (hp) ?_;refine A.ret3 (Λ':=[]) rfl rfl rfl rfl rfl (List.nil_sublist _) ⟨?_,rfl⟩;exact .refl
 |e::b::r,hw,hn,hl=>
  unfold placeM
  refine p_ tt_ok Tryz.func215 42 fun w0 h0 F hgs=>?_
  (refine b_ fun bx=>?_;refine y_ ?_);refine A.ret3 (Λ':=[]) rfl rfl rfl rfl rfl (List.nil_sublist _) ⟨?_,rfl⟩;exact .refl
end Go.Proofs.YtkbolbpojpmicaaGreat
namespace Go.Proofs.YtkbolbpojpmicaaGreat
abbrev TR:=List EL
section
variable{S:Type}
end
end Go.Proofs.YtkbolbpojpmicaaGreat
