/-
  Texts TpT Q0 P21a P20a P20b P20c Q16a Q14a Q14b Q14c Q14d Q14v Q17a Q17e Q17f Q0i Q17g Q17b Q16b Q16c Q16d. Conditions: as each theorem says.
-/
import Derived.Test.YtpcloejpklkieaaGreatV1
import Derived.Test.YtpcloejpklkieaaGreatChecked
import Derived.Test.YtpcloejpklkieaaGreatV3
import Derived.Test.YtpcloejpklkieaaGreatV2
set_option linter.unusedVariables false
set_option linter.unusedSimpArgs false
set_option maxRecDepth 100000
set_option maxHeartbeats 4000000
namespace Go.Proofs.YtpcloejpklkieaaGreat
open Go Go.Tp
abbrev zS_:Value:= .slice none 0 0
abbrev zB_:Value:= .int .u8 0
abbrev zI_:Value:= .int .i64 0
abbrev fd_(n:String)(t o:Nat)(p:String)(b:Nat):Field:=⟨n,t,o,false, "",p,b⟩
abbrev tf_(a b:Array Nat):TI:=⟨.func a b false,1,8,[.nilFunc],false⟩
theorem tk_{P:Program}{t:Nat}{d:TypeDesc}{sz bt:Nat}{zs:List Value}{ag:Bool}(hu:P.underlying t=some d:=by kernel_rfl)(hi:(P.info? t).map (fun i=>(i.zero.map fun z=>z.cells.toList,i.size,i.bytes))=some (some zs,sz,bt):=by kernel_rfl)(ha:isAggD d=ag:=by exact rfl)(hl:Nat.beq zs.length sz=true:=by exact rfl):TI.Ok P t ⟨d,sz,bt,zs,ag⟩:=TI.mk_ok hu hi ha hl
def ty2:TI:=⟨(.int IntKind.i64),1,8,[zI_],false⟩
def ty3:TI:=⟨(.int IntKind.i64),1,8,[zI_],false⟩
def ty4:TI:=⟨TypeDesc.bool,1,1,[(Value.bool false)],false⟩
def ty5:TI:=⟨(.int IntKind.u8),1,1,[zB_],false⟩
def ty9:TI:=⟨TypeDesc.string,1,16,[(Value.string {data:= #[]})],false⟩
def ty12:TI:=⟨(.int IntKind.u64),1,8,[(Value.int IntKind.u64 0)],false⟩
def ty13:TI:=⟨(.struct #[fd_ "msg" 9 0 "runtime" 0,fd_ "addr" 12 1 "runtime" 16]),2,24,[(Value.string {data:= #[]}),(Value.int IntKind.u64 0)],true⟩
def ty20:TI:=⟨(.interface #[]),1,16,[Value.nilIface],false⟩
def ty21:TI:=⟨(.int IntKind.i32),1,4,[(Value.int IntKind.i32 0)],false⟩
def ty22:TI:=⟨(.slice 107),1,24,[zS_],false⟩
def ty23:TI:=⟨(.slice 108),1,24,[zS_],false⟩
def ty24:TI:=⟨(.int IntKind.u8),1,1,[zB_],false⟩
def ty25:TI:=⟨(.int IntKind.u8),1,1,[zB_],false⟩
def ty26:TI:=⟨(.slice 61),1,24,[zS_],false⟩
def ty27:TI:=⟨(.slice 65),1,24,[zS_],false⟩
def ty28:TI:=⟨(.slice 153),1,24,[zS_],false⟩
def ty29:TI:=⟨(.slice 31),1,24,[zS_],false⟩
def ty30:TI:=⟨(.struct #[fd_ "Kind" 24 0 "" 0,fd_ "C" 3 1 "" 8,fd_ "V" 3 2 "" 16,fd_ "Item" 25 3 "" 24,fd_ "To" 26 4 "" 32,fd_ "E" 27 5 "" 56,fd_ "Guards" 28 6 "" 80,fd_ "L" 29 7 "" 104]),8,128,[zB_,zI_,zI_,zB_,zS_,zS_,zS_,zS_],true⟩
def ty31:TI:=⟨(.struct #[fd_ "Kind" 24 0 "" 0,fd_ "C" 3 1 "" 8,fd_ "V" 3 2 "" 16,fd_ "Item" 25 3 "" 24,fd_ "To" 26 4 "" 32,fd_ "E" 27 5 "" 56,fd_ "Guards" 28 6 "" 80,fd_ "L" 29 7 "" 104]),8,128,[zB_,zI_,zI_,zB_,zS_,zS_,zS_,zS_],true⟩
def ty32:TI:=⟨(.slice 3),1,24,[zS_],false⟩
def ty33:TI:=⟨(.struct #[fd_ "Vars" 22 0 "" 0,fd_ "Chans" 23 1 "" 24,fd_ "Root" 31 2 "" 48,fd_ "Procs" 32 10 "" 176]),11,200,[zS_,zS_,zB_,zI_,zI_,zB_,zS_,zS_,zS_,zS_,zS_],true⟩
def ty34:TI:=⟨(.struct #[fd_ "Vars" 22 0 "" 0,fd_ "Chans" 23 1 "" 24,fd_ "Root" 31 2 "" 48,fd_ "Procs" 32 10 "" 176]),11,200,[zS_,zS_,zB_,zI_,zI_,zB_,zS_,zS_,zS_,zS_,zS_],true⟩
def ty35:TI:=⟨(.slice 21),1,24,[zS_],false⟩
def ty36:TI:=⟨(.slice 5),1,24,[zS_],false⟩
def ty37:TI:=⟨(.slice 69),1,24,[zS_],false⟩
def ty38:TI:=⟨(.slice 35),1,24,[zS_],false⟩
def ty39:TI:=⟨(.struct #[fd_ "Store" 38 0 "" 0,fd_ "Root" 31 1 "" 24,fd_ "In" 35 9 "" 152,fd_ "Time" 21 10 "" 176]),11,184,[zS_,zB_,zI_,zI_,zB_,zS_,zS_,zS_,zS_,zS_,(Value.int IntKind.i32 0)],true⟩
def ty40:TI:=⟨(.struct #[fd_ "Store" 38 0 "" 0,fd_ "Root" 31 1 "" 24,fd_ "In" 35 9 "" 152,fd_ "Time" 21 10 "" 176]),11,184,[zS_,zB_,zI_,zI_,zB_,zS_,zS_,zS_,zS_,zS_,(Value.int IntKind.i32 0)],true⟩
def ty41:TI:=⟨(.int IntKind.i64),1,8,[zI_],false⟩
def ty45:TI:=⟨(.slice 37),1,24,[zS_],false⟩
def ty52:TI:=⟨(.slice 75),1,24,[zS_],false⟩
def ty60:TI:=⟨(.struct #[fd_ "V" 3 0 "" 0,fd_ "Index" 27 1 "" 8]),2,32,[zI_,zS_],true⟩
def ty61:TI:=⟨(.struct #[fd_ "V" 3 0 "" 0,fd_ "Index" 27 1 "" 8]),2,32,[zI_,zS_],true⟩
def ty62:TI:=⟨(.int IntKind.u8),1,1,[zB_],false⟩
def ty63:TI:=⟨(.int IntKind.u8),1,1,[zB_],false⟩
def ty64:TI:=⟨(.struct #[fd_ "Kind" 62 0 "" 0,fd_ "Oper" 63 1 "" 1,fd_ "To" 25 2 "" 2,fd_ "N" 21 3 "" 4,fd_ "V" 3 4 "" 8,fd_ "L" 27 5 "" 16]),6,40,[zB_,zB_,zB_,(Value.int IntKind.i32 0),zI_,zS_],true⟩
def ty65:TI:=⟨(.struct #[fd_ "Kind" 62 0 "" 0,fd_ "Oper" 63 1 "" 1,fd_ "To" 25 2 "" 2,fd_ "N" 21 3 "" 4,fd_ "V" 3 4 "" 8,fd_ "L" 27 5 "" 16]),6,40,[zB_,zB_,zB_,(Value.int IntKind.i32 0),zI_,zS_],true⟩
def ty68:TI:=⟨(.struct #[fd_ "C" 3 0 "" 0,fd_ "V" 21 1 "" 8]),2,16,[zI_,(Value.int IntKind.i32 0)],true⟩
def ty69:TI:=⟨(.struct #[fd_ "C" 3 0 "" 0,fd_ "V" 21 1 "" 8]),2,16,[zI_,(Value.int IntKind.i32 0)],true⟩
def ty73:TI:=⟨(.int IntKind.u8),1,1,[zB_],false⟩
def ty74:TI:=⟨(.struct #[fd_ "Kind" 73 0 "" 0,fd_ "Event" 69 1 "" 8,fd_ "Next" 40 3 "" 24]),14,208,[zB_,zI_,(Value.int IntKind.i32 0),zS_,zB_,zI_,zI_,zB_,zS_,zS_,zS_,zS_,zS_,(Value.int IntKind.i32 0)],true⟩
def ty75:TI:=⟨(.struct #[fd_ "Kind" 73 0 "" 0,fd_ "Event" 69 1 "" 8,fd_ "Next" 40 3 "" 24]),14,208,[zB_,zI_,(Value.int IntKind.i32 0),zS_,zB_,zI_,zI_,zB_,zS_,zS_,zS_,zS_,zS_,(Value.int IntKind.i32 0)],true⟩
def ty77:TI:=⟨(.struct #[fd_ "t" 37 0 "transputer/explore" 0,fd_ "s" 40 1 "transputer/explore" 24]),12,208,[zS_,zS_,zB_,zI_,zI_,zB_,zS_,zS_,zS_,zS_,zS_,(Value.int IntKind.i32 0)],true⟩
def ty78:TI:=⟨(.struct #[fd_ "t" 37 0 "transputer/explore" 0,fd_ "s" 40 1 "transputer/explore" 24]),12,208,[zS_,zS_,zB_,zI_,zI_,zB_,zS_,zS_,zS_,zS_,zS_,(Value.int IntKind.i32 0)],true⟩
def ty81:TI:=⟨(.slice 78),1,24,[zS_],false⟩
def ty82:TI:=⟨(.struct #[fd_ "l" 81 0 "transputer/explore" 0,fd_ "same" 80 1 "transputer/explore" 24]),2,32,[zS_,Value.nilFunc],true⟩
def ty83:TI:=⟨(.struct #[fd_ "l" 81 0 "transputer/explore" 0,fd_ "same" 80 1 "transputer/explore" 24]),2,32,[zS_,Value.nilFunc],true⟩
def ty95:TI:=⟨(.pointer 97),1,8,[(Value.pointer none)],false⟩
def ty96:TI:=⟨(.struct #[fd_ "s" 40 0 "transputer/step" 0]),11,184,[zS_,zB_,zI_,zI_,zB_,zS_,zS_,zS_,zS_,zS_,(Value.int IntKind.i32 0)],true⟩
def ty97:TI:=⟨(.struct #[fd_ "s" 40 0 "transputer/step" 0]),11,184,[zS_,zB_,zI_,zI_,zB_,zS_,zS_,zS_,zS_,zS_,(Value.int IntKind.i32 0)],true⟩
def ty98:TI:=⟨(.slice 102),1,24,[zS_],false⟩
def ty101:TI:=⟨(.struct #[fd_ "kind" 5 0 "transputer/step" 0,fd_ "store" 38 1 "transputer/step" 8,fd_ "c" 3 2 "transputer/step" 32,fd_ "v" 3 3 "transputer/step" 40,fd_ "i" 3 4 "transputer/step" 48,fd_ "item" 25 5 "transputer/step" 56,fd_ "value" 21 6 "transputer/step" 60,fd_ "next" 31 7 "transputer/step" 64,fd_ "root" 100 15 "transputer/step" 192,fd_ "path" 32 16 "transputer/step" 200]),17,224,[zB_,zS_,zI_,zI_,zI_,zB_,(Value.int IntKind.i32 0),zB_,zI_,zI_,zB_,zS_,zS_,zS_,zS_,Value.nilFunc,zS_],true⟩
def ty102:TI:=⟨(.struct #[fd_ "kind" 5 0 "transputer/step" 0,fd_ "store" 38 1 "transputer/step" 8,fd_ "c" 3 2 "transputer/step" 32,fd_ "v" 3 3 "transputer/step" 40,fd_ "i" 3 4 "transputer/step" 48,fd_ "item" 25 5 "transputer/step" 56,fd_ "value" 21 6 "transputer/step" 60,fd_ "next" 31 7 "transputer/step" 64,fd_ "root" 100 15 "transputer/step" 192,fd_ "path" 32 16 "transputer/step" 200]),17,224,[zB_,zS_,zI_,zI_,zI_,zB_,(Value.int IntKind.i32 0),zB_,zI_,zI_,zB_,zS_,zS_,zS_,zS_,Value.nilFunc,zS_],true⟩
def ty106:TI:=⟨(.struct #[fd_ "Kind" 25 0 "" 0,fd_ "Dim" 3 1 "" 8]),2,16,[zB_,zI_],true⟩
def ty107:TI:=⟨(.struct #[fd_ "Kind" 25 0 "" 0,fd_ "Dim" 3 1 "" 8]),2,16,[zB_,zI_],true⟩
def ty108:TI:=⟨(.int IntKind.u8),1,1,[zB_],false⟩
def ty116:TI:=⟨(.func #[32] #[3] true),1,8,[Value.nilFunc],false⟩
def ty121:TI:=⟨(.pointer 83),1,8,[(Value.pointer none)],false⟩
def ty124:TI:=⟨(.int IntKind.u64),1,8,[(Value.int IntKind.u64 0)],false⟩
def ty125:TI:=⟨(.slice 4),1,24,[zS_],false⟩
def ty128:TI:=⟨(.struct #[fd_ "k" 34 0 "transputer/step" 0,fd_ "left" 3 11 "transputer/step" 200]),12,208,[zS_,zS_,zB_,zI_,zI_,zB_,zS_,zS_,zS_,zS_,zS_,zI_],true⟩
def ty129:TI:=⟨(.struct #[fd_ "k" 34 0 "transputer/step" 0,fd_ "left" 3 11 "transputer/step" 200]),12,208,[zS_,zS_,zB_,zI_,zI_,zB_,zS_,zS_,zS_,zS_,zS_,zI_],true⟩
def ty140:TI:=⟨(.pointer 142),1,8,[(Value.pointer none)],false⟩
def ty141:TI:=⟨(.struct #[{name:= "Kernel",type:=34,offset:=0,embedded:=true,tag:= "",pkgPath:= "",byteOffset:=0},fd_ "left" 3 11 "transputer/kernel" 200]),12,208,[zS_,zS_,zB_,zI_,zI_,zB_,zS_,zS_,zS_,zS_,zS_,zI_],true⟩
def ty142:TI:=⟨(.struct #[{name:= "Kernel",type:=34,offset:=0,embedded:=true,tag:= "",pkgPath:= "",byteOffset:=0},fd_ "left" 3 11 "transputer/kernel" 200]),12,208,[zS_,zS_,zB_,zI_,zI_,zB_,zS_,zS_,zS_,zS_,zS_,zI_],true⟩
def ty151:TI:=⟨(.int IntKind.u8),1,1,[zB_],false⟩
def ty152:TI:=⟨(.struct #[fd_ "Kind" 151 0 "" 0,fd_ "Cond" 65 1 "" 8,fd_ "C" 3 7 "" 48,fd_ "Item" 25 8 "" 56,fd_ "To" 61 9 "" 64,fd_ "Time" 65 11 "" 96,fd_ "Body" 29 17 "" 136]),18,160,[zB_,zB_,zB_,zB_,(Value.int IntKind.i32 0),zI_,zS_,zI_,zB_,zI_,zS_,zB_,zB_,zB_,(Value.int IntKind.i32 0),zI_,zS_,zS_],true⟩
def ty153:TI:=⟨(.struct #[fd_ "Kind" 151 0 "" 0,fd_ "Cond" 65 1 "" 8,fd_ "C" 3 7 "" 48,fd_ "Item" 25 8 "" 56,fd_ "To" 61 9 "" 64,fd_ "Time" 65 11 "" 96,fd_ "Body" 29 17 "" 136]),18,160,[zB_,zB_,zB_,zB_,(Value.int IntKind.i32 0),zI_,zS_,zI_,zB_,zI_,zS_,zB_,zB_,zB_,(Value.int IntKind.i32 0),zI_,zS_,zS_],true⟩
def ty155:TI:=⟨(.func #[194] #[29] true),1,8,[Value.nilFunc],false⟩
def ty172:TI:=⟨(.int IntKind.i64),1,8,[zI_],false⟩
def ty179:TI:=⟨(.int IntKind.u32),1,4,[(Value.int IntKind.u32 0)],false⟩
def ty181:TI:=⟨(.int IntKind.u64),1,8,[(Value.int IntKind.u64 0)],false⟩
def ty183:TI:=⟨(.pointer 129),1,8,[(Value.pointer none)],false⟩
def ty194:TI:=⟨(.slice 29),1,24,[zS_],false⟩
def ty196:TI:=⟨(.int IntKind.u64),1,8,[(Value.int IntKind.u64 0)],false⟩
def ty200:TI:=⟨(.pointer 3),1,8,[(Value.pointer none)],false⟩
def ty205:TI:=⟨(.map 24 93),1,8,[(Value.map none)],false⟩
def ty207:TI:=⟨(.pointer 196),1,8,[(Value.pointer none)],false⟩
def ty214:TI:=⟨(.array 2 3),2,16,[zI_,zI_],true⟩
def ty230:TI:=⟨(.int IntKind.u64),1,8,[(Value.int IntKind.u64 0)],false⟩
def ty237:TI:=⟨(.slice 230),1,24,[zS_],false⟩
def ty238:TI:=⟨(.func #[245] #[230] true),1,8,[Value.nilFunc],false⟩
def ty245:TI:=⟨(.slice 25),1,24,[zS_],false⟩
def ty258:TI:=⟨(.pointer 5),1,8,[(Value.pointer none)],false⟩
def tt:TT:=(.node 131 (tf_ #[184] #[]) (.node 71 (tf_ #[34,35] #[40,41]) (.node 41 ty41 (.node 26 ty26 (.node 12 ty12 (.node 3 ty3 (.node 1 (tf_ #[] #[]) (.node 0 ⟨(.tuple #[]),1,0,[(Value.tuple #[])],false⟩ .leaf .leaf) (.node 2 ty2 .leaf .leaf)) (.node 5 ty5 (.node 4 ty4 .leaf .leaf) (.node 9 ty9 .leaf .leaf))) (.node 22 ty22 (.node 20 ty20 (.node 13 ty13 .leaf .leaf) (.node 21 ty21 .leaf .leaf)) (.node 24 ty24 (.node 23 ty23 .leaf .leaf) (.node 25 ty25 .leaf .leaf)))) (.node 34 ty34 (.node 30 ty30 (.node 28 ty28 (.node 27 ty27 .leaf .leaf) (.node 29 ty29 .leaf .leaf)) (.node 32 ty32 (.node 31 ty31 .leaf .leaf) (.node 33 ty33 .leaf .leaf))) (.node 38 ty38 (.node 36 ty36 (.node 35 ty35 .leaf .leaf) (.node 37 ty37 .leaf .leaf)) (.node 40 ty40 (.node 39 ty39 .leaf .leaf) .leaf)))) (.node 56 (tf_ #[34,35,5] #[4]) (.node 49 ⟨(.tuple #[37,4,41]),1,0,[(Value.tuple #[zS_,(Value.bool false),zI_])],false⟩ (.node 45 ty45 (.node 43 (tf_ #[34,35,36] #[37,40,41]) (.node 42 ⟨(.tuple #[37,40,41]),1,0,[(Value.tuple #[zS_,(Value.agg #[zS_,zB_,zI_,zI_,zB_,zS_,zS_,zS_,zS_,zS_,(Value.int IntKind.i32 0)]),zI_])],false⟩ .leaf .leaf) (.node 44 (tf_ #[] #[4]) .leaf .leaf)) (.node 47 (tf_ #[34,35,3,3] #[45,41]) (.node 46 ⟨(.tuple #[45,41]),1,0,[(Value.tuple #[zS_,zI_])],false⟩ .leaf .leaf) (.node 48 (tf_ #[37,37] #[4]) .leaf .leaf))) (.node 53 (tf_ #[34,40] #[52]) (.node 51 (tf_ #[40] #[4]) (.node 50 (tf_ #[34,35,3] #[37,4,41]) .leaf .leaf) (.node 52 ty52 .leaf .leaf)) (.node 55 (tf_ #[45,45] #[4]) (.node 54 (tf_ #[34,35,36] #[4]) .leaf .leaf) .leaf))) (.node 64 ty64 (.node 60 ty60 (.node 58 ⟨(.tuple #[3,41]),1,0,[(Value.tuple #[zI_,zI_])],false⟩ (.node 57 (tf_ #[3,3] #[34]) .leaf .leaf) (.node 59 (tf_ #[34,35,3] #[3,41]) .leaf .leaf)) (.node 62 ty62 (.node 61 ty61 .leaf .leaf) (.node 63 ty63 .leaf .leaf))) (.node 68 ty68 (.node 66 (tf_ #[3,21] #[31]) (.node 65 ty65 .leaf .leaf) (.node 67 (tf_ #[3] #[31]) .leaf .leaf)) (.node 70 ⟨(.tuple #[40,41]),1,0,[(Value.tuple #[(Value.agg #[zS_,zB_,zI_,zI_,zB_,zS_,zS_,zS_,zS_,zS_,(Value.int IntKind.i32 0)]),zI_])],false⟩ (.node 69 ty69 .leaf .leaf) .leaf))))) (.node 101 ty101 (.node 86 (tf_ #[34,35] #[78]) (.node 79 (tf_ #[37,37] #[3]) (.node 75 ty75 (.node 73 ty73 (.node 72 (tf_ #[40,40] #[4]) .leaf .leaf) (.node 74 ty74 .leaf .leaf)) (.node 77 ty77 (.node 76 (tf_ #[34,3,3] #[41]) .leaf .leaf) (.node 78 ty78 .leaf .leaf))) (.node 83 ty83 (.node 81 ty81 (.node 80 (tf_ #[78,78] #[4]) .leaf .leaf) (.node 82 ty82 .leaf .leaf)) (.node 85 (tf_ #[78] #[3,4]) (.node 84 ⟨(.tuple #[3,4]),1,0,[(Value.tuple #[zI_,(Value.bool false)])],false⟩ .leaf .leaf) .leaf))) (.node 94 (tf_ #[34,40] #[4]) (.node 90 (tf_ #[45,48] #[45]) (.node 88 (tf_ #[37] #[37]) (.node 87 (tf_ #[37,75] #[37]) .leaf .leaf) (.node 89 (tf_ #[45,79] #[]) .leaf .leaf)) (.node 92 (tf_ #[34,35,3] #[81,41]) (.node 91 ⟨(.tuple #[81,41]),1,0,[(Value.tuple #[zS_,zI_])],false⟩ .leaf .leaf) (.node 93 (tf_ #[31] #[4]) .leaf .leaf))) (.node 98 ty98 (.node 96 ty96 (.node 95 ty95 .leaf .leaf) (.node 97 ty97 .leaf .leaf)) (.node 100 (tf_ #[31] #[31]) (.node 99 (tf_ #[] #[98]) .leaf .leaf) .leaf)))) (.node 116 ty116 (.node 109 (tf_ #[34] #[4]) (.node 105 (tf_ #[25,21] #[4]) (.node 103 (tf_ #[73,69,38,31,35] #[75]) (.node 102 ty102 .leaf .leaf) (.node 104 (tf_ #[38,3,3,21] #[38]) .leaf .leaf)) (.node 107 ty107 (.node 106 ty106 .leaf .leaf) (.node 108 ty108 .leaf .leaf))) (.node 113 (tf_ #[38,38] #[4]) (.node 111 (tf_ #[35] #[35]) (.node 110 (tf_ #[34] #[38]) .leaf .leaf) (.node 112 (tf_ #[35,35] #[4]) .leaf .leaf)) (.node 115 (tf_ #[37,37,119] #[3]) (.node 114 (tf_ #[29,29] #[4]) .leaf .leaf) .leaf))) (.node 124 ty124 (.node 120 (tf_ #[31,31] #[4]) (.node 118 (tf_ #[21,21] #[3]) (.node 117 (tf_ #[3,3] #[3]) .leaf .leaf) (.node 119 (tf_ #[69,69] #[3]) .leaf .leaf)) (.node 122 (tf_ #[45,3,3,3,79] #[]) (.node 121 ty121 .leaf .leaf) (.node 123 (tf_ #[124] #[3]) .leaf .leaf))) (.node 128 ty128 (.node 126 (tf_ #[] #[31]) (.node 125 ty125 .leaf .leaf) (.node 127 (tf_ #[34,38] #[4]) .leaf .leaf)) (.node 130 (tf_ #[31,3,4,4] #[4]) (.node 129 ty129 .leaf .leaf) .leaf)))))) (.node 191 (tf_ #[24] #[93]) (.node 161 (tf_ #[21,21] #[4]) (.node 146 (tf_ #[61] #[61]) (.node 139 (tf_ #[25] #[4]) (.node 135 (tf_ #[31,32,31] #[31]) (.node 133 (tf_ #[31,32] #[132]) (.node 132 (tf_ #[184] #[]) .leaf .leaf) (.node 134 (tf_ #[31] #[98]) .leaf .leaf)) (.node 137 (tf_ #[38,3,3] #[21,4]) (.node 136 ⟨(.tuple #[21,4]),1,0,[(Value.tuple #[(Value.int IntKind.i32 0),(Value.bool false)])],false⟩ .leaf .leaf) (.node 138 (tf_ #[32,3] #[4]) .leaf .leaf))) (.node 143 (tf_ #[31,3,4] #[4]) (.node 141 ty141 (.node 140 ty140 .leaf .leaf) (.node 142 ty142 .leaf .leaf)) (.node 145 (tf_ #[26,146] #[26]) (.node 144 (tf_ #[22] #[4]) .leaf .leaf) .leaf))) (.node 154 (tf_ #[153] #[153]) (.node 150 (tf_ #[28,154] #[28]) (.node 148 (tf_ #[65] #[65]) (.node 147 (tf_ #[27,148] #[27]) .leaf .leaf) (.node 149 (tf_ #[29,100] #[29]) .leaf .leaf)) (.node 152 ty152 (.node 151 ty151 .leaf .leaf) (.node 153 ty153 .leaf .leaf))) (.node 158 (tf_ #[28,28] #[4]) (.node 156 (tf_ #[26,26] #[4]) (.node 155 ty155 .leaf .leaf) (.node 157 (tf_ #[27,27] #[4]) .leaf .leaf)) (.node 160 (tf_ #[21] #[4]) (.node 159 (tf_ #[3] #[4]) .leaf .leaf) .leaf)))) (.node 176 (tf_ #[45,3,3,3,79] #[3]) (.node 169 (tf_ #[153,153] #[4]) (.node 165 (tf_ #[61,61] #[4]) (.node 163 (tf_ #[35,35,161] #[4]) (.node 162 (tf_ #[38,38,112] #[4]) .leaf .leaf) (.node 164 (tf_ #[26,26,165] #[4]) .leaf .leaf)) (.node 167 (tf_ #[65,65] #[4]) (.node 166 (tf_ #[27,27,167] #[4]) .leaf .leaf) (.node 168 (tf_ #[28,28,169] #[4]) .leaf .leaf))) (.node 173 ⟨(.tuple #[3,172]),1,0,[(Value.tuple #[zI_,zI_])],false⟩ (.node 171 (tf_ #[45,3,3,79] #[]) (.node 170 (tf_ #[29,29,120] #[4]) .leaf .leaf) (.node 172 ty172 .leaf .leaf)) (.node 175 (tf_ #[45,3,3,79] #[4]) (.node 174 (tf_ #[45,3,3,79] #[3,172]) .leaf .leaf) .leaf))) (.node 184 (tf_ #[31,32] #[4]) (.node 180 (tf_ #[181] #[3]) (.node 178 (tf_ #[179] #[3]) (.node 177 (tf_ #[45,3,3,3,79] #[3,4]) .leaf .leaf) (.node 179 ty179 .leaf .leaf)) (.node 182 (tf_ #[35,160] #[4]) (.node 181 ty181 .leaf .leaf) (.node 183 ty183 .leaf .leaf))) (.node 188 (tf_ #[3,25,61,31] #[98]) (.node 186 ⟨(.tuple #[3,3,4]),1,0,[(Value.tuple #[zI_,zI_,(Value.bool false)])],false⟩ (.node 185 (tf_ #[38,31] #[98]) .leaf .leaf) (.node 187 (tf_ #[38,61] #[3,3,4]) .leaf .leaf)) (.node 190 (tf_ #[32,3] #[3]) (.node 189 (tf_ #[29] #[29]) .leaf .leaf) .leaf))))) (.node 221 (tf_ #[153] #[4]) (.node 206 (tf_ #[22,193] #[3]) (.node 199 (tf_ #[45,3,200,79] #[3]) (.node 195 (tf_ #[29,3] #[29]) (.node 193 (tf_ #[107] #[4]) (.node 192 (tf_ #[22,193] #[4]) .leaf .leaf) (.node 194 ty194 .leaf .leaf)) (.node 197 (tf_ #[3] #[124]) (.node 196 ty196 .leaf .leaf) (.node 198 (tf_ #[] #[181]) .leaf .leaf))) (.node 203 (tf_ #[28] #[28]) (.node 201 (tf_ #[45,3,3,3,200,79] #[3]) (.node 200 ty200 .leaf .leaf) (.node 202 (tf_ #[35,160] #[3]) .leaf .leaf)) (.node 205 ty205 (.node 204 (tf_ #[38,65] #[21,4]) .leaf .leaf) .leaf))) (.node 214 ty214 (.node 210 ⟨(.tuple #[124,124]),1,0,[(Value.tuple #[(Value.int IntKind.u64 0),(Value.int IntKind.u64 0)])],false⟩ (.node 208 ⟨(.tuple #[3,3]),1,0,[(Value.tuple #[zI_,zI_])],false⟩ (.node 207 ty207 .leaf .leaf) (.node 209 (tf_ #[45,3,3,200,79] #[3,3]) .leaf .leaf)) (.node 212 (tf_ #[65] #[4]) (.node 211 (tf_ #[124,124] #[124,124]) .leaf .leaf) (.node 213 (tf_ #[31,4,4,214,214,214,214] #[4]) .leaf .leaf))) (.node 218 (tf_ #[3,25,3] #[4]) (.node 216 (tf_ #[65,25] #[4]) (.node 215 (tf_ #[61,25] #[4]) .leaf .leaf) (.node 217 (tf_ #[3,25,61] #[4]) .leaf .leaf)) (.node 220 (tf_ #[153,4] #[4]) (.node 219 (tf_ #[28,221] #[4]) .leaf .leaf) .leaf)))) (.node 236 (tf_ #[27,212] #[4]) (.node 229 (tf_ #[3,214] #[4]) (.node 225 (tf_ #[181,181] #[181,181]) (.node 223 (tf_ #[179,179] #[179,179]) (.node 222 ⟨(.tuple #[179,179]),1,0,[(Value.tuple #[(Value.int IntKind.u32 0),(Value.int IntKind.u32 0)])],false⟩ .leaf .leaf) (.node 224 ⟨(.tuple #[181,181]),1,0,[(Value.tuple #[(Value.int IntKind.u64 0),(Value.int IntKind.u64 0)])],false⟩ .leaf .leaf)) (.node 227 (tf_ #[21,4] #[21,4]) (.node 226 (tf_ #[65,3] #[4]) .leaf .leaf) (.node 228 (tf_ #[63,21,21] #[21,4]) .leaf .leaf))) (.node 233 (tf_ #[153,4,4] #[4]) (.node 231 (tf_ #[65] #[230]) (.node 230 ty230 .leaf .leaf) (.node 232 (tf_ #[28,221] #[3]) .leaf .leaf)) (.node 235 (tf_ #[63] #[234]) (.node 234 (tf_ #[21,21] #[21]) .leaf .leaf) .leaf))) (.node 244 (tf_ #[27,212] #[3]) (.node 240 (tf_ #[21] #[230]) (.node 238 ty238 (.node 237 ty237 .leaf .leaf) (.node 239 (tf_ #[4,25] #[230]) .leaf .leaf)) (.node 242 (tf_ #[4] #[21]) (.node 241 (tf_ #[63] #[161]) .leaf .leaf) (.node 243 (tf_ #[21,21] #[21,4]) .leaf .leaf))) (.node 248 (tf_ #[] #[9]) (.node 246 (tf_ #[181] #[21,4]) (.node 245 ty245 .leaf .leaf) (.node 247 (tf_ #[2] #[21,4]) .leaf .leaf)) (.node 258 ty258 (.node 254 (tf_ #[] #[3]) .leaf .leaf) .leaf)))))))
theorem tt_ok:tt.Ok Tryz.prog:=by repeat (first|exact trivial|exact tk_|refine ⟨?_,?_,?_⟩)
abbrev gs0:Ua:=[]
abbrev AI32(n:Int):AV:= .v (.int .i32 n)
abbrev AI(n:Int):AV:= .v (.int .i64 n)
abbrev AU8(n:Int):AV:= .v (.int .u8 n)
abbrev AB(b:Bool):AV:= .v (.bool b)
abbrev optA(x:Option Int):AV:= .tp [AI32 (x.getD 0),AB x.isSome]
theorem Sb.eq{x y:AV}(h:x=y):Sb x y:=by subst h;exact .refl
theorem ai32_eq{a b:Int}(h:a=b):AI32 a=AI32 b:=by rw [h]
theorem ai_eq{a b:Int}(h:a=b):AI a=AI b:=by rw [h]
theorem ab_eq{a b:Bool}(h:a=b):AB a=AB b:=by rw [h]
theorem ab_iff{a b:Bool}(h:a=true↔b=true):AB a=AB b:=by rw [Bool.eq_iff_iff.2 h]
theorem map_at{α β:Type}{f:α→β}{l:List α}{i:Nat}{x:α}(h:l[i]? =some x):(l.map f)[i]? =some (f x):=by rw [List.getElem?_map,h];rfl
theorem at_ex{α:Type}{l:List α}{i:Int}(h0:0≤i)(h1:i<l.length): ∃x,l[i.toNat]? =some x:=⟨l[i.toNat]'(by omega),List.getElem?_eq_getElem _⟩
theorem at_exN{α:Type}{l:List α}{i:Nat}(h1:i<l.length): ∃x,l[i]? =some x:=⟨l[i]'h1,List.getElem?_eq_getElem _⟩
theorem at_none{α:Type}{l:List α}{i:Int}(h1:(l.length:Int)≤i):l[i.toNat]? =none:=List.getElem?_eq_none (by omega)
def w32(n:Int):Int:=IntKind.i32.wrap n
theorem w32_eq(n:Int):IntKind.i32.wrap n=(n+2147483648) % 4294967296-2147483648:=IntKind.wrap_i32 n
theorem wu32_eq(n:Int):IntKind.u32.wrap n=n % 4294967296:=by
 simp [IntKind.wrap,IntKind.signed,IntKind.bits]
theorem wu64_eq(n:Int):IntKind.u64.wrap n=n % 18446744073709551616:=by
 simp [IntKind.wrap,IntKind.signed,IntKind.bits]
theorem w32_id{n:Int}(h:i32 n):IntKind.i32.wrap n=n:=wr32 n h
theorem w64_id{n:Int}(h:i64 n):IntKind.i64.wrap n=n:=wr64 n h
theorem w64_32{n:Int}(h:i32 n):IntKind.i64.wrap n=n:=wr64 n (by unfold i32 at h;omega)
theorem w32_in(n:Int):i32 (IntKind.i32.wrap n):=by unfold i32;rw [w32_eq];omega
theorem inc_eq(i:Nat)(h:i<4611686018427387904):AV.v (.int .i64 (IntKind.i64.wrap ((i:Int)+1)))=AI ((i+1:Nat):Int):=by
 rw [wr64 _ (by omega)];rfl
end Go.Proofs.YtpcloejpklkieaaGreat
namespace Go.Proofs.YtpcloejpklkieaaGreat
structure Ord{α:Type}(lt:α→α→Bool):Prop where
 irrefl: ∀x,lt x x=false
 trans: ∀x y z,lt x y=true→lt y z=true→lt x z=true
 tri: ∀x y,lt x y=false→lt y x=false→x=y
abbrev AscL{α:Type}(lt:α→α→Bool)(l:List α):Prop:=l.Pairwise fun x y=>lt x y=true
section
variable{α:Type}{lt:α→α→Bool}
theorem asc_eq(o:Ord lt): ∀{l m:List α},AscL lt l→AscL lt m→(∀z,z∈l↔z∈m)→l=m
 | [],[],_,_,_=>rfl
 | [],y::m,_,_,h=>by have:=(h y).2 (List.mem_cons_self ..);cases this
 |x::l,[],_,_,h=>by have:=(h x).1 (List.mem_cons_self ..);cases this
 |x::l,y::m,a,b,h=>by
  rw [AscL,List.pairwise_cons] at a b
  have hxy:x=y:=by
   rcases List.mem_cons.1 ((h x).1 (List.mem_cons_self ..)) with e|hx
   ·exact e
   ·rcases List.mem_cons.1 ((h y).2 (List.mem_cons_self ..)) with e|hy
    ·exact e.symm
    ·have h1:=b.1 x hx;have h2:=a.1 y hy
     have:=o.trans _ _ _ h1 h2
     rw [o.irrefl] at this;cases this
  subst hxy
  congr 1
  refine asc_eq o a.2 b.2 fun z=>⟨fun hz=>?_,fun hz=>?_⟩
  ·rcases List.mem_cons.1 ((h z).1 (List.mem_cons_of_mem _ hz)) with e|hz'
   ·subst e;have:=a.1 z hz;rw [o.irrefl] at this;cases this
   ·exact hz'
  ·rcases List.mem_cons.1 ((h z).2 (List.mem_cons_of_mem _ hz)) with e|hz'
   ·subst e;have:=b.1 z hz;rw [o.irrefl] at this;cases this
   ·exact hz'
def insS [DecidableEq α](lt:α→α→Bool):List α→α→List α
 | [],x=>[x]
 |y::r,x=>if lt y x=true then y::insS lt r x else if y=x then y::r else x::y::r
theorem mem_insS [DecidableEq α]{l:List α}{x z:α}:z∈insS lt l x↔z=x∨z∈l:=by
 induction l with
 |nil=>simp [insS]
 |cons y r ih=>
  simp only [insS]
  split
  ·simp [ih];constructor
   ·rintro (h|h|h)<;>simp [h]
   ·rintro (h|h|h)<;>simp [h]
  ·split
   ·rename_i _ e;subst e;simp
   ·simp
theorem asc_insS [DecidableEq α](o:Ord lt){l:List α}{x:α}(a:AscL lt l):AscL lt (insS lt l x):=by
 induction l with
 |nil=>simp [insS,AscL]
 |cons y r ih=>
  rw [AscL,List.pairwise_cons] at a
  simp only [insS]
  split
  ·rename_i h
   rw [AscL,List.pairwise_cons]
   refine ⟨fun z hz=>?_,ih a.2⟩
   rcases mem_insS.1 hz with rfl|hz
   ·exact h
   ·exact a.1 z hz
  ·rename_i h1
   split
   ·exact List.pairwise_cons.2 a
   ·rename_i h2
    have hxy:lt x y=true:=by
     cases hb:lt x y with
     |true=>rfl
     |false=>exact (h2 (o.tri _ _ (by simpa using h1) hb)).elim
    rw [AscL,List.pairwise_cons]
    refine ⟨fun z hz=>?_,List.pairwise_cons.2 a⟩
    rcases List.mem_cons.1 hz with rfl|hz
    ·exact hxy
    ·exact o.trans _ _ _ hxy (a.1 z hz)
def insAll [DecidableEq α](lt:α→α→Bool)(l m:List α):List α:=m.foldl (insS lt) l
theorem mem_insAll [DecidableEq α]{z:α}{m:List α}: ∀{l:List α},z∈insAll lt l m↔z∈l∨z∈m:=by
 induction m with
 |nil=>intro l;simp [insAll]
 |cons x m ih=>
  intro l
  have:=ih (l:=insS lt l x)
  simp only [insAll,List.foldl_cons] at this⊢
  rw [this,mem_insS]
  simp only [List.mem_cons]
  constructor
  ·rintro ((h|h)|h)<;>simp [h]
  ·rintro (h|h|h)<;>simp [h]
theorem asc_insAll [DecidableEq α](o:Ord lt): ∀{m l:List α},AscL lt l→AscL lt (insAll lt l m)
 | [],l,a=>a
 |x::m,l,a=>asc_insAll o (m:=m) (l:=insS lt l x) (asc_insS o a)
def compD [DecidableEq α]:List α→List α
 | []=>[]
 | [x]=>[x]
 |x::y::r=>if x=y then compD (y::r) else x::compD (y::r)
theorem mem_compD [DecidableEq α]{z:α}: ∀{l:List α},z∈compD l↔z∈l
 | []=>by simp [compD]
 | [x]=>by simp [compD]
 |x::y::r=>by
  have ih:=mem_compD (z:=z) (l:=y::r)
  simp only [compD]
  split
  ·rename_i e;subst e;rw [ih];simp
  ·rw [List.mem_cons,ih];exact List.mem_cons.symm
theorem asc_compD [DecidableEq α](o:Ord lt): ∀{l:List α},l.Pairwise (fun x y=>lt y x=false)→AscL lt (compD l)
 | [],_=>by simp [compD,AscL]
 | [x],_=>by simp [compD,AscL]
 |x::y::r,a=>by
  rw [List.pairwise_cons] at a
  have ih:=asc_compD o (l:=y::r) a.2
  simp only [compD]
  split
  ·exact ih
  ·rename_i hne
   rw [AscL,List.pairwise_cons]
   refine ⟨fun z hz=>?_,ih⟩
   have hz:=mem_compD.1 hz
   have hle:=a.1 z hz
   cases hb:lt x z with
   |true=>rfl
   |false=>
    have e:=o.tri _ _ hb hle
    subst e
    have h1:=(List.pairwise_cons.1 a.2).1
    rcases List.mem_cons.1 hz with e|hz
    ·exact (hne e).elim
    ·exact (hne (o.tri _ _ (by
      cases hb2:lt x y with
      |false=>rfl
      |true=>have:=h1 x hz;rw [hb2] at this;cases this) (a.1 y (List.mem_cons_self ..)))).elim
theorem comp_ins [DecidableEq α](o:Ord lt){l m:List α}(p:l.Perm m)(s:l.Pairwise fun x y=>lt y x=false):compD l=insAll lt [] m:=
 asc_eq o (asc_compD o s) (asc_insAll o (List.Pairwise.nil)) fun z=>by rw [mem_compD,mem_insAll,p.mem_iff];simp
end
abbrev EL:=Int×Int
def ltE(a b:EL):Bool:=decide (a.1<b.1)||decide (a.1=b.1)&&decide (a.2<b.2)
theorem ord_el:Ord ltE where
 irrefl x:=by simp [ltE]
 trans x y z h1 h2:=by simp [ltE] at*;omega
 tri x y h1 h2:=by
  obtain ⟨a,b⟩:=x;obtain ⟨c,d⟩:=y
  simp [ltE] at*
  omega
abbrev TR:=List EL
def ltL:TR→TR→Bool
 | [],[]=>false
 | [],_::_=>true
 |_::_,[]=>false
 |x::a,y::b=>if x=y then ltL a b else ltE x y
theorem ltL_irrefl: ∀a:TR,ltL a a=false
 | []=>rfl
 |x::a=>by rw [ltL,if_pos rfl,ltL_irrefl a]
theorem ltL_trans: ∀a b c:TR,ltL a b=true→ltL b c=true→ltL a c=true
 | [],[],_,h,_=>by rw [ltL] at h;cases h
 | [],_::_,[],_,h=>by rw [ltL] at h;cases h
 | [],_::_,_::_,_,_=>by rw [ltL]
 |_::_,[],_,h,_=>by rw [ltL] at h;cases h
 |_::_,_::_,[],_,h=>by rw [ltL] at h;cases h
 |x::a,y::b,z::c,h1,h2=>by
  rw [ltL] at h1 h2⊢
  by_cases e1:x=y
  ·subst e1
   rw [if_pos rfl] at h1
   by_cases e2:x=z
   ·subst e2;rw [if_pos rfl] at h2⊢;exact ltL_trans a b c h1 h2
   ·rw [if_neg e2] at h2⊢;exact h2
  ·rw [if_neg e1] at h1
   by_cases e2:y=z
   ·subst e2;rw [if_neg e1];exact h1
   ·rw [if_neg e2] at h2
    have h3:=ord_el.trans _ _ _ h1 h2
    rw [if_neg (fun e=>by subst e;rw [ord_el.irrefl] at h3;cases h3)]
    exact h3
theorem ltL_tri: ∀a b:TR,ltL a b=false→ltL b a=false→a=b
 | [],[],_,_=>rfl
 | [],_::_,h,_=>by rw [ltL] at h;cases h
 |_::_,[],_,h=>by rw [ltL] at h;cases h
 |x::a,y::b,h1,h2=>by
  rw [ltL] at h1 h2
  by_cases e:x=y
  ·subst e
   rw [if_pos rfl] at h1 h2
   rw [ltL_tri a b h1 h2]
  ·rw [if_neg e] at h1
   rw [if_neg (Ne.symm e)] at h2
   exact absurd (ord_el.tri _ _ h1 h2) e
theorem ord_L:Ord ltL:=⟨ltL_irrefl,ltL_trans,ltL_tri⟩
def ltB(a b:TR):Bool:=decide (a.length<b.length)||(decide (a.length=b.length)&&ltL a b)
theorem ltB_iff{a b:TR}:ltB a b=true↔a.length<b.length∨(a.length=b.length∧ltL a b=true):=by simp [ltB]
theorem ord_B:Ord ltB where
 irrefl a:=by simp [ltB,ltL_irrefl]
 trans a b c h1 h2:=by
  rw [ltB_iff] at*
  rcases h1 with h1|⟨h1,h1'⟩<;>rcases h2 with h2|⟨h2,h2'⟩
  ·exact .inl (by omega)
  ·exact .inl (by omega)
  ·exact .inl (by omega)
  ·exact .inr ⟨by omega,ltL_trans _ _ _ h1' h2'⟩
 tri a b h1 h2:=by
  have g1: ¬(a.length<b.length∨(a.length=b.length∧ltL a b=true)):=fun h=>by rw [ltB_iff.2 h] at h1;cases h1
  have g2: ¬(b.length<a.length∨(b.length=a.length∧ltL b a=true)):=fun h=>by rw [ltB_iff.2 h] at h2;cases h2
  have hl:a.length=b.length:=by omega
  refine ltL_tri a b ?_ ?_
  ·cases h:ltL a b with
   |false=>rfl
   |true=>exact absurd (.inr ⟨hl,h⟩) g1
  ·cases h:ltL b a with
   |false=>rfl
   |true=>exact absurd (.inr ⟨hl.symm,h⟩) g2
def leB(a b:TR):Prop:=ltB b a=false
theorem leB_refl(a:TR):leB a a:=ord_B.irrefl a
theorem leB_trans{a b c:TR}(h1:leB a b)(h2:leB b c):leB a c:=by
 unfold leB at*
 cases h:ltB c a with
 |false=>rfl
 |true=>
  by_cases e:a=b
  ·subst e;rw [h] at h2;cases h2
  ·have h3:ltB a b=true:=by
    cases h4:ltB a b with
    |true=>rfl
    |false=>exact absurd (ord_B.tri _ _ h4 h1) e
   have:=ord_B.trans _ _ _ h h3
   rw [this] at h2;cases h2
theorem leB_of_lt{a b:TR}(h:ltB a b=true):leB a b:=by
 unfold leB
 cases h2:ltB b a with
 |false=>rfl
 |true=>have:=ord_B.trans _ _ _ h h2;rw [ord_B.irrefl] at this;cases this
theorem leB_len{a b:TR}(h:leB a b):a.length≤b.length:=by
 unfold leB at h
 rcases Nat.lt_or_ge b.length a.length with h1|h1
 ·rw [ltB_iff.2 (.inl h1)] at h;cases h
 ·exact h1
theorem ltL_app(e:EL): ∀a b:TR,a.length=b.length→ltL (a++[e]) (b++[e])=ltL a b
 | [],[],_=>by simp [ltL]
 | [],_::_,h=>by simp at h
 |_::_,[],h=>by simp at h
 |x::a,y::b,h=>by
  rw [List.cons_append,List.cons_append,ltL,ltL]
  split
  ·exact ltL_app e a b (by simpa using h)
  ·rfl
theorem leB_app{a b:TR}(h:leB a b)(e:EL):leB (a++[e]) (b++[e]):=by
 unfold leB at*
 cases h2:ltB (b++[e]) (a++[e]) with
 |false=>rfl
 |true=>
  rw [ltB_iff] at h2
  simp only [List.length_append,List.length_cons,List.length_nil] at h2
  have:ltB b a=true:=by
   rw [ltB_iff]
   rcases h2 with h2|⟨h2,h3⟩
   ·exact .inl (by omega)
   ·exact .inr ⟨by omega,by rwa [ltL_app e b a (by omega)] at h3⟩
  rw [this] at h;cases h
theorem leB_snoc(a:TR)(e:EL):leB a (a++[e]):=by
 refine leB_of_lt (ltB_iff.2 (.inl ?_))
 rw [List.length_append];exact Nat.lt_succ_self _
section
variable{S:Type}
abbrev Mv(S:Type):=Option EL×S
def withM(t:TR)(m:Mv S):TR:=match m.1 with
 |none=>t
 |some e=>t++[e]
theorem with_ge(t:TR)(m:Mv S):leB t (withM t m):=by
 unfold withM
 cases m.1 with
 |none=>exact leB_refl t
 |some e=>exact leB_snoc t e
theorem with_mono{a b:TR}(h:leB a b)(m:Mv S):leB (withM a m) (withM b m):=by
 unfold withM
 cases m.1 with
 |none=>exact h
 |some e=>exact leB_app h e
inductive Wlk(st:S→List (Mv S))(s0:S):TR→S→Prop
 |nil:Wlk st s0 [] s0
 |step {t:TR} {s:S} {m:Mv S}:Wlk st s0 t s→m∈st s→Wlk st s0 (withM t m) m.2
structure ND(S:Type) where
 t:TR
 s:S
 d:Bool
def relax [DecidableEq S](y:TR×S):List (ND S)→List (ND S)
 | []=>[⟨y.1,y.2,false⟩]
 |n::r=>if n.s=y.2 then (if ltB y.1 n.t=true then ⟨y.1,n.s,n.d⟩ else n)::r else n::relax y r
def relaxAll [DecidableEq S](most:Nat):List (ND S)→List (TR×S)→Option (List (ND S))
 |l,[]=>some l
 |l,y::r=>if most<(relax y l).length then none else relaxAll most (relax y l) r
theorem relax_len [DecidableEq S](y:TR×S): ∀l:List (ND S),l.length≤(relax y l).length∧(relax y l).length≤l.length+1
 | []=>⟨Nat.zero_le _,by simp [relax]⟩
 |n::r=>by
  rw [relax]
  split
  ·simp
  ·have:=relax_len y r;simp only [List.length_cons];omega
theorem relax_states [DecidableEq S](y:TR×S): ∀l:List (ND S),(relax y l).map (·.s)=if y.2∈l.map (·.s) then l.map (·.s) else l.map (·.s)++[y.2]
 | []=>by simp [relax]
 |n::r=>by
  rw [relax]
  by_cases h:n.s=y.2
  ·rw [if_pos h]
   split<;>simp [h]
  ·rw [if_neg h,List.map_cons,relax_states y r]
   have h': ¬y.2=n.s:=fun e=>h e.symm
   split<;>rename_i h2
   ·rw [if_pos (by simp only [List.map_cons,List.mem_cons];exact .inr h2)];rfl
   ·rw [if_neg (by simp only [List.map_cons,List.mem_cons];rintro (e|e);exact h' e;exact h2 e)];rfl
theorem relax_mem [DecidableEq S]{y:TR×S}{n:ND S}: ∀{l:List (ND S)},n∈relax y l→n∈l∨n=⟨y.1,y.2,false⟩∨(∃o,o∈l∧o.s=y.2∧ltB y.1 o.t=true∧n=⟨y.1,o.s,o.d⟩)
 | [],h=>by
   rw [relax] at h
   exact .inr (.inl (List.mem_singleton.1 h))
 |o::r,h=>by
  rw [relax] at h
  split at h
  ·rename_i e
   rcases List.mem_cons.1 h with h|h
   ·split at h
    ·rename_i hl
     exact .inr (.inr ⟨o,List.mem_cons_self ..,e,hl,h⟩)
    ·exact .inl (by rw [h];exact List.mem_cons_self ..)
   ·exact .inl (List.mem_cons_of_mem _ h)
  ·rcases List.mem_cons.1 h with h|h
   ·exact .inl (by rw [h];exact List.mem_cons_self ..)
   ·rcases relax_mem h with h|h|⟨o',h1,h2⟩
    ·exact .inl (List.mem_cons_of_mem _ h)
    ·exact .inr (.inl h)
    ·exact .inr (.inr ⟨o',List.mem_cons_of_mem _ h1,h2⟩)
theorem relax_there [DecidableEq S](y:TR×S): ∀l:List (ND S),∃n,n∈relax y l∧n.s=y.2∧leB n.t y.1
 | []=>⟨⟨y.1,y.2,false⟩,by rw [relax];exact List.mem_cons_self ..,rfl,leB_refl _⟩
 |o::r=>by
  rw [relax]
  split
  ·rename_i e
   split
   ·rename_i hl
    exact ⟨_,List.mem_cons_self ..,e,leB_refl _⟩
   ·rename_i hl
    exact ⟨_,List.mem_cons_self ..,e,by unfold leB;simpa using hl⟩
  ·obtain ⟨n,h1,h2⟩:=relax_there y r
   exact ⟨n,List.mem_cons_of_mem _ h1,h2⟩
theorem relax_keep [DecidableEq S](y:TR×S){n:ND S}: ∀{l:List (ND S)},n∈l→ ∃n',n'∈relax y l∧n'.s=n.s∧n'.d=n.d∧leB n'.t n.t∧(n'=n∨(ltB y.1 n.t=true∧n.s=y.2))
 | [],h=>by cases h
 |o::r,h=>by
  rw [relax]
  split
  ·rename_i e
   rcases List.mem_cons.1 h with h|h
   ·subst h
    split
    ·rename_i hl
     exact ⟨_,List.mem_cons_self ..,rfl,rfl,leB_of_lt hl, .inr ⟨hl,e⟩⟩
    ·exact ⟨_,List.mem_cons_self ..,rfl,rfl,leB_refl _, .inl rfl⟩
   ·exact ⟨n,List.mem_cons_of_mem _ h,rfl,rfl,leB_refl _, .inl rfl⟩
  ·rcases List.mem_cons.1 h with h|h
   ·subst h
    exact ⟨_,List.mem_cons_self ..,rfl,rfl,leB_refl _, .inl rfl⟩
   ·obtain ⟨n',h1,h2⟩:=relax_keep y h
    exact ⟨n',List.mem_cons_of_mem _ h1,h2⟩
def undone(l:List (ND S)):Nat→Bool:=fun i=>match l[i]? with
 |some n=> !n.d
 |none=>false
def tAt(l:List (ND S))(i:Nat):TR:=match l[i]? with
 |some n=>n.t
 |none=>[]
def pickN(l:List (ND S)):Nat→Option Nat
 |0=>none
 |n+1=>match pickN l n with
  |none=>if undone l n=true then some n else none
  |some j=>if undone l n=true∧ltB (tAt l n) (tAt l j)=true then some n else some j
theorem pick_none(l:List (ND S)): ∀n,pickN l n=none→ ∀i,i<n→undone l i=false
 |0,_,i,h=>by omega
 |n+1,h,i,hi=>by
  rw [pickN] at h
  cases hp:pickN l n with
  |none=>
   rw [hp] at h
   simp only at h
   split at h
   ·cases h
   ·rename_i hu
    rcases Nat.lt_or_ge i n with h1|h1
    ·exact pick_none l n hp i h1
    ·rw [show i=n by omega];simpa using hu
  |some j=>rw [hp] at h;simp only at h;split at h<;>cases h
theorem pick_some(l:List (ND S)): ∀n j,pickN l n=some j→j<n∧undone l j=true∧ ∀i,i<n→undone l i=true→leB (tAt l j) (tAt l i)
 |0,j,h=>by rw [pickN] at h;cases h
 |n+1,j,h=>by
  rw [pickN] at h
  cases hp:pickN l n with
  |none=>
   rw [hp] at h
   simp only at h
   split at h
   ·rename_i hu
    injection h with h;subst h
    refine ⟨Nat.lt_succ_self _,hu,fun i hi hui=>?_⟩
    rcases Nat.lt_or_ge i n with h1|h1
    ·rw [pick_none l n hp i h1] at hui;cases hui
    ·rw [show i=n by omega];exact leB_refl _
   ·cases h
  |some j0=>
   rw [hp] at h
   simp only at h
   obtain ⟨h1,h2,h3⟩:=pick_some l n j0 hp
   split at h
   ·rename_i hu
    injection h with h;subst h
    refine ⟨Nat.lt_succ_self _,hu.1,fun i hi hui=>?_⟩
    rcases Nat.lt_or_ge i n with h4|h4
    ·exact leB_trans (leB_of_lt hu.2) (h3 i h4 hui)
    ·rw [show i=n by omega];exact leB_refl _
   ·rename_i hu
    injection h with h;subst h
    refine ⟨by omega,h2,fun i hi hui=>?_⟩
    rcases Nat.lt_or_ge i n with h4|h4
    ·exact h3 i h4 hui
    ·have:i=n:=by omega
     subst this
     unfold leB
     cases hq:ltB (tAt l i) (tAt l j0) with
     |false=>rfl
     |true=>exact absurd ⟨hui,hq⟩ hu
def markN(l:List (ND S))(i:Nat):List (ND S):=match l[i]? with
 |some n=>l.set i ⟨n.t,n.s,true⟩
 |none=>l
def searchM [DecidableEq S](st:S→List (Mv S))(most:Nat):Nat→List (ND S)→Option (List (ND S))
 |0,_=>none
 |f+1,l=>match pickN l l.length with
  |none=>some l
  |some i=>match l[i]? with
   |none=>none
   |some x=>match relaxAll most (markN l i) ((st x.s).map fun m=>(withM x.t m,m.2)) with
    |none=>none
    |some l'=>searchM st most f l'
structure SInv(st:S→List (Mv S))(s0:S)(l:List (ND S)):Prop where
 dis:(l.map (·.s)).Nodup
 real: ∀n,n∈l→Wlk st s0 n.t n.s
 start: ∃n,n∈l∧n.s=s0∧leB n.t []
 ord: ∀n,n∈l→n.d=true→ ∀o,o∈l→o.d=false→leB n.t o.t
 clo: ∀n,n∈l→n.d=true→ ∀m,m∈st n.s→ ∃o,o∈l∧o.s=m.2∧leB o.t (withM n.t m)
structure RInv(st:S→List (Mv S))(s0:S)(x:ND S)(done:List (Mv S))(l:List (ND S)):Prop where
 dis:(l.map (·.s)).Nodup
 real: ∀n,n∈l→Wlk st s0 n.t n.s
 start: ∃n,n∈l∧n.s=s0∧leB n.t []
 top: ∀n,n∈l→n.d=true→leB n.t x.t
 low: ∀o,o∈l→o.d=false→leB x.t o.t
 xin:⟨x.t,x.s,true⟩∈l
 clo: ∀n,n∈l→n.d=true→n.s≠x.s→ ∀m,m∈st n.s→ ∃o,o∈l∧o.s=m.2∧leB o.t (withM n.t m)
 mine: ∀m,m∈done→ ∃o,o∈l∧o.s=m.2∧leB o.t (withM x.t m)
theorem nodup_eq{l:List (ND S)}(h:(l.map (·.s)).Nodup){a b:ND S}(ha:a∈l)(hb:b∈l)(e:a.s=b.s):a=b:=by
 obtain ⟨i,hi,rfl⟩:=List.getElem_of_mem ha
 obtain ⟨j,hj,rfl⟩:=List.getElem_of_mem hb
 have hij:i=j:=by
  have hi':i<(l.map (·.s)).length:=by rw [List.length_map];exact hi
  have hj':j<(l.map (·.s)).length:=by rw [List.length_map];exact hj
  rcases Nat.lt_trichotomy i j with h1|h1|h1
  ·exact absurd (by rw [List.getElem_map,List.getElem_map];exact e) (List.pairwise_iff_getElem.1 h i j hi' hj' h1)
  ·exact h1
  ·exact absurd (by rw [List.getElem_map,List.getElem_map];exact e.symm) (List.pairwise_iff_getElem.1 h j i hj' hi' h1)
 subst hij;rfl
theorem RInv.relax [DecidableEq S]{st:S→List (Mv S)}{s0:S}{x:ND S}{done:List (Mv S)}{l:List (ND S)}(h:RInv st s0 x done l){m:Mv S}(hm:m∈st x.s)(hx:Wlk st s0 x.t x.s):RInv st s0 x (done++[m]) (relax (withM x.t m,m.2) l):=by
 have hrep: ∀o,o∈l→ltB (withM x.t m) o.t=true→o.d=false:=fun o ho hl=>by
  cases hd:o.d with
  |false=>rfl
  |true=>
   have h1:=leB_trans (h.top o ho hd) (with_ge x.t m)
   unfold leB at h1
   rw [hl] at h1;cases h1
 have keep: ∀o,o∈l→ ∀t,leB o.t t→ ∃o',o'∈Go.Proofs.YtpcloejpklkieaaGreat.relax (withM x.t m,m.2) l∧o'.s=o.s∧leB o'.t t:=fun o ho t ht=>by
  obtain ⟨o',h1,h2,_,h4,_⟩:=relax_keep (withM x.t m,m.2) ho
  exact ⟨o',h1,h2,leB_trans h4 ht⟩
 refine ⟨?_,fun n hn=>?_,?_,fun n hn hd=>?_,fun o ho hd=>?_,?_,fun n hn hd hne m' hm'=>?_,fun m' hm'=>?_⟩
 ·rw [relax_states]
  split
  ·exact h.dis
  ·rename_i hni
   refine List.nodup_append.2 ⟨h.dis,List.nodup_cons.2 ⟨by simp,List.nodup_nil⟩,fun a ha b hb=>?_⟩
   rw [List.mem_singleton.1 hb]
   intro e;rw [e] at ha;exact hni ha
 ·rcases relax_mem hn with hn|rfl|⟨o,ho,e,_,rfl⟩
  ·exact h.real n hn
  ·exact .step hx hm
  ·show Wlk st s0 (withM x.t m) o.s
   rw [e];exact .step hx hm
 ·obtain ⟨n,h1,h2,h3⟩:=h.start
  obtain ⟨n',g1,g2,g3⟩:=keep n h1 [] h3
  exact ⟨n',g1,by rw [g2];exact h2,g3⟩
 ·rcases relax_mem hn with hn|rfl|⟨o,ho,e,hl,rfl⟩
  ·exact h.top n hn hd
  ·cases hd
  ·have:=hrep o ho hl
   rw [this] at hd;cases hd
 ·rcases relax_mem ho with ho|rfl|⟨o',ho',e,hl,rfl⟩
  ·exact h.low o ho hd
  ·exact with_ge x.t m
  ·exact with_ge x.t m
 ·obtain ⟨n',h1,_,_,_,h5⟩:=relax_keep (withM x.t m,m.2) h.xin
  rcases h5 with rfl|⟨hl,_⟩
  ·exact h1
  ·have:=with_ge x.t m
   unfold leB at this
   rw [hl] at this;cases this
 ·have hnl:n∈l:=by
   rcases relax_mem hn with hn|rfl|⟨o,ho,e,hl,rfl⟩
   ·exact hn
   ·cases hd
   ·have:=hrep o ho hl
    rw [this] at hd;cases hd
  obtain ⟨o,h1,h2,h3⟩:=h.clo n hnl hd hne m' hm'
  obtain ⟨o',g1,g2,g3⟩:=keep o h1 _ h3
  exact ⟨o',g1,by rw [g2];exact h2,g3⟩
 ·rcases List.mem_append.1 hm' with hm'|hm'
  ·obtain ⟨o,h1,h2,h3⟩:=h.mine m' hm'
   obtain ⟨o',g1,g2,g3⟩:=keep o h1 _ h3
   exact ⟨o',g1,by rw [g2];exact h2,g3⟩
  ·rw [List.mem_singleton.1 hm']
   exact relax_there (withM x.t m,m.2) l
theorem RInv.all [DecidableEq S]{st:S→List (Mv S)}{s0:S}{x:ND S}{most:Nat}(hx:Wlk st s0 x.t x.s): ∀(r done:List (Mv S)) (l l':List (ND S)),(∀m,m∈r→m∈st x.s)→RInv st s0 x done l→relaxAll most l (r.map fun m=>(withM x.t m,m.2))=some l'→RInv st s0 x (done++r) l'
 | [],done,l,l',_,h,e=>by
   rw [List.map_nil,relaxAll] at e
   injection e with e;subst e
   rw [List.append_nil];exact h
 |m::r,done,l,l',hr,h,e=>by
  rw [List.map_cons,relaxAll] at e
  split at e
  ·cases e
  ·have:=RInv.all hx r (done++[m]) _ l' (fun y hy=>hr y (List.mem_cons_of_mem _ hy)) (h.relax (hr m (List.mem_cons_self ..)) hx) e
   rwa [List.append_assoc] at this
theorem mark_states(l:List (ND S))(i:Nat):(markN l i).map (·.s)=l.map (·.s):=by
 unfold markN
 split
 ·rename_i n hn
  rw [List.map_set]
  apply List.ext_getElem?
  intro j
  rw [List.getElem?_set]
  split
  ·rename_i e;subst e
   rw [List.getElem?_map,hn]
   split
   ·rfl
   ·rename_i h2;exfalso;apply h2;rw [List.length_map];exact (List.getElem?_eq_some_iff.1 hn).1
  ·rfl
 ·rfl
theorem mark_mem{l:List (ND S)}{i:Nat}{x n:ND S}(hx:l[i]? =some x)(h:n∈markN l i):n=⟨x.t,x.s,true⟩∨n∈l:=by
 unfold markN at h
 rw [hx] at h
 rcases List.mem_or_eq_of_mem_set h with h|h
 ·exact .inr h
 ·exact .inl h
theorem mark_self{l:List (ND S)}{i:Nat}{x:ND S}(hx:l[i]? =some x):(⟨x.t,x.s,true⟩:ND S)∈markN l i:=by
 unfold markN
 rw [hx]
 exact List.mem_set (List.getElem?_eq_some_iff.1 hx).1 _
theorem mark_other{l:List (ND S)}{i:Nat}{x n:ND S}(hx:l[i]? =some x)(h:n∈l)(hne:n≠x):n∈markN l i:=by
 unfold markN
 rw [hx]
 obtain ⟨j,hj,rfl⟩:=List.getElem_of_mem h
 have hij:i≠j:=fun e=>by
  subst e
  rw [List.getElem?_eq_getElem hj] at hx
  injection hx with hx
  exact hne hx
 refine List.mem_iff_getElem?.2 ⟨j,?_⟩
 rw [List.getElem?_set_ne hij,List.getElem?_eq_getElem hj]
theorem SInv.begin{st:S→List (Mv S)}{s0:S}{l:List (ND S)}(h:SInv st s0 l){i:Nat}{x:ND S}(hp:pickN l l.length=some i)(hx:l[i]? =some x):RInv st s0 x [] (markN l i):=by
 obtain ⟨p1,p2,p3⟩:=pick_some l l.length i hp
 have hxl:x∈l:=List.mem_of_getElem? hx
 have hxd:x.d=false:=by
  unfold undone at p2
  rw [hx] at p2
  simpa using p2
 have hbest: ∀o,o∈l→o.d=false→leB x.t o.t:=fun o ho hd=>by
  obtain ⟨j,hj,rfl⟩:=List.getElem_of_mem ho
  have:=p3 j hj (by unfold undone;rw [List.getElem?_eq_getElem hj];simp [hd])
  unfold tAt at this
  rwa [hx,List.getElem?_eq_getElem hj] at this
 have keep: ∀o,o∈l→ ∃o',o'∈markN l i∧o'.s=o.s∧o'.t=o.t:=fun o ho=>by
  by_cases e:o=x
  ·subst e;exact ⟨_,mark_self hx,rfl,rfl⟩
  ·exact ⟨o,mark_other hx ho e,rfl,rfl⟩
 refine ⟨by rw [mark_states];exact h.dis,fun n hn=>?_,?_,fun n hn hd=>?_,fun o ho hd=>?_,mark_self hx,fun n hn hd hne m hm=>?_,fun m hm=>by cases hm⟩
 ·rcases mark_mem hx hn with rfl|hn
  ·exact h.real x hxl
  ·exact h.real n hn
 ·obtain ⟨n,h1,h2,h3⟩:=h.start
  obtain ⟨n',g1,g2,g3⟩:=keep n h1
  exact ⟨n',g1,by rw [g2];exact h2,by rw [g3];exact h3⟩
 ·rcases mark_mem hx hn with rfl|hn
  ·exact leB_refl _
  ·exact h.ord n hn hd x hxl hxd
 ·rcases mark_mem hx ho with rfl|ho
  ·cases hd
  ·exact hbest o ho hd
 ·rcases mark_mem hx hn with rfl|hn
  ·exact absurd rfl hne
  ·obtain ⟨o,h1,h2,h3⟩:=h.clo n hn hd m hm
   obtain ⟨o',g1,g2,g3⟩:=keep o h1
   exact ⟨o',g1,by rw [g2];exact h2,by rw [g3];exact h3⟩
theorem RInv.finish{st:S→List (Mv S)}{s0:S}{x:ND S}{l:List (ND S)}(h:RInv st s0 x (st x.s) l):SInv st s0 l:=by
 refine ⟨h.dis,h.real,h.start,fun n hn hd o ho hod=>leB_trans (h.top n hn hd) (h.low o ho hod),fun n hn hd m hm=>?_⟩
 by_cases e:n.s=x.s
 ·have hnx:n=⟨x.t,x.s,true⟩:=nodup_eq h.dis hn h.xin e
  subst hnx
  exact h.mine m hm
 ·exact h.clo n hn hd e m hm
theorem search_inv [DecidableEq S]{st:S→List (Mv S)}{s0:S}{most:Nat}: ∀(f:Nat) (l l':List (ND S)),SInv st s0 l→searchM st most f l=some l'→SInv st s0 l'∧ ∀n,n∈l'→n.d=true
 |0,l,l',_,e=>by rw [searchM] at e;cases e
 |f+1,l,l',h,e=>by
  rw [searchM] at e
  cases hp:pickN l l.length with
  |none=>
   rw [hp] at e
   injection e with e;subst e
   refine ⟨h,fun n hn=>?_⟩
   obtain ⟨j,hj,rfl⟩:=List.getElem_of_mem hn
   have:=pick_none l l.length hp j hj
   unfold undone at this
   rw [List.getElem?_eq_getElem hj] at this
   simpa using this
  |some i=>
   rw [hp] at e
   simp only at e
   cases hx:l[i]? with
   |none=>rw [hx] at e;cases e
   |some x=>
    rw [hx] at e
    simp only at e
    cases hr:relaxAll most (markN l i) ((st x.s).map fun m=>(withM x.t m,m.2)) with
    |none=>rw [hr] at e;cases e
    |some l1=>
     rw [hr] at e
     have hb:=h.begin hp hx
     have hw:=h.real x (List.mem_of_getElem? hx)
     have:=RInv.all hw (st x.s) [] _ l1 (fun _ hm=>hm) hb hr
     rw [List.nil_append] at this
     exact search_inv f l1 l' this.finish e
theorem start_inv(st:S→List (Mv S))(s0:S):SInv st s0 [⟨[],s0,false⟩]:=by
 refine ⟨by simp,fun n hn=>?_,⟨_,List.mem_singleton.2 rfl,rfl,leB_refl _⟩,fun n hn hd=>?_,fun n hn hd=>?_⟩
 ·rw [List.mem_singleton.1 hn];exact .nil
 ·rw [List.mem_singleton.1 hn] at hd;cases hd
 ·rw [List.mem_singleton.1 hn] at hd;cases hd
theorem search_all [DecidableEq S]{st:S→List (Mv S)}{s0:S}{most f:Nat}{l:List (ND S)}(h:searchM st most f [⟨[],s0,false⟩]=some l):
 (∀n,n∈l→Wlk st s0 n.t n.s)∧ ∀t s,Wlk st s0 t s→ ∃n,n∈l∧n.s=s∧leB n.t t:=by
 obtain ⟨h1,h2⟩:=search_inv f _ l (start_inv st s0) h
 refine ⟨h1.real,fun t s hw=>?_⟩
 induction hw with
 |nil=>exact h1.start
 |step hw hm ih=>
  obtain ⟨n,g1,g2,g3⟩:=ih
  subst g2
  obtain ⟨o,k1,k2,k3⟩:=h1.clo n g1 (h2 n g1) _ hm
  exact ⟨o,k1,k2,leB_trans k3 (with_mono g3 _)⟩
end
section
variable{S:Type}
def addP [DecidableEq S](y:TR×S)(l:List (TR×S)):List (TR×S):=if y∈l then l else l++[y]
def addPs [DecidableEq S](n most:Nat):List (TR×S)→List (TR×S)→Option (List (TR×S))
 |l,[]=>some l
 |l,y::r=>if n<y.1.length then addPs n most l r else if most<(addP y l).length then none else addPs n most (addP y l) r
def closM [DecidableEq S](st:S→List (Mv S))(n most:Nat):Nat→Nat→List (TR×S)→Option (List (TR×S))
 |0,_,_=>none
 |f+1,i,l=>match l[i]? with
  |none=>some l
  |some x=>match addPs n most l ((st x.2).map fun m=>(withM x.1 m,m.2)) with
   |none=>none
   |some l'=>closM st n most f (i+1) l'
def Can(st:S→List (Mv S))(s0:S)(n:Nat)(y:TR×S):Prop:=Wlk st s0 y.1 y.2∧y.1.length≤n
structure CInv(st:S→List (Mv S))(s0:S)(n:Nat)(l:List (TR×S)):Prop where
 nod:l.Nodup
 can: ∀y,y∈l→Can st s0 n y
theorem CInv.add [DecidableEq S]{st:S→List (Mv S)}{s0:S}{n:Nat}{l:List (TR×S)}(h:CInv st s0 n l){y:TR×S}(hy:Can st s0 n y):CInv st s0 n (addP y l):=by
 unfold addP
 split
 ·exact h
 ·rename_i hn
  refine ⟨List.nodup_append.2 ⟨h.nod,List.nodup_cons.2 ⟨by simp,List.nodup_nil⟩,fun a ha b hb=>?_⟩,fun z hz=>?_⟩
  ·rw [List.mem_singleton.1 hb];intro e;rw [e] at ha;exact hn ha
  ·rcases List.mem_append.1 hz with hz|hz
   ·exact h.can z hz
   ·rw [List.mem_singleton.1 hz];exact hy
theorem addP_pre [DecidableEq S](y:TR×S)(l:List (TR×S)): ∃r,addP y l=l++r:=by
 unfold addP
 split
 ·exact ⟨[],by simp⟩
 ·exact ⟨_,rfl⟩
theorem addP_in [DecidableEq S](y:TR×S)(l:List (TR×S)):y∈addP y l:=by
 unfold addP
 split
 ·assumption
 ·exact List.mem_append_right _ (List.mem_singleton.2 rfl)
theorem nodup_len [DecidableEq S]: ∀{a b:List (TR×S)},a.Nodup→(∀x,x∈a→x∈b)→a.length≤b.length
 | [],b,_,_=>Nat.zero_le _
 |x::a,b,hn,hs=>by
  obtain ⟨h1,h2⟩:=List.nodup_cons.1 hn
  have hx:x∈b:=hs x (List.mem_cons_self ..)
  have:=nodup_len (a:=a) (b:=b.erase x) h2 fun y hy=>(List.mem_erase_of_ne (fun e=>by subst e;exact h1 hy)).2 (hs y (List.mem_cons_of_mem _ hy))
  rw [List.length_erase_of_mem hx] at this
  have:0<b.length:=List.length_pos_of_mem hx
  rw [List.length_cons];omega
theorem addPs_inv [DecidableEq S]{st:S→List (Mv S)}{s0:S}{n most:Nat}: ∀(r:List (TR×S)) (l l':List (TR×S)),CInv st s0 n l→l.length≤most→(∀y,y∈r→Wlk st s0 y.1 y.2)→addPs n most l r=some l'→
 CInv st s0 n l'∧l'.length≤most∧(∃q,l'=l++q)∧ ∀y,y∈r→y.1.length≤n→y∈l'
 | [],l,l',h,hl,_,e=>by
   rw [addPs] at e
   injection e with e;subst e
   exact ⟨h,hl,⟨[],by simp⟩,fun y hy=>by cases hy⟩
 |y::r,l,l',h,hl,hr,e=>by
  rw [addPs] at e
  split at e
  ·rename_i hn
   obtain ⟨h1,h2,h3,h4⟩:=addPs_inv r l l' h hl (fun z hz=>hr z (List.mem_cons_of_mem _ hz)) e
   refine ⟨h1,h2,h3,fun z hz hzl=>?_⟩
   rcases List.mem_cons.1 hz with rfl|hz
   ·omega
   ·exact h4 z hz hzl
  ·rename_i hn
   split at e
   ·cases e
   ·rename_i hm
    obtain ⟨h1,h2,⟨q,h3⟩,h4⟩:=addPs_inv r _ l' (h.add ⟨hr y (List.mem_cons_self ..),by omega⟩) (by omega) (fun z hz=>hr z (List.mem_cons_of_mem _ hz)) e
    obtain ⟨q',hq'⟩:=addP_pre y l
    refine ⟨h1,h2,⟨q'++q,by rw [h3,hq',List.append_assoc]⟩,fun z hz hzl=>?_⟩
    rcases List.mem_cons.1 hz with rfl|hz
    ·rw [h3];exact List.mem_append_left _ (addP_in _ _)
    ·exact h4 z hz hzl
theorem addPs_some [DecidableEq S]{st:S→List (Mv S)}{s0:S}{n most:Nat}{b:List (TR×S)}(hb: ∀y,Can st s0 n y→y∈b)(hbl:b.length≤most): ∀(r:List (TR×S)) (l:List (TR×S)),CInv st s0 n l→(∀y,y∈r→Wlk st s0 y.1 y.2)→ ∃l',addPs n most l r=some l'
 | [],l,_,_=>⟨l,by rw [addPs]⟩
 |y::r,l,h,hr=>by
  rw [addPs]
  split
  ·exact addPs_some hb hbl r l h fun z hz=>hr z (List.mem_cons_of_mem _ hz)
  ·rename_i hn
   have h1:=h.add (y:=y) ⟨hr y (List.mem_cons_self ..),by omega⟩
   have:=nodup_len h1.nod fun x hx=>hb x (h1.can x hx)
   rw [if_neg (by omega)]
   exact addPs_some hb hbl r _ h1 fun z hz=>hr z (List.mem_cons_of_mem _ hz)
theorem clos_inv [DecidableEq S]{st:S→List (Mv S)}{s0:S}{n most:Nat}: ∀(f i:Nat) (l l':List (TR×S)),CInv st s0 n l→l.length≤most→(∀j x,j<i→l[j]? =some x→ ∀m,m∈st x.2→(withM x.1 m).length≤n→(withM x.1 m,m.2)∈l)→closM st n most f i l=some l'→
 CInv st s0 n l'∧l'.length≤most∧(∃q,l'=l++q)∧ ∀x,x∈l'→ ∀m,m∈st x.2→(withM x.1 m).length≤n→(withM x.1 m,m.2)∈l'
 |0,i,l,l',_,_,_,e=>by rw [closM] at e;cases e
 |f+1,i,l,l',h,hl,hc,e=>by
  rw [closM] at e
  cases hx:l[i]? with
  |none=>
   rw [hx] at e
   injection e with e;subst e
   refine ⟨h,hl,⟨[],by simp⟩,fun x hxl=>?_⟩
   obtain ⟨j,hj,rfl⟩:=List.getElem_of_mem hxl
   have hij:l.length≤i:=List.getElem?_eq_none_iff.1 hx
   exact hc j _ (by omega) (List.getElem?_eq_getElem hj)
  |some x=>
   rw [hx] at e
   simp only at e
   cases ha:addPs n most l ((st x.2).map fun m=>(withM x.1 m,m.2)) with
   |none=>rw [ha] at e;cases e
   |some l1=>
    rw [ha] at e
    simp only at e
    have hw:=(h.can x (List.mem_of_getElem? hx)).1
    obtain ⟨h1,h2,⟨q,h3⟩,h4⟩:=addPs_inv _ l l1 h hl (fun y hy=>by
     obtain ⟨m,hm,rfl⟩:=List.mem_map.1 hy
     exact .step hw hm) ha
    have hil:i<l.length:=(List.getElem?_eq_some_iff.1 hx).1
    obtain ⟨k1,k2,⟨q2,k3⟩,k4⟩:=clos_inv f (i+1) l1 l' h1 h2 (fun j y hj hy m hm hml=>by
     rcases Nat.lt_or_ge j i with hji|hji
     ·rw [h3,List.getElem?_append_left (by omega)] at hy
      rw [h3];exact List.mem_append_left _ (hc j y hji hy m hm hml)
     ·have:j=i:=by omega
      subst this
      rw [h3,List.getElem?_append_left hil,hx] at hy
      injection hy with hy;subst hy
      exact h4 _ (List.mem_map.2 ⟨m,hm,rfl⟩) hml) e
    exact ⟨k1,k2,⟨q++q2,by rw [k3,h3,List.append_assoc]⟩,k4⟩
theorem clos_start(st:S→List (Mv S))(s0:S)(n:Nat):CInv st s0 n [([],s0)]:=
 ⟨List.nodup_cons.2 ⟨by simp,List.nodup_nil⟩,fun y hy=>by rw [List.mem_singleton.1 hy];exact ⟨.nil,Nat.zero_le _⟩⟩
theorem clos_all [DecidableEq S]{st:S→List (Mv S)}{s0:S}{n most f:Nat}{l:List (TR×S)}(hm:1≤most)(h:closM st n most f 0 [([],s0)]=some l):l.Nodup∧l.length≤most∧ ∀y,y∈l↔Can st s0 n y:=by
 obtain ⟨h1,h2,⟨q,h3⟩,h4⟩:=clos_inv f 0 _ l (clos_start st s0 n) (by simpa using hm) (fun j x hj=>by omega) h
 have key: ∀t s,Wlk st s0 t s→t.length≤n→(t,s)∈l:=by
  intro t s hw
  induction hw with
  |nil=>intro _;rw [h3];exact List.mem_append_left _ (List.mem_singleton.2 rfl)
  | @step t' s' m hw hmm ih=>
    intro hl
    have hle:=leB_len (with_ge t' m)
    exact h4 (t',s') (ih (by omega)) m hmm hl
 exact ⟨h1.nod,h2,fun y=>⟨h1.can y,fun h=>key y.1 y.2 h.1 h.2⟩⟩
theorem clos_some [DecidableEq S]{st:S→List (Mv S)}{s0:S}{n most:Nat}{b:List (TR×S)}(hb: ∀y,Can st s0 n y→y∈b)(hbl:b.length≤most): ∀(f i:Nat) (l:List (TR×S)),CInv st s0 n l→i≤l.length→most+1-i≤f→ ∃l',closM st n most f i l=some l'
 |0,i,l,h,hi,hf=>by
  have:=nodup_len h.nod fun x hx=>hb x (h.can x hx)
  omega
 |f+1,i,l,h,hi,hf=>by
  rw [closM]
  cases hx:l[i]? with
  |none=>exact ⟨l,rfl⟩
  |some x=>
   simp only
   have hw:=(h.can x (List.mem_of_getElem? hx)).1
   have hws: ∀y,y∈((st x.2).map fun m=>(withM x.1 m,m.2))→Wlk st s0 y.1 y.2:=fun y hy=>by
    obtain ⟨m,hm,rfl⟩:=List.mem_map.1 hy
    exact .step hw hm
   obtain ⟨l1,h1⟩:=addPs_some hb hbl _ l h hws
   have hl:=nodup_len h.nod fun x hx=>hb x (h.can x hx)
   obtain ⟨g1,_,⟨q,g3⟩,_⟩:=addPs_inv _ l l1 h (by omega) hws h1
   rw [h1]
   simp only
   have hil:i<l.length:=(List.getElem?_eq_some_iff.1 hx).1
   exact clos_some hb hbl f (i+1) l1 g1 (by rw [g3,List.length_append];omega) (by omega)
def canT(l:List TR):List TR:=insAll ltL [] l
theorem mem_canT{l:List TR}{t:TR}:t∈canT l↔t∈l:=by simp [canT,mem_insAll]
theorem asc_canT(l:List TR):AscL ltL (canT l):=asc_insAll ord_L (by simp [AscL])
theorem walk_begin{st:S→List (Mv S)}{s0:S}{t:TR}{s:S}(h:Wlk st s0 t s):t≠[]→ ∃s',Wlk st s0 t.dropLast s':=by
 induction h with
 |nil=>intro h;exact absurd rfl h
 | @step t s m hw hm ih=>
   intro hne
   unfold withM at hne⊢
   cases he:m.1 with
   |none=>rw [he] at hne;exact ih hne
   |some e=>
    show∃s',Wlk st s0 (t++[e]).dropLast s'
    rw [List.dropLast_concat]
    exact ⟨s,hw⟩
theorem dropLast_lt: ∀{t:TR},t≠[]→ltL t.dropLast t=true
 | [],h=>absurd rfl h
 | [x],_=>rfl
 |x::y::r,_=>by
  rw [List.dropLast_cons_cons,ltL,if_pos rfl]
  exact dropLast_lt (by simp)
theorem order_plain [DecidableEq S]{st:S→List (Mv S)}{s0:S}{n most f:Nat}{l:List (TR×S)}(hm:1≤most)(h:closM st n most f 0 [([],s0)]=some l):
 (∀t,t∈canT (l.map (·.1))→t.length≤n∧(t≠[]→t.dropLast∈canT (l.map (·.1))))∧[]∈canT (l.map (·.1)):=by
 obtain ⟨h1,h2,h3⟩:=clos_all hm h
 refine ⟨fun t ht=>?_,?_⟩
 ·obtain ⟨y,hy,rfl⟩:=List.mem_map.1 (mem_canT.1 ht)
  obtain ⟨hw,hl⟩:=(h3 y).1 hy
  refine ⟨hl,fun hne=>?_⟩
  obtain ⟨s',hs'⟩:=walk_begin hw hne
  exact mem_canT.2 (List.mem_map.2 ⟨(y.1.dropLast,s'),(h3 _).2 ⟨hs',by show y.1.dropLast.length≤n;rw [List.length_dropLast];omega⟩,rfl⟩)
 ·exact mem_canT.2 (List.mem_map.2 ⟨([],s0),(h3 _).2 ⟨.nil,Nat.zero_le _⟩,rfl⟩)
theorem shorter_plain [DecidableEq S]{st:S→List (Mv S)}{s0:S}{n most f:Nat}{l:List (TR×S)}(hm:1≤most)(h:closM st n most f 0 [([],s0)]=some l){f':Nat}(hf:most+1≤f'){n':Nat}(hn:n'≤n):
 ∃l',closM st n' most f' 0 [([],s0)]=some l'∧canT (l'.map (·.1))=(canT (l.map (·.1))).filter fun t=>decide (t.length≤n'):=by
 obtain ⟨h1,h2,h3⟩:=clos_all hm h
 obtain ⟨l',hl'⟩:=clos_some (st:=st) (s0:=s0) (n:=n') (most:=most) (b:=l) (fun y hy=>(h3 y).2 ⟨hy.1,Nat.le_trans hy.2 hn⟩) h2 f' 0 [([],s0)] (clos_start st s0 n') (Nat.zero_le _) (by omega)
 refine ⟨l',hl',?_⟩
 obtain ⟨k1,k2,k3⟩:=clos_all hm hl'
 refine asc_eq ord_L (asc_canT _) ((asc_canT _).sublist List.filter_sublist) fun t=>?_
 rw [List.mem_filter,mem_canT,mem_canT,decide_eq_true_eq]
 constructor
 ·intro ht
  obtain ⟨y,hy,rfl⟩:=List.mem_map.1 ht
  obtain ⟨hw,hl⟩:=(k3 y).1 hy
  exact ⟨List.mem_map.2 ⟨y,(h3 y).2 ⟨hw,Nat.le_trans hl hn⟩,rfl⟩,hl⟩
 ·rintro ⟨ht,hl⟩
  obtain ⟨y,hy,rfl⟩:=List.mem_map.1 ht
  exact List.mem_map.2 ⟨y,(k3 y).2 ⟨((h3 y).1 hy).1,hl⟩,rfl⟩
end
section
variable{S:Type}
def stuckStep(bad:S→Bool)(b:Option TR)(n:ND S):Option TR:=
 if bad n.s=true then (match b with
  |none=>some n.t
  |some t=>if ltB n.t t=true then some n.t else some t) else b
def stuckM(bad:S→Bool)(l:List (ND S)):Option TR:=l.foldl (stuckStep bad) none
theorem stuck_snoc(bad:S→Bool)(l:List (ND S))(n:ND S):stuckM bad (l++[n])=stuckStep bad (stuckM bad l) n:=by
 unfold stuckM;rw [List.foldl_append];rfl
theorem snoc_ind{α:Type}{P:List α→Prop}(h0:P [])(h1: ∀l x,P l→P (l++[x]))(l:List α):P l:=by
 have h: ∀r:List α,P r.reverse:=fun r=>by
  induction r with
  |nil=>exact h0
  |cons x r ih=>rw [List.reverse_cons];exact h1 _ _ ih
 have:=h l.reverse
 rwa [List.reverse_reverse] at this
theorem stuck_spec(bad:S→Bool)(l:List (ND S)):(∀t,stuckM bad l=some t→ ∃n,n∈l∧bad n.s=true∧n.t=t)∧ ∀n,n∈l→bad n.s=true→ ∃t,stuckM bad l=some t∧leB t n.t:=by
 refine snoc_ind (P:=fun l=>(∀t,stuckM bad l=some t→ ∃n,n∈l∧bad n.s=true∧n.t=t)∧ ∀n,n∈l→bad n.s=true→ ∃t,stuckM bad l=some t∧leB t n.t) ⟨fun t h=>(by cases h),fun n h=>(by cases h)⟩ (fun l x ih=>?_) l
 ·show (∀t,stuckM bad (l++[x])=some t→ ∃n,n∈l++[x]∧bad n.s=true∧n.t=t)∧ ∀n,n∈l++[x]→bad n.s=true→ ∃t,stuckM bad (l++[x])=some t∧leB t n.t
  rw [stuck_snoc]
  obtain ⟨h1,h2⟩:=ih
  unfold stuckStep
  by_cases hb:bad x.s=true
  ·rw [if_pos hb]
   cases hs:stuckM bad l with
   |none=>
    refine ⟨fun t h=>?_,fun n hn hbn=>?_⟩
    ·injection h with h;exact ⟨x,by simp,hb,h⟩
    ·rcases List.mem_append.1 hn with hn|hn
     ·obtain ⟨t,e,_⟩:=h2 n hn hbn
      rw [hs] at e;cases e
     ·rw [List.mem_singleton.1 hn];exact ⟨_,rfl,leB_refl _⟩
   |some t0=>
    simp only
    by_cases hl:ltB x.t t0=true
    ·rw [if_pos hl]
     refine ⟨fun t h=>?_,fun n hn hbn=>?_⟩
     ·injection h with h;exact ⟨x,by simp,hb,h⟩
     ·rcases List.mem_append.1 hn with hn|hn
      ·obtain ⟨t,e,h3⟩:=h2 n hn hbn
       rw [hs] at e;injection e with e;subst e
       exact ⟨_,rfl,leB_trans (leB_of_lt hl) h3⟩
      ·rw [List.mem_singleton.1 hn];exact ⟨_,rfl,leB_refl _⟩
    ·rw [if_neg hl]
     refine ⟨fun t h=>?_,fun n hn hbn=>?_⟩
     ·injection h with h;subst h
      obtain ⟨n,g1,g2,g3⟩:=h1 t0 hs
      exact ⟨n,List.mem_append_left _ g1,g2,g3⟩
     ·rcases List.mem_append.1 hn with hn|hn
      ·obtain ⟨t,e,h3⟩:=h2 n hn hbn
       rw [hs] at e;injection e with e;subst e
       exact ⟨_,rfl,h3⟩
      ·rw [List.mem_singleton.1 hn]
       exact ⟨_,rfl,by unfold leB;simpa using hl⟩
  ·rw [if_neg hb]
   refine ⟨fun t h=>?_,fun n hn hbn=>?_⟩
   ·obtain ⟨n,g1,g2,g3⟩:=h1 t h
    exact ⟨n,List.mem_append_left _ g1,g2,g3⟩
   ·rcases List.mem_append.1 hn with hn|hn
    ·exact h2 n hn hbn
    ·rw [List.mem_singleton.1 hn] at hbn;exact absurd hbn hb
theorem stuck_plain [DecidableEq S]{st:S→List (Mv S)}{s0:S}{most f:Nat}{l:List (ND S)}(bad:S→Bool)(h:searchM st most f [⟨[],s0,false⟩]=some l):
 (∀t,stuckM bad l=some t→ ∃s,Wlk st s0 t s∧bad s=true)∧ ∀t s,Wlk st s0 t s→bad s=true→ ∃b,stuckM bad l=some b∧leB b t:=by
 obtain ⟨h1,h2⟩:=search_all h
 obtain ⟨k1,k2⟩:=stuck_spec bad l
 refine ⟨fun t ht=>?_,fun t s hw hb=>?_⟩
 ·obtain ⟨n,g1,g2,g3⟩:=k1 t ht
  subst g3
  exact ⟨n.s,h1 n g1,g2⟩
 ·obtain ⟨n,g1,g2,g3⟩:=h2 t s hw
  subst g2
  obtain ⟨b,e,h3⟩:=k2 n g1 hb
  exact ⟨b,e,leB_trans h3 g3⟩
end
end Go.Proofs.YtpcloejpklkieaaGreat
namespace Go.Proofs.YtpcloejpklkieaaGreat
open Go Go.Tp
mutual
def encK:KE→AV
 |⟨k,o,t,n,v,l⟩=> .ag [AU8 k,AU8 o,AU8 t,AI32 n,AI v, .sl 6 (encKl l) none]
def encKl:List KE→List AV
 | []=>[]
 |e::r=>encK e::encKl r
end
theorem encK_eq(e:KE):encK e= .ag [AU8 e.kind,AU8 e.oper,AU8 e.to,AI32 e.n,AI e.v, .sl 6 (encKl e.l) none]:=by obtain ⟨k,o,t,n,v,l⟩:=e;rw [encK]
theorem encKl_map(l:List KE):encKl l=l.map encK:=by
 induction l with
 |nil=>rw [encKl];rfl
 |cons x r ih=>rw [encKl,ih];rfl
mutual
def wfK:KE→Prop
 |⟨k,o,t,n,v,l⟩=>(u8 k∧u8 o∧u8 t∧i32 n∧i64 v)∧wfKl l
def wfKl:List KE→Prop
 | []=>True
 |e::r=>wfK e∧wfKl r
end
def shapeB(e:KE):Bool:=
 if e.kind=1 then e.oper==0&&e.to==0&&e.v==0&&e.l.length==0
 else if e.kind=2 then e.oper==0&&e.to==0&&e.n==0&&decide (0≤e.v)&&decide (e.v≤255)&&e.l.length==0
 else if e.kind=3 then e.oper==0&&e.to==0&&e.n==0&&decide (0≤e.v)&&decide (e.v≤255)&&e.l.length==1
 else if e.kind=4 then decide (23≤e.oper)&&decide (e.oper≤26)&&e.to==0&&e.n==0&&e.v==0&&e.l.length==1
 else if e.kind=5 then decide (1≤e.oper)&&decide (e.oper≤22)&&e.to==0&&e.n==0&&e.v==0&&e.l.length==2
 else if e.kind=6 then e.oper==0&&decide (1≤e.to)&&decide (e.to≤3)&&e.n==0&&e.v==0&&e.l.length==1
 else false
mutual
def sz:KE→Nat
 |⟨_,_,_,_,_,l⟩=>1+szl l
def szl:List KE→Nat
 | []=>0
 |e::r=>sz e+szl r
end
mutual
def ht:KE→Nat
 |⟨_,_,_,_,_,l⟩=>1+htl l
def htl:List KE→Nat
 | []=>0
 |e::r=>max (ht e) (htl r)
end
mutual
def fine:KE→Bool
 |⟨k,o,t,n,v,l⟩=>shapeB ⟨k,o,t,n,v,l⟩&&finel l
def finel:List KE→Bool
 | []=>true
 |e::r=>fine e&&finel r
end
theorem shape_cases{e:KE}(h:shapeB e=true):(∃k o t n v,e=⟨k,o,t,n,v,[]⟩)∨(∃k o t n v a,e=⟨k,o,t,n,v,[a]⟩)∨(∃k o t n v a b,e=⟨k,o,t,n,v,[a,b]⟩):=by
 obtain ⟨k,o,t,n,v,l⟩:=e
 match l with
 | []=>exact .inl ⟨k,o,t,n,v,rfl⟩
 | [a]=>exact .inr (.inl ⟨k,o,t,n,v,a,rfl⟩)
 | [a,b]=>exact .inr (.inr ⟨k,o,t,n,v,a,b,rfl⟩)
 |a::b::c::r=>
  simp only [shapeB,KE.kind,KE.oper,KE.to,KE.n,KE.v,KE.l,List.length_cons] at h
  exfalso
  revert h
  (repeat' split)<;>simp<;>omega
theorem shape_full{e:KE}(h:shapeB e=true):(∃n,e=⟨1,0,0,n,0,[]⟩)∨(∃v,0≤v∧v≤255∧e=⟨2,0,0,0,v,[]⟩)∨(∃v a,0≤v∧v≤255∧e=⟨3,0,0,0,v,[a]⟩)∨
 (∃o a,23≤o∧o≤26∧e=⟨4,o,0,0,0,[a]⟩)∨(∃o a b,1≤o∧o≤22∧e=⟨5,o,0,0,0,[a,b]⟩)∨(∃t a,1≤t∧t≤3∧e=⟨6,0,t,0,0,[a]⟩):=by
 obtain ⟨k,o,t,n,v,l⟩:=e
 have h1:=h
 simp only [shapeB,KE.kind,KE.oper,KE.to,KE.n,KE.v,KE.l] at h1
 have l0:l.length=0→l=[]:=fun h=>List.length_eq_zero_iff.1 h
 have l1:l.length=1→ ∃a,l=[a]:=fun h=>by
  match l,h with
  | [a],_=>exact ⟨a,rfl⟩
 have l2:l.length=2→ ∃a b,l=[a,b]:=fun h=>by
  match l,h with
  | [a,b],_=>exact ⟨a,b,rfl⟩
 split at h1
 ·subst_vars;simp at h1;obtain ⟨⟨⟨rfl,rfl⟩,rfl⟩,rfl⟩:=h1;exact .inl ⟨n,rfl⟩
 split at h1
 ·subst_vars;simp at h1;obtain ⟨⟨⟨⟨⟨rfl,rfl⟩,rfl⟩,h3⟩,h4⟩,rfl⟩:=h1;exact .inr (.inl ⟨v,h3,h4,rfl⟩)
 split at h1
 ·subst_vars;simp at h1;obtain ⟨⟨⟨⟨⟨rfl,rfl⟩,rfl⟩,h3⟩,h4⟩,hl⟩:=h1;obtain ⟨a,rfl⟩:=l1 hl;exact .inr (.inr (.inl ⟨v,a,h3,h4,rfl⟩))
 split at h1
 ·subst_vars;simp at h1;obtain ⟨⟨⟨⟨⟨h3,h4⟩,rfl⟩,rfl⟩,rfl⟩,hl⟩:=h1;obtain ⟨a,rfl⟩:=l1 hl;exact .inr (.inr (.inr (.inl ⟨o,a,h3,h4,rfl⟩)))
 split at h1
 ·subst_vars;simp at h1;obtain ⟨⟨⟨⟨⟨h3,h4⟩,rfl⟩,rfl⟩,rfl⟩,hl⟩:=h1;obtain ⟨a,b,rfl⟩:=l2 hl;exact .inr (.inr (.inr (.inr (.inl ⟨o,a,b,h3,h4,rfl⟩))))
 split at h1
 ·subst_vars;simp at h1;obtain ⟨⟨⟨⟨⟨rfl,h3⟩,h4⟩,rfl⟩,rfl⟩,hl⟩:=h1;obtain ⟨a,rfl⟩:=l1 hl;exact .inr (.inr (.inr (.inr (.inr ⟨t,a,h3,h4,rfl⟩))))
 ·cases h1
theorem fine_shape{e:KE}(h:fine e=true):shapeB e=true:=by obtain ⟨k,o,t,n,v,l⟩:=e;simp only [fine,Bool.and_eq_true] at h;exact h.1
theorem fine_cases{e:KE}(h:fine e=true):(∃n,e=⟨1,0,0,n,0,[]⟩)∨(∃v,0≤v∧v≤255∧e=⟨2,0,0,0,v,[]⟩)∨(∃v a,0≤v∧v≤255∧fine a=true∧e=⟨3,0,0,0,v,[a]⟩)∨
 (∃o a,23≤o∧o≤26∧fine a=true∧e=⟨4,o,0,0,0,[a]⟩)∨(∃o a b,1≤o∧o≤22∧fine a=true∧fine b=true∧e=⟨5,o,0,0,0,[a,b]⟩)∨(∃t a,1≤t∧t≤3∧fine a=true∧e=⟨6,0,t,0,0,[a]⟩):=by
 rcases shape_full (fine_shape h) with ⟨n,rfl⟩|⟨v,h1,h2,rfl⟩|⟨v,a,h1,h2,rfl⟩|⟨o,a,h1,h2,rfl⟩|⟨o,a,b,h1,h2,rfl⟩|⟨t,a,h1,h2,rfl⟩
 ·exact .inl ⟨n,rfl⟩
 ·exact .inr (.inl ⟨v,h1,h2,rfl⟩)
 ·simp [fine,finel] at h;exact .inr (.inr (.inl ⟨v,a,h1,h2,h.2,rfl⟩))
 ·simp [fine,finel] at h;exact .inr (.inr (.inr (.inl ⟨o,a,h1,h2,h.2,rfl⟩)))
 ·simp [fine,finel] at h;exact .inr (.inr (.inr (.inr (.inl ⟨o,a,b,h1,h2,h.2.1,h.2.2,rfl⟩))))
 ·simp [fine,finel] at h;exact .inr (.inr (.inr (.inr (.inr ⟨t,a,h1,h2,h.2,rfl⟩))))
theorem sz_pos(e:KE):1≤sz e:=by obtain ⟨k,o,t,n,v,l⟩:=e;simp only [sz];omega
theorem ht_pos(e:KE):1≤ht e:=by obtain ⟨k,o,t,n,v,l⟩:=e;simp only [ht];omega
def fits(e:KE)(room deep:Int):Prop:=fine e=true∧(sz e:Int)≤room∧(ht e:Int)≤deep
instance (e:KE) (room deep:Int):Decidable (fits e room deep):=by unfold fits;infer_instance
abbrev valid(e:KE):Prop:=fits e 256 32
theorem fits_not{e:KE}{r d:Int}(h:r<1∨d<1∨shapeB e=false): ¬fits e r d:=by
 rintro ⟨h1,h2,h3⟩
 have:=sz_pos e
 have:=ht_pos e
 rcases h with h|h|h
 ·omega
 ·omega
 ·rw [fine_shape h1] at h;cases h
theorem fits0{k o t n v:Int}{room deep:Int}(hs:shapeB ⟨k,o,t,n,v,[]⟩=true):fits ⟨k,o,t,n,v,[]⟩ room deep↔1≤room∧1≤deep:=by
 simp only [fits,fine,finel,hs,sz,szl,ht,htl,Bool.true_and,true_and];omega
theorem fits1{k o t n v:Int}{a:KE}{room deep:Int}(hs:shapeB ⟨k,o,t,n,v,[a]⟩=true):fits ⟨k,o,t,n,v,[a]⟩ room deep↔fits a (room-1) (deep-1):=by
 simp only [fits,fine,finel,hs,sz,szl,ht,htl,Bool.true_and,Bool.and_true]
 constructor
 ·rintro ⟨h1,h2,h3⟩;exact ⟨h1,by omega,by omega⟩
 ·rintro ⟨h1,h2,h3⟩;exact ⟨h1,by omega,by omega⟩
theorem fits2{k o t n v:Int}{a b:KE}{room deep:Int}(hs:shapeB ⟨k,o,t,n,v,[a,b]⟩=true):fits ⟨k,o,t,n,v,[a,b]⟩ room deep↔fits a (room-1) (deep-1)∧fits b (room-(1+sz a)) (deep-1):=by
 simp only [fits,fine,finel,hs,sz,szl,ht,htl,Bool.true_and,Bool.and_true,Bool.and_eq_true]
 have:=sz_pos b
 constructor
 ·rintro ⟨h1,h2,h3⟩;exact ⟨⟨h1.1,by omega,by omega⟩,⟨h1.2,by omega,by omega⟩⟩
 ·rintro ⟨⟨h1,h2,h3⟩,⟨h4,h5,h6⟩⟩;exact ⟨⟨h1,h4⟩,by omega,by omega⟩
theorem wfK1{k o t n v:Int}{a:KE}(h:wfK ⟨k,o,t,n,v,[a]⟩):wfK a:=by simp only [wfK,wfKl] at h;exact h.2.1
theorem wfK2{k o t n v:Int}{a b:KE}(h:wfK ⟨k,o,t,n,v,[a,b]⟩):wfK a∧wfK b:=by simp only [wfK,wfKl] at h;exact ⟨h.2.1,h.2.2.1⟩
theorem ht_eq(e:KE):ht e=1+htl e.l:=by obtain ⟨k,o,t,n,v,l⟩:=e;rw [ht]
def fitB(n:Int):Bool:=decide (-2147483648≤n)&&decide (n<2147483648)
theorem w32_fit(n:Int):(IntKind.i32.wrap n==n)=fitB n:=by
 rw [Bool.eq_iff_iff];simp [fitB];rw [w32_eq];omega
def fit32(n:Int):Option Int:=if fitB n then some n else none
theorem reduce_p(t:Int)(ht:i64 t):Pure Tryz.prog gs0 213 [AI t] (.tp [AI32 (w32 t),AB (!fitB t)]):=by
 refine p_ tt_ok Tryz.func213 11 fun w0 h0 F hgs=>?_
 refine y_ ?_;refine q_ ?_
 refine Sb.eq ?_
 have h1:IntKind.i64.wrap (IntKind.i32.wrap t)=IntKind.i32.wrap t:=w64_32 (w32_in t)
 rw [h1,←w32_fit];rfl
theorem wadd_p(a b:Int)(ha:i32 a)(hb:i32 b):Pure Tryz.prog gs0 199 [AI32 a,AI32 b] (.tp [AI32 (w32 (a+b)),AB (!fitB (a+b))]):=by
 have h:i64 (a+b):=by unfold i32 at ha hb;unfold i64;omega
 refine p_ tt_ok Tryz.func199 14 fun w0 h0 F hgs=>?_
 refine y_ ?_
 refine A.valE 10 rfl (x':=AI (a+b)) (by rw [w64_32 ha,w64_32 hb,w64_id h]) ?_
 refine c_ (reduce_p _ h) ?_;refine q_ ?_;exact .refl
theorem wsub_p(a b:Int)(ha:i32 a)(hb:i32 b):Pure Tryz.prog gs0 200 [AI32 a,AI32 b] (.tp [AI32 (w32 (a-b)),AB (!fitB (a-b))]):=by
 have h:i64 (a-b):=by unfold i32 at ha hb;unfold i64;omega
 refine p_ tt_ok Tryz.func200 14 fun w0 h0 F hgs=>?_
 refine y_ ?_
 refine A.valE 10 rfl (x':=AI (a-b)) (by rw [w64_32 ha,w64_32 hb,w64_id h]) ?_
 refine c_ (reduce_p _ h) ?_;refine q_ ?_;exact .refl
theorem mul_bound{a b:Int}(ha:i32 a)(hb:i32 b):i64 (a*b):=by
 unfold i32 at ha hb;unfold i64
 have h1:a.natAbs≤2147483648:=by omega
 have h2:b.natAbs≤2147483648:=by omega
 have h3:(a*b).natAbs≤2147483648*2147483648:=by rw [Int.natAbs_mul];exact Nat.mul_le_mul h1 h2
 omega
theorem wmul_p(a b:Int)(ha:i32 a)(hb:i32 b):Pure Tryz.prog gs0 201 [AI32 a,AI32 b] (.tp [AI32 (w32 (a*b)),AB (!fitB (a*b))]):=by
 have h:i64 (a*b):=mul_bound ha hb
 refine p_ tt_ok Tryz.func201 14 fun w0 h0 F hgs=>?_
 refine y_ ?_
 refine A.valE 10 rfl (x':=AI (a*b)) (by rw [w64_32 ha,w64_32 hb,w64_id h]) ?_
 refine c_ (reduce_p _ h) ?_;refine q_ ?_;exact .refl
def divB(a b:Int):Bool:=b==0||(a== -2147483648&&b== -1)
def divM(a b:Int):Int:=if divB a b then 0 else a.tdiv b
theorem tdiv_in{a b:Int}(ha:i32 a)(hb:divB a b=false):i32 (a.tdiv b):=by
 unfold i32 at ha⊢
 simp [divB] at hb
 have h1:(a.tdiv b).natAbs≤a.natAbs:=by rw [Int.natAbs_tdiv];exact Nat.div_le_self _ _
 by_cases h:a= -2147483648
 ·subst h
  have hb1:b≠ -1:=hb.2 rfl
  by_cases h2:b=1
  ·subst h2;decide
  ·have:(Int.tdiv (-2147483648) b).natAbs≤1073741824:=by
    rw [Int.natAbs_tdiv]
    have:2≤b.natAbs:=by omega
    calc (Int.natAbs (-2147483648)) / b.natAbs≤2147483648 / 2:=Nat.div_le_div (by decide) this (by decide)
     _=1073741824:=by decide
   omega
 ·omega
theorem wdiv_p(a b:Int)(ha:i32 a)(hb:i32 b):Pure Tryz.prog gs0 202 [AI32 a,AI32 b] (.tp [AI32 (divM a b),AB (divB a b)]):=by
 refine p_ tt_ok Tryz.func202 19 fun w0 h0 F hgs=>?_
 refine g_ ?_
 refine k_ (fun hc=>?_) fun hc=>?_
 ·refine y_ ?_;refine q_ ?_;refine Sb.eq ?_
  have h:divB a b=true:=by simp at hc;simp [divB];exact hc
  simp [divM,h]
 ·have h:divB a b=false:=by simp at hc;simp [divB];exact hc
  refine y_ ?_
  refine A.divrem rfl rfl rfl rfl rfl rfl rfl (by simp [divB] at h;exact h.1) ?_
  refine y_ ?_;refine q_ ?_;refine Sb.eq ?_
  show AV.tp [AI32 (IntKind.i32.wrap (a.tdiv b)),_]=_
  rw [w32_id (tdiv_in ha h)];simp [divM,h]
def remM(a b:Int):Int:=if b=0 then 0 else a.tmod b
theorem wrem_p(a b:Int)(ha:i32 a)(hb:i32 b):Pure Tryz.prog gs0 203 [AI32 a,AI32 b] (.tp [AI32 (remM a b),AB (b==0)]):=by
 refine p_ tt_ok Tryz.func203 14 fun w0 h0 F hgs=>?_
 refine y_ ?_
 refine k_ (fun hc=>?_) fun hc=>?_
 ·refine y_ ?_;refine q_ ?_;refine Sb.eq ?_;simp at hc;simp [hc,remM]
 ·simp at hc
  refine y_ ?_
  refine k_ (fun hd=>?_) fun hd=>?_
  ·refine y_ ?_;refine q_ ?_;refine Sb.eq ?_;simp at hd;subst hd;simp [remM]
  ·refine y_ ?_
   refine A.divrem rfl rfl rfl rfl rfl rfl rfl hc ?_
   refine y_ ?_;refine q_ ?_;refine Sb.eq ?_
   show AV.tp [AI32 (a.tmod b),_]=_
   simp [remM,hc]
theorem wsum_p(a b:Int):Pure Tryz.prog gs0 186 [AI32 a,AI32 b] (AI32 (w32 (a+b))):=by
 refine p_ tt_ok Tryz.func186 8 fun w0 h0 F hgs=>?_
 exact yr_
theorem wdiff_p(a b:Int):Pure Tryz.prog gs0 187 [AI32 a,AI32 b] (AI32 (w32 (a-b))):=by
 refine p_ tt_ok Tryz.func187 8 fun w0 h0 F hgs=>?_
 exact yr_
theorem wprod_p(a b:Int):Pure Tryz.prog gs0 188 [AI32 a,AI32 b] (AI32 (w32 (a*b))):=by
 refine p_ tt_ok Tryz.func188 8 fun w0 h0 F hgs=>?_
 exact yr_
def uns(a:Int):Int:=if a<0 then a+4294967296 else a
theorem wu32_uns{a:Int}(ha:i32 a):IntKind.u32.wrap a=uns a:=by unfold i32 at ha;unfold uns;rw [wu32_eq];split<;>omega
theorem uns_in{a:Int}(ha:i32 a):0≤uns a∧uns a<4294967296:=by unfold i32 at ha;unfold uns;split<;>omega
def shlM(a n:Int):Int:=if uns n>31 then 0 else w32 (a*2^n.toNat)
def shrM(a n:Int):Int:=if uns n>31 then 0 else w32 (uns a / 2^n.toNat)
theorem reduceU_p(t:Int):Pure Tryz.prog gs0 205 [.v (.int .u64 t)] (.tp [AI32 (w32 t),AB (IntKind.u64.wrap (w32 t) !=t)]):=by
 refine p_ tt_ok Tryz.func205 11 fun w0 h0 F hgs=>?_
 refine y_ ?_;refine q_ ?_
 exact .refl
theorem uns_small{n:Int}(hn:i32 n)(h: ¬uns n>31):0≤n∧n≤31∧uns n=n:=by unfold i32 at hn;unfold uns at h⊢;split at h<;>split<;>omega
theorem pow32{k:Nat}(h:k≤32):(2:Int)^k≤4294967296:=by
 have:(2:Nat)^k≤2^32:=Nat.pow_le_pow_right (by decide) h
 have h2:((2^k:Nat):Int)≤((2^32:Nat):Int):=Int.ofNat_le.2 this
 rwa [Int.natCast_pow] at h2
theorem wshl_p(a n:Int)(ha:i32 a)(hn:i32 n):Pure Tryz.prog gs0 192 [AI32 a,AI32 n] (AI32 (shlM a n)):=by
 refine p_ tt_ok Tryz.func192 21 fun w0 h0 F hgs=>?_
 refine y_ ?_
 refine k_ (fun hc=>?_) fun hc=>?_
 ·simp at hc;rw [wu32_uns hn] at hc
  refine y_ ?_;refine R_ ?_;refine Sb.eq ?_;simp [shlM,hc]
 ·simp at hc;rw [wu32_uns hn] at hc
  obtain ⟨h1,h2,h3⟩:=uns_small hn (by omega)
  refine y_ ?_
  refine A.shift rfl rfl rfl rfl rfl rfl (by rw [wu32_uns hn];omega) ?_
  refine c_ (reduceU_p _) ?_;refine R_ ?_;refine Sb.eq ?_
  refine ai32_eq ?_
  have hu:=uns_in ha
  simp only [arV,shlM,wu32_uns hn,wu32_uns ha,h3,if_neg (show¬n>31 by omega)]
  have h4:min n.toNat IntKind.u64.bits=n.toNat:=Nat.min_eq_left (by simp [IntKind.bits];omega)
  rw [h4]
  have hp:=pow32 (k:=n.toNat) (by omega)
  have hp0:(0:Int)<2^n.toNat:=Int.pow_pos (by decide)
  have e1:IntKind.u64.wrap (uns a)=uns a:=by rw [wu64_eq];omega
  have hb:uns a*2^n.toNat<18446744073709551616:=by
   calc uns a*2^n.toNat<4294967296*2^n.toNat:=Int.mul_lt_mul_of_pos_right hu.2 hp0
    _≤4294967296*4294967296:=Int.mul_le_mul_of_nonneg_left hp (by decide)
  have hb0:0≤uns a*2^n.toNat:=Int.mul_nonneg hu.1 (Int.le_of_lt hp0)
  have e2:IntKind.u64.wrap (uns a*2^n.toNat)=uns a*2^n.toNat:=by rw [wu64_eq];omega
  rw [e1,e2]
  unfold uns
  split
  ·unfold w32;rw [w32_eq,w32_eq,Int.add_mul]
   generalize a*2^n.toNat=x
   generalize (2:Int)^n.toNat=y
   omega
  ·rfl
theorem wshr_p(a n:Int)(ha:i32 a)(hn:i32 n):Pure Tryz.prog gs0 193 [AI32 a,AI32 n] (AI32 (shrM a n)):=by
 refine p_ tt_ok Tryz.func193 11 fun w0 h0 F hgs=>?_
 refine y_ ?_
 have hun:=uns_in hn
 have hua:=uns_in ha
 refine A.shift rfl rfl rfl rfl rfl rfl (by rw [wu32_uns hn];omega) ?_
 refine y_ ?_;refine R_ ?_;refine Sb.eq ?_
 refine ai32_eq ?_
 simp only [arV,wu32_uns hn,wu32_uns ha,shrM]
 split
 ·rename_i h
  have h4:min (uns n).toNat IntKind.u32.bits=32:=Nat.min_eq_right (by simp [IntKind.bits];omega)
  rw [h4,Int.fdiv_eq_ediv_of_nonneg _ (by decide)]
  have:uns a / 2^32=0:=by
   rw [show (2:Int)^32=4294967296 by decide];omega
  rw [this];decide
 ·rename_i h
  obtain ⟨h1,h2,h3⟩:=uns_small hn h
  have h4:min (uns n).toNat IntKind.u32.bits=n.toNat:=by rw [h3];exact Nat.min_eq_left (by simp [IntKind.bits];omega)
  rw [h4,Int.fdiv_eq_ediv_of_nonneg _ (Int.le_of_lt (Int.pow_pos (by decide)))];rfl
theorem wafter_p(a b:Int):Pure Tryz.prog gs0 212 [AI32 a,AI32 b] (AB (decide (0<w32 (a-b)))):=by
 refine p_ tt_ok Tryz.func212 9 fun w0 h0 F hgs=>?_
 exact yr_
def band(a b:Int):Int:=bitsOf .and .i32 a b
def bor(a b:Int):Int:=bitsOf .or .i32 a b
def bxor(a b:Int):Int:=bitsOf .xor .i32 a b
def bnot(a:Int):Int:=bitsOf .xor .i32 (-1) a
theorem t1_p(a b:Int):Pure Tryz.prog gs0 189 [AI32 a,AI32 b] (AI32 (band a b)):=by
 refine p_ tt_ok Tryz.func189 8 fun w0 h0 F hgs=>?_
 exact yr_
theorem t2_p(a b:Int):Pure Tryz.prog gs0 190 [AI32 a,AI32 b] (AI32 (bor a b)):=by
 refine p_ tt_ok Tryz.func190 8 fun w0 h0 F hgs=>?_
 exact yr_
theorem t3_p(a b:Int):Pure Tryz.prog gs0 191 [AI32 a,AI32 b] (AI32 (bxor a b)):=by
 refine p_ tt_ok Tryz.func191 8 fun w0 h0 F hgs=>?_
 exact yr_
theorem t4_p(a b:Int):Pure Tryz.prog gs0 194 [AI32 a,AI32 b] (AI32 (w32 (0-a))):=by
 refine p_ tt_ok Tryz.func194 7 fun w0 h0 F hgs=>?_
 exact yr_
theorem t5_p(a b:Int):Pure Tryz.prog gs0 195 [AI32 a,AI32 b] (AI32 (bnot a)):=by
 refine p_ tt_ok Tryz.func195 7 fun w0 h0 F hgs=>?_
 exact yr_
theorem te1_p(a b:Int):Pure Tryz.prog gs0 206 [AI32 a,AI32 b] (AB (a==b)):=by
 refine p_ tt_ok Tryz.func206 8 fun w0 h0 F hgs=>?_
 exact yr_
theorem te2_p(a b:Int):Pure Tryz.prog gs0 207 [AI32 a,AI32 b] (AB (a !=b)):=by
 refine p_ tt_ok Tryz.func207 8 fun w0 h0 F hgs=>?_
 exact yr_
theorem te3_p(a b:Int):Pure Tryz.prog gs0 208 [AI32 a,AI32 b] (AB (decide (a<b))):=by
 refine p_ tt_ok Tryz.func208 8 fun w0 h0 F hgs=>?_
 exact yr_
theorem te4_p(a b:Int):Pure Tryz.prog gs0 209 [AI32 a,AI32 b] (AB (decide (b<a))):=by
 refine p_ tt_ok Tryz.func209 8 fun w0 h0 F hgs=>?_
 exact yr_
theorem te5_p(a b:Int):Pure Tryz.prog gs0 210 [AI32 a,AI32 b] (AB (decide (a≤b))):=by
 refine p_ tt_ok Tryz.func210 8 fun w0 h0 F hgs=>?_
 exact yr_
theorem te6_p(a b:Int):Pure Tryz.prog gs0 211 [AI32 a,AI32 b] (AB (decide (b≤a))):=by
 refine p_ tt_ok Tryz.func211 8 fun w0 h0 F hgs=>?_
 exact yr_
def truthI(b:Bool):Int:=if b then 1 else 0
theorem truth_p(b:Bool):Pure Tryz.prog gs0 198 [AB b] (AI32 (truthI b)):=by
 refine p_ tt_ok Tryz.func198 4 fun w0 h0 F hgs=>?_
 refine y_ ?_
 refine k_ (fun hc=>?_) fun hc=>?_
 ·refine y_ ?_;refine R_ ?_;subst hc;exact .refl
 ·refine y_ ?_;refine R_ ?_;subst hc;exact .refl
theorem t6_p(f:FuncId)(a b:Int)(r:Bool)(hf:Pure Tryz.prog gs0 f [AI32 a,AI32 b] (AB r)):Pure Tryz.prog gs0 197 [AI32 a,AI32 b, .pe 1 (.fn f [] [])] (AI32 (truthI r)):=by
 refine p_ tt_ok Tryz.func197 11 fun w0 h0 F hgs=>?_
 refine y_ ?_
 refine n_ hf ?_
 exact cr_ (truth_p _)
def testsF(o:Int):AV:=
 if o=14 then .fn 206 [] [] else if o=15 then .fn 207 [] [] else if o=16 then .fn 208 [] [] else if o=17 then .fn 209 [] []
 else if o=18 then .fn 210 [] [] else if o=19 then .fn 211 [] [] else if o=22 then .fn 212 [] [] else .v .nilFunc
theorem tests_p(o:Int):Pure Tryz.prog gs0 196 [AU8 o] (testsF o):=by
 refine p_ tt_ok Tryz.func196 18 fun w0 h0 F hgs=>?_
 refine y_ ?_
 refine k_ (fun h1=>?_) fun h1=>?_;(· (refine y_ ?_;refine R_ ?_;refine Sb.eq ?_;simp at*;simp [testsF, *]))
 refine y_ ?_;refine k_ (fun h2=>?_) fun h2=>?_;(· (refine y_ ?_;refine R_ ?_;refine Sb.eq ?_;simp at*;simp [testsF, *]))
 refine y_ ?_;refine k_ (fun h3=>?_) fun h3=>?_;(· (refine y_ ?_;refine R_ ?_;refine Sb.eq ?_;simp at*;simp [testsF, *]))
 refine y_ ?_;refine k_ (fun h4=>?_) fun h4=>?_;(· (refine y_ ?_;refine R_ ?_;refine Sb.eq ?_;simp at*;simp [testsF, *]))
 refine y_ ?_;refine k_ (fun h5=>?_) fun h5=>?_;(· (refine y_ ?_;refine R_ ?_;refine Sb.eq ?_;simp at*;simp [testsF, *]))
 refine y_ ?_;refine k_ (fun h6=>?_) fun h6=>?_;(· (refine y_ ?_;refine R_ ?_;refine Sb.eq ?_;simp at*;simp [testsF, *]))
 refine y_ ?_;refine k_ (fun h7=>?_) fun h7=>?_;(· (refine y_ ?_;refine R_ ?_;refine Sb.eq ?_;simp at*;simp [testsF, *]))
 (· (refine y_ ?_;refine R_ ?_;refine Sb.eq ?_;simp at*;simp [testsF, *]))
def totalF(o:Int):AV:=
 if o=6 then .fn 186 [] [] else if o=7 then .fn 187 [] [] else if o=8 then .fn 188 [] [] else if o=9 then .fn 189 [] []
 else if o=10 then .fn 190 [] [] else if o=11 then .fn 191 [] [] else if o=12 then .fn 192 [] [] else if o=13 then .fn 193 [] []
 else if o=24 then .fn 194 [] [] else if o=25 then .fn 195 [] [] else match testsF o with
  | .fn f a b=> .fn 197 [] [.pe 1 (.fn f a b)]
  |_=> .v .nilFunc
theorem testsF_cases(o:Int):(∃f,testsF o= .fn f [] []∧(o=14∨o=15∨o=16∨o=17∨o=18∨o=19∨o=22))∨(testsF o= .v .nilFunc∧o≠14∧o≠15∧o≠16∧o≠17∧o≠18∧o≠19∧o≠22):=by
 unfold testsF
 (repeat' split)<;>first|exact .inl ⟨_,rfl,by omega⟩|exact .inr ⟨rfl,by omega⟩
theorem total_p(o:Int):Pure Tryz.prog gs0 177 [AU8 o] (totalF o):=by
 rcases testsF_cases o with ⟨f,hf,ho⟩|⟨hf,ho⟩
 ·have e:totalF o= .fn 197 [] [.pe 1 (.fn f [] [])]:=by
   unfold totalF;rw [hf];repeat rw [if_neg (by omega)]
  refine p_ tt_ok Tryz.func177 30 fun w0 h0 F hgs=>?_
  refine y_ ?_
  refine k_ (fun h1=>?_) fun h1=>?_;(· (refine y_ ?_;refine R_ ?_;refine Sb.eq ?_;simp at*;simp [totalF, *]))
  refine y_ ?_;refine k_ (fun h2=>?_) fun h2=>?_;(· (refine y_ ?_;refine R_ ?_;refine Sb.eq ?_;simp at*;simp [totalF, *]))
  refine y_ ?_;refine k_ (fun h3=>?_) fun h3=>?_;(· (refine y_ ?_;refine R_ ?_;refine Sb.eq ?_;simp at*;simp [totalF, *]))
  refine y_ ?_;refine k_ (fun h4=>?_) fun h4=>?_;(· (refine y_ ?_;refine R_ ?_;refine Sb.eq ?_;simp at*;simp [totalF, *]))
  refine y_ ?_;refine k_ (fun h5=>?_) fun h5=>?_;(· (refine y_ ?_;refine R_ ?_;refine Sb.eq ?_;simp at*;simp [totalF, *]))
  refine y_ ?_;refine k_ (fun h6=>?_) fun h6=>?_;(· (refine y_ ?_;refine R_ ?_;refine Sb.eq ?_;simp at*;simp [totalF, *]))
  refine y_ ?_;refine k_ (fun h7=>?_) fun h7=>?_;(· (refine y_ ?_;refine R_ ?_;refine Sb.eq ?_;simp at*;simp [totalF, *]))
  refine y_ ?_;refine k_ (fun h8=>?_) fun h8=>?_;(· (refine y_ ?_;refine R_ ?_;refine Sb.eq ?_;simp at*;simp [totalF, *]))
  refine y_ ?_;refine k_ (fun h9=>?_) fun h9=>?_;(· (refine y_ ?_;refine R_ ?_;refine Sb.eq ?_;simp at*;simp [totalF, *]))
  refine y_ ?_;refine k_ (fun ha=>?_) fun ha=>?_;(· (refine y_ ?_;refine R_ ?_;refine Sb.eq ?_;simp at*;simp [totalF, *]))
  refine y_ ?_
  refine n_ (hf▸tests_p o) ?_
  refine A.alloc rfl rfl rfl rfl rfl rfl fun bx=>?_
  refine A.store rfl rfl rfl rfl rfl rfl rfl ?_
  refine A.freeze 3 rfl rfl rfl ?_
  refine y_ ?_;refine R_ ?_;rw [e];exact .refl
 ·refine p_ tt_ok Tryz.func177 30 fun w0 h0 F hgs=>?_
  refine y_ ?_
  refine k_ (fun h1=>?_) fun h1=>?_;(· (refine y_ ?_;refine R_ ?_;refine Sb.eq ?_;simp at*;simp [totalF, *]))
  refine y_ ?_;refine k_ (fun h2=>?_) fun h2=>?_;(· (refine y_ ?_;refine R_ ?_;refine Sb.eq ?_;simp at*;simp [totalF, *]))
  refine y_ ?_;refine k_ (fun h3=>?_) fun h3=>?_;(· (refine y_ ?_;refine R_ ?_;refine Sb.eq ?_;simp at*;simp [totalF, *]))
  refine y_ ?_;refine k_ (fun h4=>?_) fun h4=>?_;(· (refine y_ ?_;refine R_ ?_;refine Sb.eq ?_;simp at*;simp [totalF, *]))
  refine y_ ?_;refine k_ (fun h5=>?_) fun h5=>?_;(· (refine y_ ?_;refine R_ ?_;refine Sb.eq ?_;simp at*;simp [totalF, *]))
  refine y_ ?_;refine k_ (fun h6=>?_) fun h6=>?_;(· (refine y_ ?_;refine R_ ?_;refine Sb.eq ?_;simp at*;simp [totalF, *]))
  refine y_ ?_;refine k_ (fun h7=>?_) fun h7=>?_;(· (refine y_ ?_;refine R_ ?_;refine Sb.eq ?_;simp at*;simp [totalF, *]))
  refine y_ ?_;refine k_ (fun h8=>?_) fun h8=>?_;(· (refine y_ ?_;refine R_ ?_;refine Sb.eq ?_;simp at*;simp [totalF, *]))
  refine y_ ?_;refine k_ (fun h9=>?_) fun h9=>?_;(· (refine y_ ?_;refine R_ ?_;refine Sb.eq ?_;simp at*;simp [totalF, *]))
  refine y_ ?_;refine k_ (fun ha=>?_) fun ha=>?_;(· (refine y_ ?_;refine R_ ?_;refine Sb.eq ?_;simp at*;simp [totalF, *]))
  refine y_ ?_
  refine n_ (hf▸tests_p o) ?_
  (refine b_ fun bx=>?_;refine y_ ?_);refine R_ ?_;refine Sb.eq ?_;simp at*;simp [totalF, *]
def isT(a:Int):Bool:=a==0||a==1
def applyC(o a b:Int):Option Int:=
 if o=1 then fit32 (a+b) else if o=2 then fit32 (a-b) else if o=3 then fit32 (a*b)
 else if o=4 then (if divB a b then none else some (a.tdiv b)) else if o=5 then (if b=0 then none else some (a.tmod b))
 else if o=6 then some (w32 (a+b)) else if o=7 then some (w32 (a-b)) else if o=8 then some (w32 (a*b))
 else if o=9 then some (band a b) else if o=10 then some (bor a b) else if o=11 then some (bxor a b)
 else if o=12 then some (shlM a b) else if o=13 then some (shrM a b)
 else if o=14 then some (truthI (a==b)) else if o=15 then some (truthI (a !=b)) else if o=16 then some (truthI (decide (a<b)))
 else if o=17 then some (truthI (decide (b<a))) else if o=18 then some (truthI (decide (a≤b))) else if o=19 then some (truthI (decide (b≤a)))
 else if o=20 then (if isT a&&isT b then some (truthI (a==1&&b==1)) else none)
 else if o=21 then (if isT a&&isT b then some (truthI (a==1||b==1)) else none)
 else if o=22 then some (truthI (decide (0<w32 (a-b)))) else if o=23 then fit32 (0-a) else if o=24 then some (w32 (0-a))
 else if o=25 then some (bnot a) else if o=26 then (if isT a then some (truthI (a==0)) else none) else none
theorem total_cases(o a b:Int)(ha:i32 a)(hb:i32 b):
 (∃f caps r,totalF o= .fn f [] caps∧applyC o a b=some r∧Pure Tryz.prog gs0 f ([AI32 a,AI32 b]++caps) (AI32 r))∨
 (totalF o= .v .nilFunc∧(o<6∨19<o∧o≠22∧o≠24∧o≠25)):=by
 by_cases h:o=6
 ·subst h;exact .inl ⟨_,[],_,rfl,rfl,wsum_p a b⟩
 by_cases h:o=7
 ·subst h;exact .inl ⟨_,[],_,rfl,rfl,wdiff_p a b⟩
 by_cases h:o=8
 ·subst h;exact .inl ⟨_,[],_,rfl,rfl,wprod_p a b⟩
 by_cases h:o=9
 ·subst h;exact .inl ⟨_,[],_,rfl,rfl,t1_p a b⟩
 by_cases h:o=10
 ·subst h;exact .inl ⟨_,[],_,rfl,rfl,t2_p a b⟩
 by_cases h:o=11
 ·subst h;exact .inl ⟨_,[],_,rfl,rfl,t3_p a b⟩
 by_cases h:o=12
 ·subst h;exact .inl ⟨_,[],_,rfl,rfl,wshl_p a b ha hb⟩
 by_cases h:o=13
 ·subst h;exact .inl ⟨_,[],_,rfl,rfl,wshr_p a b ha hb⟩
 by_cases h:o=24
 ·subst h;exact .inl ⟨_,[],_,rfl,rfl,t4_p a b⟩
 by_cases h:o=25
 ·subst h;exact .inl ⟨_,[],_,rfl,rfl,t5_p a b⟩
 by_cases h:o=14
 ·subst h;exact .inl ⟨_,_,_,rfl,rfl,t6_p _ a b _ (te1_p a b)⟩
 by_cases h:o=15
 ·subst h;exact .inl ⟨_,_,_,rfl,rfl,t6_p _ a b _ (te2_p a b)⟩
 by_cases h:o=16
 ·subst h;exact .inl ⟨_,_,_,rfl,rfl,t6_p _ a b _ (te3_p a b)⟩
 by_cases h:o=17
 ·subst h;exact .inl ⟨_,_,_,rfl,rfl,t6_p _ a b _ (te4_p a b)⟩
 by_cases h:o=18
 ·subst h;exact .inl ⟨_,_,_,rfl,rfl,t6_p _ a b _ (te5_p a b)⟩
 by_cases h:o=19
 ·subst h;exact .inl ⟨_,_,_,rfl,rfl,t6_p _ a b _ (te6_p a b)⟩
 by_cases h:o=22
 ·subst h;exact .inl ⟨_,_,_,rfl,rfl,t6_p _ a b _ (wafter_p a b)⟩
 refine .inr ⟨?_,by omega⟩
 have ht:testsF o= .v .nilFunc:=by unfold testsF;repeat rw [if_neg (by assumption)]
 unfold totalF;rw [ht];repeat rw [if_neg (by assumption)]
def overT(a:Int):Bool:=bitsOf .andNot .i32 a 1 !=0
def partR(o a b:Int):Int×Bool:=
 if o=1 then (w32 (a+b),fitB (a+b)) else if o=2 then (w32 (a-b),fitB (a-b)) else if o=3 then (w32 (a*b),fitB (a*b))
 else if o=4 then (divM a b, !divB a b) else if o=5 then (remM a b, !(b==0)) else if o=23 then (w32 (0-a),fitB (0-a))
 else if o=20 then (band a b, !overT (bor a b)) else if o=21 then (bor a b, !overT (bor a b)) else if o=26 then (w32 (1-a), !overT a) else (0,false)
theorem partial_p(o a b:Int)(ha:i32 a)(hb:i32 b):Pure Tryz.prog gs0 178 [AU8 o,AI32 a,AI32 b] (.tp [AI32 (partR o a b).1,AB (partR o a b).2]):=by
 have z0:i32 0:=⟨by decide,by decide⟩
 refine p_ tt_ok Tryz.func178 87 fun w0 h0 F hgs=>?_
 refine y_ ?_;refine k_ (fun h1=>?_) fun h1=>?_
 ·refine y_ ?_;refine n_ (wadd_p a b ha hb) ?_;(refine y_ ?_;refine q_ ?_;refine Sb.eq ?_;simp at*;simp [partR, *])
 refine y_ ?_;refine k_ (fun h2=>?_) fun h2=>?_
 ·refine y_ ?_;refine n_ (wsub_p a b ha hb) ?_;(refine y_ ?_;refine q_ ?_;refine Sb.eq ?_;simp at*;simp [partR, *])
 refine y_ ?_;refine k_ (fun h3=>?_) fun h3=>?_
 ·refine y_ ?_;refine n_ (wmul_p a b ha hb) ?_;(refine y_ ?_;refine q_ ?_;refine Sb.eq ?_;simp at*;simp [partR, *])
 refine y_ ?_;refine k_ (fun h4=>?_) fun h4=>?_
 ·refine y_ ?_;refine n_ (wdiv_p a b ha hb) ?_;(refine y_ ?_;refine q_ ?_;refine Sb.eq ?_;simp at*;simp [partR, *])
 refine y_ ?_;refine k_ (fun h5=>?_) fun h5=>?_
 ·refine y_ ?_;refine n_ (wrem_p a b ha hb) ?_;(refine y_ ?_;refine q_ ?_;refine Sb.eq ?_;simp at*;simp [partR, *])
 refine y_ ?_;refine k_ (fun h6=>?_) fun h6=>?_
 ·refine y_ ?_;refine n_ (wsub_p 0 a z0 ha) ?_;(refine y_ ?_;refine q_ ?_;refine Sb.eq ?_;simp at*;simp [partR, *])
 refine y_ ?_;refine k_ (fun h7=>?_) fun h7=>?_
 ·refine y_ ?_;refine q_ ?_;refine Sb.eq ?_;simp at h1 h2 h3 h4 h5 h6 h7;subst h7;rfl
 refine y_ ?_;refine k_ (fun h8=>?_) fun h8=>?_
 ·refine y_ ?_;refine q_ ?_;refine Sb.eq ?_;simp at h8;subst h8;rfl
 refine y_ ?_;refine k_ (fun h9=>?_) fun h9=>?_
 ·refine y_ ?_;refine q_ ?_;refine Sb.eq ?_;simp at h9;subst h9;rfl
 (refine y_ ?_;refine q_ ?_;refine Sb.eq ?_;simp at*;simp [partR, *])
theorem ofInt_wrap32(n:Nat):BitVec.ofInt 32 (IntKind.i32.wrap (n:Int))=BitVec.ofNat 32 n:=by
 apply BitVec.eq_of_toInt_eq
 rw [BitVec.toInt_ofInt,BitVec.toInt_ofNat',w32_eq]
 rw [Int.bmod_def,Int.bmod_def]
 simp only [show ((2^32:Nat):Int)=4294967296 by decide]
 split<;>split<;>omega
theorem wrap32_zero{x:BitVec 32}(h:IntKind.i32.wrap (x.toNat:Int)=0):x=0:=by
 have hx:=x.isLt
 rw [w32_eq] at h
 apply BitVec.eq_of_toNat_eq
 simp only [BitVec.ofNat_eq_ofNat,BitVec.toNat_ofNat]
 omega
theorem andNot_one{x:BitVec 32}(h:x&&& ~~~(1#32)=0):x.toNat<2:=by
 have key:x>>>1=0#32:=by
  apply BitVec.eq_of_getLsbD_eq
  intro i hi
  have h1:(x&&& ~~~(1#32)).getLsbD (1+i)=false:=by rw [h];simp
  rw [BitVec.getLsbD_and,BitVec.getLsbD_not] at h1
  rw [BitVec.getLsbD_ushiftRight]
  by_cases h32:1+i<32
  ·have h2:(1#32).getLsbD (1+i)=false:=by
    rw [BitVec.getLsbD_ofNat]
    have:(1:Nat).testBit (1+i)=false:=by rw [Nat.testBit_eq_decide_div_mod_eq];simp;rw [Nat.div_eq_of_lt (Nat.one_lt_two_pow (by omega))]
    simp [this]
   simp [h2,h32] at h1
   rw [BitVec.getLsbD_eq_getElem h32,h1];simp
  ·have:=BitVec.getLsbD_of_ge x (1+i) (by omega)
   simp [this]
 have h2:=congrArg BitVec.toNat key
 simp [BitVec.toNat_ushiftRight,Nat.shiftRight_eq_div_pow] at h2
 omega
theorem or_zero{x y z:BitVec 32}(h:(x|||y)&&&z=0):x&&&z=0∧y&&&z=0:=by
 have key: ∀i,((x|||y)&&&z).getLsbD i=false:=fun i=>by rw [h];simp
 constructor<;>(apply BitVec.eq_of_getLsbD_eq;intro i hi;have:=key i;simp only [BitVec.getLsbD_and,BitVec.getLsbD_or] at this⊢;revert this;cases x.getLsbD i<;>cases y.getLsbD i<;>cases z.getLsbD i<;>simp)
theorem isT_of{a:Int}(ha:i32 a)(h:(BitVec.ofInt 32 a).toNat<2):isT a=true:=by
 unfold i32 at ha
 rw [BitVec.toNat_ofInt] at h
 simp only [show ((2^32:Nat):Int)=4294967296 by decide] at h
 simp [isT];omega
theorem overT_or{a b:Int}(ha:i32 a)(hb:i32 b):overT (bor a b)= !(isT a&&isT b):=by
 by_cases h:(isT a&&isT b)=true
 ·simp [isT] at h
  obtain ⟨h1|h1,h2|h2⟩:=h<;>subst h1<;>subst h2<;>decide
 ·have h':(isT a&&isT b)=false:=by simpa using h
  rw [h']
  simp only [Bool.not_false]
  unfold overT
  rw [bne_iff_ne]
  intro hz
  apply h
  unfold bor at hz
  simp only [bitsOf] at hz
  have hz:=wrap32_zero hz
  simp only [IntKind.bits] at hz
  rw [ofInt_wrap32] at hz
  rw [BitVec.ofNat_toNat,BitVec.setWidth_eq] at hz
  have hone:BitVec.ofInt 32 1=1#32:=by decide
  rw [hone] at hz
  obtain ⟨hA,hB⟩:=or_zero hz
  simp [isT_of ha (andNot_one hA),isT_of hb (andNot_one hB)]
theorem overT_one{a:Int}(ha:i32 a):overT a= !isT a:=by
 by_cases h:isT a=true
 ·simp [isT] at h
  rcases h with h|h<;>subst h<;>decide
 ·have h':isT a=false:=by simpa using h
  rw [h']
  simp only [Bool.not_false]
  unfold overT
  rw [bne_iff_ne]
  intro hz
  apply h
  simp only [bitsOf] at hz
  have hz:=wrap32_zero hz
  simp only [IntKind.bits] at hz
  have hone:BitVec.ofInt 32 1=1#32:=by decide
  rw [hone] at hz
  exact isT_of ha (andNot_one hz)
theorem fit_w32{n:Int}(h:fitB n=true):w32 n=n:=by simp [fitB] at h;unfold w32;rw [w32_eq];omega
theorem part_apply{o a b:Int}(ha:i32 a)(hb:i32 b)(h:o<6∨19<o∧o≠22∧o≠24∧o≠25):applyC o a b=if (partR o a b).2 then some (partR o a b).1 else none:=by
 have fx: ∀n,fit32 n=if fitB n then some (w32 n) else none:=fun n=>by
  unfold fit32;split
  ·rename_i h;rw [fit_w32 h]
  ·rfl
 by_cases h1:o=1
 ·subst h1;exact fx _
 by_cases h2:o=2
 ·subst h2;exact fx _
 by_cases h3:o=3
 ·subst h3;exact fx _
 by_cases h4:o=4
 ·subst h4;show (if divB a b then none else some (a.tdiv b))=if (!divB a b) then some (divM a b) else none
  unfold divM;cases divB a b<;>rfl
 by_cases h5:o=5
 ·subst h5;show (if b=0 then none else some (a.tmod b))=if (!(b==0)) then some (remM a b) else none
  unfold remM;by_cases hb:b=0<;>simp [hb]
 by_cases h6:o=20
 ·subst h6;show (if isT a&&isT b then some (truthI (a==1&&b==1)) else none)=if (!overT (bor a b)) then some (band a b) else none
  rw [overT_or ha hb,Bool.not_not]
  split
  ·rename_i h;simp [isT] at h
   obtain ⟨q1|q1,q2|q2⟩:=h<;>subst q1<;>subst q2<;>decide
  ·rfl
 by_cases h7:o=21
 ·subst h7;show (if isT a&&isT b then some (truthI (a==1||b==1)) else none)=if (!overT (bor a b)) then some (bor a b) else none
  rw [overT_or ha hb,Bool.not_not]
  split
  ·rename_i h;simp [isT] at h
   obtain ⟨q1|q1,q2|q2⟩:=h<;>subst q1<;>subst q2<;>decide
  ·rfl
 by_cases h8:o=23
 ·subst h8;exact fx _
 by_cases h9:o=26
 ·subst h9;show (if isT a then some (truthI (a==0)) else none)=if (!overT a) then some (w32 (1-a)) else none
  rw [overT_one ha,Bool.not_not]
  split
  ·rename_i h;simp [isT] at h
   rcases h with q1|q1<;>subst q1<;>decide
  ·rfl
 have e1:applyC o a b=none:=by unfold applyC;repeat rw [if_neg (by omega)]
 have e2:partR o a b=(0,false):=by unfold partR;repeat rw [if_neg (by omega)]
 rw [e1,e2];rfl
theorem apply_p(o a b:Int)(ha:i32 a)(hb:i32 b):Pure Tryz.prog gs0 170 [AU8 o,AI32 a,AI32 b] (optA (applyC o a b)):=by
 rcases total_cases o a b ha hb with ⟨f,caps,r,h1,h2,h3⟩|⟨h1,h2⟩
 ·refine p_ tt_ok Tryz.func170 29 fun w0 h0 F hgs=>?_
  refine y_ ?_
  refine c_ (h1▸total_p o) ?_
  refine c_ h3 ?_;refine q_ ?_;rw [h2];exact .refl
 ·have e:=part_apply ha hb h2
  refine p_ tt_ok Tryz.func170 29 fun w0 h0 F hgs=>?_
  refine y_ ?_
  refine c_ (h1▸total_p o) ?_
  refine c_ (partial_p o a b ha hb) ?_
  refine k_ (fun hc=>?_) fun hc=>?_
  ·refine y_ ?_;refine q_ ?_;simp at hc;rw [e,hc];exact .refl
  ·refine y_ ?_;refine q_ ?_;simp at hc;rw [e,hc];exact .refl
def convC(t v:Int):Option Int:=if t=1∨t=2∧0≤v∧v≤255∨t=3∧0≤v∧v≤1 then some v else none
theorem encKl_len(l:List KE):(encKl l).length=l.length:=by rw [encKl_map,List.length_map]
theorem plain_p(e:KE)(hw:wfK e):Pure Tryz.prog gs0 168 [encK e] (AB (shapeB e)):=by
 obtain ⟨k,o,t,n,v,l⟩:=e
 simp only [wfK,u8,i32,i64] at hw
 obtain ⟨hw,_⟩:=hw
 rw [encK]
 by_cases h1:k=1
 ·subst h1;refine p_ tt_ok Tryz.func168 86 fun w0 h0 F hgs=>?_
  (refine gb_ fun bx=>?_;refine gb_ fun bx=>?_;refine g_ ?_);refine R_ ?_;(refine Sb.eq (ab_iff ?_);simp only [shapeB,KE.kind,KE.oper,KE.to,KE.n,KE.v,KE.l,encKl_len];generalize l.length=len at*;(try simp at hc);(try simp at hd);simp;omega)
 by_cases h2:k=2
 ·subst h2;refine p_ tt_ok Tryz.func168 86 fun w0 h0 F hgs=>?_
  (refine gb_ fun bx=>?_;refine gb_ fun bx=>?_;refine g_ ?_)
  refine k_ (fun hc=>?_) fun hc=>?_
  ·refine y_ ?_;refine R_ ?_;(refine Sb.eq (ab_iff ?_);simp only [shapeB,KE.kind,KE.oper,KE.to,KE.n,KE.v,KE.l,encKl_len];generalize l.length=len at*;(try simp at hc);(try simp at hd);simp;omega)
  ·refine g_ ?_;refine R_ ?_;(refine Sb.eq (ab_iff ?_);simp only [shapeB,KE.kind,KE.oper,KE.to,KE.n,KE.v,KE.l,encKl_len];generalize l.length=len at*;(try simp at hc);(try simp at hd);simp;omega)
 by_cases h3:k=3
 ·subst h3;refine p_ tt_ok Tryz.func168 86 fun w0 h0 F hgs=>?_
  (refine gb_ fun bx=>?_;refine gb_ fun bx=>?_;refine g_ ?_)
  refine k_ (fun hc=>?_) fun hc=>?_
  ·refine y_ ?_;refine R_ ?_;(refine Sb.eq (ab_iff ?_);simp only [shapeB,KE.kind,KE.oper,KE.to,KE.n,KE.v,KE.l,encKl_len];generalize l.length=len at*;(try simp at hc);(try simp at hd);simp;omega)
  ·refine g_ ?_;refine R_ ?_;(refine Sb.eq (ab_iff ?_);simp only [shapeB,KE.kind,KE.oper,KE.to,KE.n,KE.v,KE.l,encKl_len];generalize l.length=len at*;(try simp at hc);(try simp at hd);simp;omega)
 by_cases h4:k=4
 ·subst h4;refine p_ tt_ok Tryz.func168 86 fun w0 h0 F hgs=>?_
  (refine gb_ fun bx=>?_;refine gb_ fun bx=>?_;refine g_ ?_);refine R_ ?_;(refine Sb.eq (ab_iff ?_);simp only [shapeB,KE.kind,KE.oper,KE.to,KE.n,KE.v,KE.l,encKl_len];generalize l.length=len at*;(try simp at hc);(try simp at hd);simp;omega)
 by_cases h5:k=5
 ·subst h5;refine p_ tt_ok Tryz.func168 86 fun w0 h0 F hgs=>?_
  (refine gb_ fun bx=>?_;refine gb_ fun bx=>?_;refine g_ ?_);refine R_ ?_;(refine Sb.eq (ab_iff ?_);simp only [shapeB,KE.kind,KE.oper,KE.to,KE.n,KE.v,KE.l,encKl_len];generalize l.length=len at*;(try simp at hc);(try simp at hd);simp;omega)
 by_cases h6:k=6
 ·subst h6;refine p_ tt_ok Tryz.func168 86 fun w0 h0 F hgs=>?_
  (refine gb_ fun bx=>?_;refine gb_ fun bx=>?_;refine g_ ?_);refine R_ ?_;(refine Sb.eq (ab_iff ?_);simp only [shapeB,KE.kind,KE.oper,KE.to,KE.n,KE.v,KE.l,encKl_len];generalize l.length=len at*;(try simp at hc);(try simp at hd);simp;omega)
 refine p_ tt_ok Tryz.func168 86 fun w0 h0 F hgs=>?_
 (repeat (first|first|refine A.s rfl ?_|refine A.r rfl rfl ?_|refine A.w rfl rfl ?_|refine A.p rfl ?_|refine A.b rfl fun bx=>?_|refine A.t rfl fun bl=>?_|refine A.cond rfl (fun h=>(by simp at h;omega)) (fun _=>?_)|first|refine A.step rfl ?_|refine A.v rfl rfl ?_));refine R_ ?_;refine Sb.eq ?_;simp [shapeB, *]
abbrev rowA(r:List Int):AV:= .sl 1 (r.map AI32) none
abbrev rowsA(s:List (List Int)):AV:= .sl 1 (s.map rowA) none
theorem some_p(v:Int)(ok:Bool):Pure Tryz.prog gs0 169 [AI32 v,AB ok] (optA (if ok then some v else none)):=by
 refine p_ tt_ok Tryz.func169 9 fun w0 h0 F hgs=>?_
 refine y_ ?_
 refine k_ (fun hc=>?_) fun hc=>?_
 ·refine y_ ?_;refine q_ ?_;simp at hc;subst hc;exact .refl
 ·refine y_ ?_;refine q_ ?_;simp at hc;subst hc;exact .refl
def fitsB(k v:Int):Bool:=if k=2 then decide (0≤v)&&decide (v≤255) else if k=3 then v==0||v==1 else k==1
theorem fits_p(k v:Int):Pure Tryz.prog gs0 111 [AU8 k,AI32 v] (AB (fitsB k v)):=by
 refine p_ tt_ok Tryz.func111 24 fun w0 h0 F hgs=>?_
 refine y_ ?_
 refine k_ (fun hc=>?_) fun hc=>?_
 ·refine g_ ?_;refine R_ ?_;refine Sb.eq ?_;simp at hc;subst hc;simp [fitsB]
 ·refine y_ ?_
  refine k_ (fun hd=>?_) fun hd=>?_
  ·refine g_ ?_;refine R_ ?_;refine Sb.eq ?_;simp at hc hd;subst hd;simp [fitsB]
  ·refine y_ ?_;refine R_ ?_;refine Sb.eq ?_;simp at hc hd;simp [fitsB,hc,hd]
theorem conv_fits(k v:Int):convC k v=if fitsB k v then some v else none:=by
 unfold convC fitsB
 by_cases h1:k=1
 ·subst h1;simp
 by_cases h2:k=2
 ·subst h2;simp
 by_cases h3:k=3
 ·subst h3;simp;by_cases h:0≤v∧v≤1
  ·rw [if_pos h,if_pos (by omega)]
  ·rw [if_neg h,if_neg (by omega)]
 ·simp [h1,h2,h3]
def atM(s:List (List Int))(v i:Int):Option Int:=if v<0∨i<0 then none else (s[v.toNat]?).bind (·[i.toNat]?)
theorem at_p(s:List (List Int))(v i:Int):Pure Tryz.prog gs0 69 [rowsA s,AI v,AI i] (optA (atM s v i)):=by
 refine p_ tt_ok Tryz.func69 36 fun w0 h0 F hgs=>?_
 (refine g_ ?_;refine A.split 20 rfl (fun hc=>?_) (fun hc=>?_);(refine y_ ?_;refine q_ ?_;refine Sb.eq ?_;simp at hc;have:atM s v i=none:=(by unfold atM;split;rfl;rw [at_none (by omega)];rfl);rw [this];rfl);simp at hc;refine Exists.elim (at_ex hc.1.1 hc.1.2) fun r hr=>?_;have e1:atM s v i=r[i.toNat]? :=(by unfold atM;rw [if_neg (by omega),hr];rfl);refine i_ rfl (map_at hr) rfl ?_;refine k_ (fun hd=>?_) fun hd=>?_;(simp at hd;refine y_ ?_;refine q_ ?_;rw [e1,at_none hd];exact .refl);simp at hd;refine y_ ?_;refine i_ rfl (map_at hr) rfl ?_;refine Exists.elim (at_ex hc.2 hd) fun x hx=>?_;refine i_ rfl (map_at hx) rfl ?_;refine q_ ?_;rw [e1,hx];exact .refl)
def allEq{α β:Type}(f:α→β→Bool)(a:List α)(b:List β)(i:Nat):Bool:=(List.range i).all fun k=>match a[k]?,b[k]? with
 |some x,some y=>f x y
 |_,_=>true
theorem allEq_succ{α β:Type}(f:α→β→Bool){a:List α}{b:List β}{i:Nat}{x:α}{y:β}(hx:a[i]? =some x)(hy:b[i]? =some y):allEq f a b (i+1)=(allEq f a b i&&f x y):=by
 unfold allEq;rw [List.range_succ,List.all_append];simp [hx,hy]
def alikeB{α:Type}(f:α→α→Bool)(a b:List α):Bool:=decide (a.length=b.length)&&allEq f a b a.length
theorem allEq_le{α β:Type}{f:α→β→Bool}{a:List α}{b:List β}{j:Nat}(h:allEq f a b j=false): ∀n,j≤n→allEq f a b n=false:=by
 intro n hn
 unfold allEq at*
 rw [List.all_eq_false] at*
 obtain ⟨k,h1,h2⟩:=h
 exact ⟨k,by simp at*;omega,h2⟩
def short(s:List (List Int)):Prop:=s.length≤281474976710656∧ ∀r,r∈s→r.length≤281474976710656
theorem word_p(x y:Int):Pure Tryz.prog gs0 88 [AI32 x,AI32 y] (AB (x==y)):=by
 refine p_ tt_ok Tryz.func88 8 fun w0 h0 F hgs=>?_
 exact yr_
theorem alike32_p(a b:List Int)(hb:a.length≤281474976710656):Pure Tryz.prog gs0 91 [rowA a,rowA b, .fn 88 [] []] (AB (alikeB (· == ·) a b)):=by
 by_cases hlen:a.length=b.length
 case neg=>
  refine p_ tt_ok Tryz.func91 30 fun w0 h0 F hgs=>?_
  refine y_ ?_
  refine e_ 12 rfl (x':=AB true) (ab_eq (by simp;omega)) ?_;refine R_ ?_;refine Sb.eq (ab_eq ?_);simp [alikeB,hlen]
 refine p_ tt_ok Tryz.func91 30 fun w0 h0 F hgs=>?_
 refine y_ ?_
 refine e_ 12 rfl (x':=AB false) (ab_eq (by simp;omega)) ?_
 refine A.valE 14 rfl (x':=AI (a.length:Nat)) (ai_eq (by simp)) ?_
 refine A.keep [0,1,2,14,15] rfl ?_
 refine A.loopP (ι:=Nat) (fun i=>(⟨[(0,rowA a),(1,rowA b),(2, .fn 88 [] []),(14,AI (a.length:Nat)),(15,AI (i:Int))],[]⟩,[])) (fun i=>i≤a.length∧allEq (· == ·) a b i=true) (fun i=>a.length-i) 0 ⟨by omega,rfl⟩ rfl fun i hi ih=>?_
 refine y_ ?_
 refine k_ (fun hc=>?_) fun hc=>?_
 ·simp at hc
  refine Exists.elim (at_exN (l:=a) (i:=i) (by omega)) fun x hx=>Exists.elim (at_exN (l:=b) (i:=i) (by omega)) fun y hy=>?_
  refine y_ ?_
  refine d_ 9 [0,1,2,3,4,5,6,7,8] [] ?_;refine iw_ rfl (map_at hx) rfl ?_;refine iw_ rfl (map_at hy) rfl ?_;refine WA.nil rfl ?_
  refine c_ (word_p x y) ?_
  have h1:=allEq_succ (· == ·) hx hy
  refine k_ (fun hc=>?_) fun hc=>?_
  ·simp at hc
   refine y_ ?_;refine R_ ?_;refine Sb.eq (ab_eq ?_)
   have h2:=allEq_le (f:=(· == ·)) (a:=a) (b:=b) (j:=i+1) (by rw [h1];simp [hc]) a.length (by omega)
   simp [alikeB,h2]
  ·simp at hc
   refine y_ ?_
   refine A.valE 15 rfl (x':=AI ((i+1:Nat):Int)) (inc_eq i (by omega)) ?_
   refine u_ (ih (i+1) ⟨by omega,by rw [h1];simp [hi.2,hc]⟩ (by omega))
 ·simp at hc
  have:i=a.length:=by omega
  subst this
  refine y_ ?_;refine R_ ?_;refine Sb.eq (ab_eq ?_);rw [alikeB,hi.2,decide_eq_true hlen];rfl
theorem same2_p(a b:List Int)(hb:a.length≤281474976710656):Pure Tryz.prog gs0 90 [rowA a,rowA b, .pe 1 (.fn 88 [] [])] (AB (alikeB (· == ·) a b)):=by
 refine p_ tt_ok Tryz.func90 10 fun w0 h0 F hgs=>?_
 refine y_ ?_
 exact cr_ (alike32_p a b hb)
def sameB(a b:List (List Int)):Bool:=alikeB (alikeB (· == ·)) a b
theorem alikeR_p(a b:List (List Int))(hb:short a):Pure Tryz.prog gs0 89 [rowsA a,rowsA b, .fn 90 [] [.pe 1 (.fn 88 [] [])]] (AB (sameB a b)):=by
 have hb1:=hb.1
 by_cases hlen:a.length=b.length
 case neg=>
  refine p_ tt_ok Tryz.func89 30 fun w0 h0 F hgs=>?_
  refine y_ ?_
  refine e_ 12 rfl (x':=AB true) (ab_eq (by simp;omega)) ?_;refine R_ ?_;refine Sb.eq (ab_eq ?_);simp [sameB,alikeB,hlen]
 refine p_ tt_ok Tryz.func89 30 fun w0 h0 F hgs=>?_
 refine y_ ?_
 refine e_ 12 rfl (x':=AB false) (ab_eq (by simp;omega)) ?_
 refine A.valE 14 rfl (x':=AI (a.length:Nat)) (ai_eq (by simp)) ?_
 refine A.keep [0,1,2,14,15] rfl ?_
 refine A.loopP (ι:=Nat) (fun i=>(⟨[(0,rowsA a),(1,rowsA b),(2, .fn 90 [] [.pe 1 (.fn 88 [] [])]),(14,AI (a.length:Nat)),(15,AI (i:Int))],[]⟩,[])) (fun i=>i≤a.length∧allEq (alikeB (· == ·)) a b i=true) (fun i=>a.length-i) 0 ⟨by omega,rfl⟩ rfl fun i hi ih=>?_
 refine y_ ?_
 refine k_ (fun hc=>?_) fun hc=>?_
 ·simp at hc
  refine Exists.elim (at_exN (l:=a) (i:=i) (by omega)) fun x hx=>Exists.elim (at_exN (l:=b) (i:=i) (by omega)) fun y hy=>?_
  refine y_ ?_
  refine d_ 9 [0,1,2,3,4,5,6,7,8] [] ?_;refine iw_ rfl (map_at hx) rfl ?_;refine iw_ rfl (map_at hy) rfl ?_;refine WA.nil rfl ?_
  refine c_ (same2_p x y (hb.2 x (List.mem_of_getElem? hx))) ?_
  have h1:=allEq_succ (alikeB (· == ·)) hx hy
  refine k_ (fun hc=>?_) fun hc=>?_
  ·simp at hc
   refine y_ ?_;refine R_ ?_;refine Sb.eq (ab_eq ?_)
   have h2:=allEq_le (f:=alikeB (· == ·)) (a:=a) (b:=b) (j:=i+1) (by rw [h1];simp [hc]) a.length (by omega)
   simp [sameB,alikeB,h2]
  ·simp at hc
   refine y_ ?_
   refine A.valE 15 rfl (x':=AI ((i+1:Nat):Int)) (inc_eq i (by omega)) ?_
   refine u_ (ih (i+1) ⟨by omega,by rw [h1];simp [hi.2,hc]⟩ (by omega))
 ·simp at hc
  have:i=a.length:=by omega
  subst this
  have h2:=hi.2
  refine y_ ?_;refine R_ ?_;refine Sb.eq (ab_eq ?_);rw [sameB,alikeB,h2,decide_eq_true hlen];rfl
theorem Same_p(a b:List (List Int))(hb:short a):Pure Tryz.prog gs0 57 [rowsA a,rowsA b] (AB (sameB a b)):=by
 refine p_ tt_ok Tryz.func57 10 fun w0 h0 F hgs=>?_
 iterate 8 (first|first|refine A.s rfl ?_|refine A.r rfl rfl ?_|refine A.w rfl rfl ?_|refine A.p rfl ?_|refine A.b rfl fun bx=>?_|refine A.t rfl fun bl=>?_|first|refine A.step rfl ?_|refine A.v rfl rfl ?_)
 refine A.freeze 5 rfl (sz:=1) rfl rfl ?_
 refine y_ ?_
 exact cr_ (alikeR_p a b hb)
structure KV where
 kind:Int
 dim:Int
abbrev encV(v:KV):AV:= .ag [AU8 v.kind,AI v.dim]
def soundB(v:KV):Bool:=(v.kind==1||v.kind==2||v.kind==3)&&decide (0≤v.dim)&&decide (v.dim≤64)
theorem sound_p(v:KV):Pure Tryz.prog gs0 128 [encV v] (AB (soundB v)):=by
 obtain ⟨k,d⟩:=v
 refine p_ tt_ok Tryz.func128 26 fun w0 h0 F hgs=>?_
 (refine gb_ fun bx=>?_;refine g_ ?_);refine R_ ?_
 refine Sb.eq (ab_eq ?_)
 simp only [soundB]
 cases (k==1)<;>cases (k==2)<;>cases (k==3)<;>cases decide (0≤d)<;>simp
theorem row_one(r:List Int)(h:GH)(zs:List Value)(q:RpC h (r.map AI32) zs): ∀z,z∈zs→allOne (cellsL z)=true:=by
 induction r generalizing zs with
 |nil=>rw [List.map_nil,RpC_nil] at q;subst q;intro z hz;cases hz
 |cons x r ih=>
  rw [List.map_cons,RpC_cons] at q
  obtain ⟨v,vs,rfl,q1,q2⟩:=q
  rw [Rp_v] at q1
  intro z hz
  rcases List.mem_cons.1 hz with rfl|hz
  ·rw [q1.1];rfl
  ·exact ih vs q2 z hz
theorem clone_p(r:List Int)(hr:r.length≤35184372088832):FunE Tryz.prog gs0 46 [rowA r] [] (fun z:Value=> .ms z 1 r.length) (fun z=>[.row 1 z (r.map AI32)]) (fun _=>True):=by
 unfold FunE
 cases r with
 |nil=>
  refine Fun.of (S:=tt) (fn:=Tryz.f46) (n:=8) tt_ok Tryz.func46 rfl rfl rfl rfl fun w0 h0 F hgs=>?_
  refine y_ ?_
  refine A.eqNil rfl rfl rfl rfl rfl rfl rfl rfl fun b hb=>?_
  cases b
  ·refine y_ ?_
   refine A.lit0 rfl rfl rfl rfl rfl rfl rfl fun bl=>?_;refine y_ ?_;refine A.appendNewW rfl rfl rfl rfl rfl rfl rfl rfl rfl rfl rfl rfl rfl (by show (List.map AI32 _).length*1≤_;rw [List.length_map];omega) (by show (List.map AI32 _).length*1*4≤_;rw [List.length_map];omega) (fun x hx=>by injection hx with hx;subst hx;rfl) (row_one _) fun z=>?_;refine y_ ?_
   refine A.ret1 (Λ':=[.row 1 z _]) rfl rfl rfl sl_ ⟨z, .refl,rfl,trivial⟩
  ·refine y_ ?_
   refine A.emptyRow 2 1 rfl fun z=>?_
   refine A.ret1 (Λ':=[.row 1 z []]) rfl rfl rfl sl_ ⟨z, .refl,rfl,trivial⟩
 |cons x r=>
  refine Fun.of (S:=tt) (fn:=Tryz.f46) (n:=8) tt_ok Tryz.func46 rfl rfl rfl rfl fun w0 h0 F hgs=>?_
  refine y_ ?_
  refine A.eqNil rfl rfl rfl rfl rfl rfl rfl rfl fun b hb=>?_
  cases b
  case true=>cases hb rfl
  refine y_ ?_
  refine A.lit0 rfl rfl rfl rfl rfl rfl rfl fun bl=>?_;refine y_ ?_;refine A.appendNewW rfl rfl rfl rfl rfl rfl rfl rfl rfl rfl rfl rfl rfl (by show (List.map AI32 _).length*1≤_;rw [List.length_map];omega) (by show (List.map AI32 _).length*1*4≤_;rw [List.length_map];omega) (fun x hx=>by injection hx with hx;subst hx;rfl) (row_one _) fun z=>?_;refine y_ ?_
  refine A.valE 2 rfl (x':= .ms z 1 (x::r).length) (by rw [List.length_map];rfl) ?_
  refine A.ret1 (Λ':=[.row 1 z _]) rfl rfl rfl sl_ ⟨z, .refl,rfl,trivial⟩
abbrev rowsH(hs:List (Value×List Int)):List (Value×List AV):=hs.map fun p=>(p.1,p.2.map AI32)
def putM(s:List (List Int))(v i x:Int):List (List Int):=if (atM s v i).isSome then (match s[v.toNat]? with|some r=>s.set v.toNat (r.set i.toNat x)|none=>s) else s
abbrev nilV:AV:= .v (.slice none 0 0)
theorem rowsH_len(hs:List (Value×List Int)):(msL 1 (rowsH hs)).length=hs.length:=by rw [msL,rowsH,List.length_map,List.length_map]
theorem out_set(hs:List (Value×List Int))(z:Value)(r:List Int)(m:Nat):(msL 1 (rowsH hs)++List.replicate (m+1) nilV).set hs.length (.ms z 1 r.length)=msL 1 (rowsH (hs++[(z,r)]))++List.replicate m nilV:=by
 rw [List.set_append_right _ _ (by rw [rowsH_len];exact Nat.le_refl _),rowsH_len,Nat.sub_self,List.replicate_succ,List.set_cons_zero]
 simp [msL,rowsH]
theorem set_rows{hs:List (Value×List Int)}{j:Nat}(hj:j<hs.length)(z:Value)(q:List Int):rowsH (hs.set j (z,q))=(rowsH hs).take j++(z,q.map AI32)::(rowsH hs).drop (j+1):=by
 rw [rowsH,List.map_set,List.set_eq_take_append_cons_drop,if_pos (by rw [List.length_map];exact hj)]
theorem set_ms{hs:List (Value×List Int)}{j:Nat}{p:Value×List Int}(hp:hs[j]? =some p)(q:List Int)(hq:q.length=p.2.length):msL 1 (rowsH (hs.set j (p.1,q)))=msL 1 (rowsH hs):=by
 have hj:j<hs.length:=(List.getElem?_eq_some_iff.1 hp).1
 apply List.ext_getElem?
 intro m
 simp only [msL,rowsH,List.getElem?_map,List.getElem?_set]
 by_cases h:j=m
 ·subst h;rw [if_pos rfl,if_pos hj,hp];simp [hq]
 ·rw [if_neg h]
theorem put_p(s:List (List Int))(v i x:Int)(h1:s.length≤1073741824)(h2: ∀r,r∈s→r.length≤35184372088832):
 FunE Tryz.prog gs0 40 [rowsA s,AI v,AI i,AI32 x] [] (fun p:Value×List (Value×List Int)=> .ms p.1 1 s.length) (fun p=>[.rows 1 (rowsH p.2), .row 1 p.1 (msL 1 (rowsH p.2))]) (fun p=>p.2.map Prod.snd=putM s v i x):=by
 unfold FunE
 have hl:((s.map rowA).length:Int)=s.length:=by rw [List.length_map]
 have hat:=at_p s v i
 refine Fun.of (S:=tt) (fn:=Tryz.f40) (n:=46) tt_ok Tryz.func40 rfl rfl rfl rfl fun w0 h0 F hgs=>?_
 refine y_ ?_
 refine A.valE 15 rfl (x':=AI (s.length:Nat)) (ai_eq hl) ?_
 refine A.make rfl rfl rfl rfl rfl rfl rfl rfl rfl rfl rfl rfl (by omega) ?_ (by omega) fun zo=>?_
 ·show ((24:Nat):Int)*_≤_
  omega
 refine y_ ?_
 refine A.valE 9 rfl (x':= .ms zo 1 s.length) (by rw [Int.toNat_natCast];rfl) ?_
 refine A.entsEq (Λ':=[.row 1 zo (List.replicate s.length nilV)]) (by rw [Int.toNat_natCast];rfl) ?_
 refine A.valE 18 rfl (x':=AI (s.length:Nat)) (ai_eq hl) ?_
 refine A.keep [0,1,2,3,9,17,18,19] rfl ?_
 refine A.rows0 1 ?_
 refine A.loopP (ι:=List (Value×List Int)) (fun hs=>(⟨[(0,rowsA s),(1,AI v),(2,AI i),(3,AI32 x),(9, .ms zo 1 s.length),(17,rowsA s),(18,AI (s.length:Nat)),(19,AI (hs.length:Nat))],[]⟩,[.rows 1 (rowsH hs), .row 1 zo (msL 1 (rowsH hs)++List.replicate (s.length-hs.length) nilV)]))
  (fun hs=>hs.map Prod.snd=s.take hs.length∧hs.length≤s.length) (fun hs=>s.length-hs.length) [] ⟨rfl,Nat.zero_le _⟩ rfl fun hs hi ih=>?_
 refine y_ ?_
 refine k_ (fun hc=>?_) fun hc=>?_
 ·simp at hc
  refine Exists.elim (at_exN (l:=s) (i:=hs.length) hc) fun r hr=>?_
  have hrl:=h2 r (List.mem_of_getElem? hr)
  refine y_ ?_
  refine i_ rfl (map_at hr) rfl ?_
  refine A.e rfl (clone_p r hrl) .refl (.refl _) fun z _=>?_
  refine l_ (Λ':=[.row 1 z (r.map AI32), .rows 1 (rowsH hs), .row 1 zo (msL 1 (rowsH hs)++List.replicate (s.length-hs.length) nilV)]) ?_
  refine A.indexRow rfl rfl rfl rfl rfl rfl rfl rfl (by omega) (by rw [List.length_append,rowsH_len,List.length_replicate];omega) rfl ?_
  refine A.storeRow rfl rfl rfl rfl rfl rfl rfl rfl rfl ?_ (xs':=msL 1 (rowsH (hs++[(z,r)]))++List.replicate (s.length-(hs++[(z,r)]).length) nilV) ?_ ?_
  ·rw [List.length_append,rowsH_len,List.length_replicate];omega
  ·have:=out_set hs z r (s.length-(hs++[(z,r)]).length)
   rw [show s.length-hs.length=s.length-(hs++[(z,r)]).length+1 by simp;omega]
   exact this
  refine A.rowsIn (.refl _) ?_
  refine y_ ?_
  refine A.valE 19 rfl (x':=AI (((hs++[(z,r)]).length:Nat):Int)) ?_ ?_
  ·rw [inc_eq hs.length (by omega)];simp
  refine A.entsEq (Λ':=[.rows 1 (rowsH (hs++[(z,r)])), .row 1 zo (msL 1 (rowsH (hs++[(z,r)]))++List.replicate (s.length-(hs++[(z,r)]).length) nilV)]) (by simp [rowsH]) ?_
  refine u_ (ih (hs++[(z,r)]) ⟨?_,by simp;omega⟩ (by simp;omega))
  simp [hi.1,List.take_add_one,hr]
 ·simp at hc
  have hlen:hs.length=s.length:=by omega
  have hsnd:hs.map Prod.snd=s:=by rw [hi.1,hlen,List.take_length]
  refine A.entsEq (Λ':=[.rows 1 (rowsH hs), .row 1 zo (msL 1 (rowsH hs))]) (by rw [hlen,Nat.sub_self];simp) ?_
  cases hv:atM s v i with
  |none=>
   rw [hv] at hat
   refine y_ ?_;refine c_ (hat) ?_
   refine A.ret1 (Λ':=[.rows 1 (rowsH hs), .row 1 zo (msL 1 (rowsH hs))]) rfl rfl rfl sl_ ⟨(zo,hs), .refl,rfl,?_⟩
   show hs.map Prod.snd=_
   rw [hsnd,putM,hv];rfl
  |some y=>
   rw [hv] at hat
   refine y_ ?_;refine c_ (hat) ?_
   unfold atM at hv
   by_cases hneg:v<0∨i<0
   ·rw [if_pos hneg] at hv;cases hv
   rw [if_neg hneg] at hv
   refine Exists.elim (Option.bind_eq_some_iff.1 hv) fun r hr=>?_
   have hgv:hs[v.toNat]? =(hs[v.toNat]?):=rfl
   have hv2:(hs.map Prod.snd)[v.toNat]? =some r:=by rw [hsnd];exact hr.1
   rw [List.getElem?_map] at hv2
   refine Exists.elim (Option.map_eq_some_iff.1 hv2) fun p hp=>?_
   have hpl:(rowsH hs)[v.toNat]? =some (p.1,r.map AI32):=by rw [rowsH,List.getElem?_map,hp.1,←hp.2];rfl
   have hvl:v.toNat<hs.length:=(List.getElem?_eq_some_iff.1 hp.1).1
   have hrl:i.toNat<r.length:=(List.getElem?_eq_some_iff.1 hr.2).1
   refine A.indexRow rfl rfl rfl rfl rfl rfl rfl rfl (by omega) (by rw [rowsH_len];omega) rfl ?_
   refine A.loadRow rfl rfl rfl rfl rfl rfl (y':= .ms p.1 1 (r.map AI32).length) rfl (by rw [msL,List.getElem?_map,hpl];rfl) rfl rfl ?_
   refine A.rowsOut v.toNat hpl (.refl _) ?_
   refine y_ ?_
   refine A.indexRow rfl rfl rfl rfl rfl rfl rfl rfl (by omega) (by rw [List.length_map];omega) rfl ?_
   refine A.storeRow rfl rfl rfl rfl rfl rfl rfl rfl rfl (by rw [List.length_map];omega) (xs':=(r.set i.toNat x).map AI32) List.map_set.symm ?_
   refine A.rowsBack (.refl _) ?_
   have hp2:p.2=r:=hp.2
   refine A.entsEq (Λ':=[.rows 1 (rowsH (hs.set v.toNat (p.1,r.set i.toNat x))), .row 1 zo (msL 1 (rowsH (hs.set v.toNat (p.1,r.set i.toNat x))))]) (by rw [set_ms hp.1 _ (by rw [List.length_set,hp2]),set_rows hvl]) ?_
   refine y_ ?_
   refine A.ret1 (Λ':=[.rows 1 (rowsH (hs.set v.toNat (p.1,r.set i.toNat x))), .row 1 zo _]) rfl rfl rfl sl_ ⟨(zo,hs.set v.toNat (p.1,r.set i.toNat x)), .refl,rfl,?_⟩
   show (hs.set v.toNat (p.1,r.set i.toNat x)).map Prod.snd=putM s v i x
   rw [List.map_set,hsnd,putM,atM,if_neg hneg,hv,hr.1];rfl
def idxF{α:Type}(p:α→Bool):List α→Nat→Int
 | [],_=> -1
 |x::r,i=>if p x then (i:Int) else idxF p r (i+1)
theorem idxF_any{α:Type}(p:α→Bool): ∀(l:List α) (i:Nat),decide (0≤idxF p l i)=l.any p
 | [],_=>rfl
 |x::r,i=>by
  rw [idxF,List.any_cons]
  cases h:p x
  ·simp;exact idxF_any p r (i+1)
  ·simp
theorem drop_at{α:Type}{l:List α}{i:Nat}{x:α}(h:l[i]? =some x):l.drop i=x::l.drop (i+1):=by
 obtain ⟨h1,h2⟩:=List.getElem?_eq_some_iff.1 h
 rw [←h2,List.getElem_cons_drop]
theorem idx32_p(f:FuncId)(c:List AV)(p:Int→Bool)(hcb: ∀x,Pure Tryz.prog gs0 f (AI32 x::c) (AB (p x)))(l:List Int)(hb:l.length≤281474976710656):
 Pure Tryz.prog gs0 135 [rowA l, .fn f [] c] (AI (idxF p l 0)):=by
 refine p_ tt_ok Tryz.func135 19 fun w0 h0 F hgs=>?_
 (refine y_ ?_;refine A.valE 7 rfl (x':=AI (l.length:Nat)) (ai_eq (by rw [List.length_map])) ?_)
 refine A.keep [0,1,7,8] rfl ?_
 refine A.loopP (ι:=Nat) (fun i=>(⟨[(0,rowA l),(1, .fn f [] c),(7,AI (l.length:Nat)),(8,AI (i:Int))],[]⟩,[])) (fun i=>i≤l.length∧idxF p l 0=idxF p (l.drop i) i) (fun i=>l.length-i) 0 ⟨by omega,rfl⟩ rfl fun i hi ih=>?_
 refine y_ ?_
 refine k_ (fun hc=>?_) fun hc=>?_
 ·simp at hc
  refine Exists.elim (at_exN (l:=l) (i:=i) hc) fun x hx=>?_
  refine y_ ?_
  refine i_ rfl (map_at hx) rfl ?_
  refine A.c rfl (hcb x) SbL.refl ?_
  have h1:=hi.2
  rw [drop_at hx,idxF] at h1
  cases hp:p x with
  |true=>
   rw [hp] at h1
   refine y_ ?_;refine R_ ?_;rw [h1];exact .refl
  |false=>
   rw [hp] at h1
   refine y_ ?_
   refine A.valE 8 rfl (x':=AI ((i+1:Nat):Int)) (inc_eq i (by omega)) ?_
   refine u_ (ih (i+1) ⟨by omega,h1⟩ (by omega))
 ·simp at hc
  have:i=l.length:=by omega
  subst this
  refine y_ ?_;refine R_ ?_;rw [hi.2,List.drop_length];exact .refl
theorem has32_p(f:FuncId)(c:List AV)(p:Int→Bool)(hcb: ∀x,Pure Tryz.prog gs0 f (AI32 x::c) (AB (p x)))(l:List Int)(hb:l.length≤281474976710656):
 Pure Tryz.prog gs0 109 [rowA l, .fn f [] c] (AB (l.any p)):=by
 refine p_ tt_ok Tryz.func109 9 fun w0 h0 F hgs=>?_
 refine y_ ?_
 refine c_ (idx32_p f c p hcb l hb) ?_;refine R_ ?_;refine Sb.eq (ab_eq ?_);exact idxF_any p l 0
abbrev varsA(l:List KV):AV:= .sl 2 (l.map encV) none
theorem idxV_p(f:FuncId)(c:List AV)(p:KV→Bool)(hcb: ∀x,Pure Tryz.prog gs0 f (encV x::c) (AB (p x)))(l:List KV)(hb:l.length≤281474976710656):
 Pure Tryz.prog gs0 152 [varsA l, .fn f [] c] (AI (idxF p l 0)):=by
 refine p_ tt_ok Tryz.func152 19 fun w0 h0 F hgs=>?_
 (refine y_ ?_;refine A.valE 7 rfl (x':=AI (l.length:Nat)) (ai_eq (by rw [List.length_map])) ?_)
 refine A.keep [0,1,7,8] rfl ?_
 refine A.loopP (ι:=Nat) (fun i=>(⟨[(0,varsA l),(1, .fn f [] c),(7,AI (l.length:Nat)),(8,AI (i:Int))],[]⟩,[])) (fun i=>i≤l.length∧idxF p l 0=idxF p (l.drop i) i) (fun i=>l.length-i) 0 ⟨by omega,rfl⟩ rfl fun i hi ih=>?_
 refine y_ ?_
 refine k_ (fun hc=>?_) fun hc=>?_
 ·simp at hc
  refine Exists.elim (at_exN (l:=l) (i:=i) hc) fun x hx=>?_
  refine y_ ?_
  refine i_ rfl (map_at hx) rfl ?_
  refine A.c rfl (hcb x) SbL.refl ?_
  have h1:=hi.2
  rw [drop_at hx,idxF] at h1
  cases hp:p x with
  |true=>
   rw [hp] at h1
   refine y_ ?_;refine R_ ?_;rw [h1];exact .refl
  |false=>
   rw [hp] at h1
   refine y_ ?_
   refine A.valE 8 rfl (x':=AI ((i+1:Nat):Int)) (inc_eq i (by omega)) ?_
   refine u_ (ih (i+1) ⟨by omega,h1⟩ (by omega))
 ·simp at hc
  have:i=l.length:=by omega
  subst this
  refine y_ ?_;refine R_ ?_;rw [hi.2,List.drop_length];exact .refl
theorem hasV_p(f:FuncId)(c:List AV)(p:KV→Bool)(hcb: ∀x,Pure Tryz.prog gs0 f (encV x::c) (AB (p x)))(l:List KV)(hb:l.length≤281474976710656):
 Pure Tryz.prog gs0 126 [varsA l, .fn f [] c] (AB (l.any p)):=by
 refine p_ tt_ok Tryz.func126 9 fun w0 h0 F hgs=>?_
 refine y_ ?_
 refine c_ (idxV_p f c p hcb l hb) ?_;refine R_ ?_;refine Sb.eq (ab_eq ?_);exact idxF_any p l 0
theorem sounds1_p(v:KV):Pure Tryz.prog gs0 127 [encV v] (AB (!soundB v)):=by
 refine p_ tt_ok Tryz.func127 6 fun w0 h0 F hgs=>?_
 (refine b_ fun bx=>?_;refine y_ ?_);exact cr_ (sound_p v)
def soundsB(l:List KV):Bool:=decide (l.length≤256)&& !l.any (fun v=> !soundB v)
theorem sounds_p(l:List KV)(hb:l.length≤281474976710656):Pure Tryz.prog gs0 73 [varsA l] (AB (soundsB l)):=by
 have hl:((l.map encV).length:Int)=l.length:=by rw [List.length_map]
 by_cases h:l.length≤256
 ·refine p_ tt_ok Tryz.func73 11 fun w0 h0 F hgs=>?_
  refine g_ ?_
  refine A.valE 6 rfl (x':=AB true) (ab_eq (by simp;omega)) ?_
  refine c_ (hasV_p _ [] _ sounds1_p l hb) ?_;refine R_ ?_;refine Sb.eq (ab_eq ?_);simp [soundsB,h]
 ·refine p_ tt_ok Tryz.func73 11 fun w0 h0 F hgs=>?_
  refine g_ ?_
  refine e_ 6 rfl (x':=AB false) (ab_eq (by simp;omega)) ?_;refine R_ ?_;refine Sb.eq (ab_eq ?_);simp [soundsB,h]
theorem may1_p(v:KV)(x:Int):Pure Tryz.prog gs0 110 [AI32 x, .pe 2 (encV v)] (AB (!fitsB v.kind x)):=by
 refine p_ tt_ok Tryz.func110 9 fun w0 h0 F hgs=>?_
 refine y_ ?_;exact cr_ (fits_p _ _)
def longI(v:KV):Int:=if v.dim<1 then 1 else v.dim
def mayRow(v:KV)(r:List Int):Bool:=(r.length:Int)==longI v&& !r.any (fun x=> !fitsB v.kind x)
def mayB(l:List KV)(s:List (List Int)):Bool:=decide (s.length=l.length)&&soundsB l&&allEq mayRow l s l.length
def storeM(l:List KV):List (List Int):=l.map fun v=>List.replicate (longI v).toNat 0
def closV(b1 b2:Nat):AV:= .fn 167 [] [.v (.pointer (some ⟨b1,0,none⟩)), .v (.pointer (some ⟨b2,0,none⟩))]
abbrev walkX(e:KE)(left deep:Int):Int→AV:=fun _=>AB (decide (fits e left (33-deep)))
abbrev walkL(b1 b2:Nat):Int→List AEnt:=fun i=>[.box b1 (AI i), .box b2 (closV b1 b2)]
abbrev walkP(e:KE)(left deep:Int):Int→Prop:=fun i=>fits e left (33-deep)→i=left-sz e
theorem pe_enc{z:Nat}(a:KE):AV.pe z (encK a)= .pe z (.ag [AU8 a.kind,AU8 a.oper,AU8 a.to,AI32 a.n,AI a.v, .sl 6 (encKl a.l) none]):=by rw [encK_eq]
theorem walkV(b1 b2:Nat): ∀(N:Nat) (e:KE) (left deep:Int),sz e≤N→wfK e→0≤left→left≤256→1≤deep→deep≤33→
 FunE Tryz.prog gs0 167 [encK e,AI deep, .v (.pointer (some ⟨b1,0,none⟩)), .v (.pointer (some ⟨b2,0,none⟩))] [.box b1 (AI left), .box b2 (closV b1 b2)] (walkX e left deep) (walkL b1 b2) (walkP e left deep)
 |0,e,left,deep,hn,_,_,_,_,_=>by have:=sz_pos e;omega
 |N+1,e,left,deep,hn,hw,r0,r1,d0,d1=>by
  have hw1:IntKind.i64.wrap (left-1)=left-1:=wr64 _ (by omega)
  have hp:=plain_p e hw
  rw [encK_eq] at hp⊢
  unfold FunE
  by_cases hz:left=0∨deep=33
  ·have hnf: ¬fits e left (33-deep):=fits_not (by omega)
   refine Fun.of (S:=tt) (fn:=Tryz.f167) (n:=36) tt_ok Tryz.func167 rfl rfl rfl rfl fun w0 h0 F hgs=>?_
   (refine gb_ fun bx=>?_;refine g_ ?_)
   refine e_ 17 rfl (x':=AB true) (ab_eq (by rw [hw1];simp;omega)) ?_;(refine A.ret1 (Λ':=[.box b1 _, .box b2 _]) rfl rfl rfl sl_ ⟨_,Sb.eq (ab_eq ?_),rfl,?_⟩;exact (decide_eq_false hnf).symm;exact fun h=>absurd h hnf)
  have hw2:IntKind.i64.wrap (deep+1)=deep+1:=wr64 _ (by omega)
  have h17: ∀b:Bool,(bif decide (IntKind.i64.wrap (left-1)<0) then true else decide (32<deep))=b→b=false:=by intro b hb;subst hb;rw [hw1];simp;omega
  by_cases hs:shapeB e=true
  case neg=>
   have hs:shapeB e=false:=by simpa using hs
   have hnf: ¬fits e left (33-deep):=fits_not (by simp [hs])
   refine Fun.of (S:=tt) (fn:=Tryz.f167) (n:=36) tt_ok Tryz.func167 rfl rfl rfl rfl fun w0 h0 F hgs=>?_
   (refine gb_ fun bx=>?_;refine g_ ?_)
   refine A.valE 17 rfl (x':=AB false) (ab_eq (h17 _ rfl)) ?_
   refine n_ (hp) ?_
   refine e_ 19 rfl (x':=AB false) (ab_eq hs) ?_;(refine A.ret1 (Λ':=[.box b1 _, .box b2 _]) rfl rfl rfl sl_ ⟨_,Sb.eq (ab_eq ?_),rfl,?_⟩;exact (decide_eq_false hnf).symm;exact fun h=>absurd h hnf)
  rcases shape_cases hs with ⟨k,o,t,n,v,rfl⟩|⟨k,o,t,n,v,a,rfl⟩|⟨k,o,t,n,v,a,b,rfl⟩
  ·simp only [encKl] at hp⊢
   have hf:=(fits0 (room:=left) (deep:=33-deep) hs).2 (by omega)
   refine Fun.of (S:=tt) (fn:=Tryz.f167) (n:=36) tt_ok Tryz.func167 rfl rfl rfl rfl fun w0 h0 F hgs=>?_
   (refine gb_ fun bx=>?_;refine g_ ?_)
   refine A.valE 17 rfl (x':=AB false) (ab_eq (h17 _ rfl)) ?_
   refine n_ (hp) ?_
   refine e_ 19 rfl (x':=AB true) (ab_eq hs) ?_
   refine A.loop1 ?_
   refine y_ ?_
   refine A.ret1 (Λ':=[.box b1 _, .box b2 _]) rfl rfl rfl sl_ ⟨_,Sb.eq (ab_eq ?_),rfl,?_⟩
   ·exact (decide_eq_true hf).symm
   ·intro _;simp [sz,szl,hw1]
  ·simp only [encKl] at hp⊢
   simp only [sz,szl] at hn
   have hf:=fits1 (room:=left) (deep:=33-deep) hs
   have ih:=walkV b1 b2 N a (IntKind.i64.wrap (left-1)) (deep+1) (by omega) (wfK1 hw) (by omega) (by omega) (by omega) (by omega)
   rw [encK_eq] at ih
   refine Fun.of (S:=tt) (fn:=Tryz.f167) (n:=36) tt_ok Tryz.func167 rfl rfl rfl rfl fun w0 h0 F hgs=>?_
   (refine gb_ fun bx=>?_;refine g_ ?_)
   refine A.valE 17 rfl (x':=AB false) (ab_eq (h17 _ rfl)) ?_
   refine n_ (hp) ?_
   refine e_ 19 rfl (x':=AB true) (ab_eq hs) ?_
   refine A.loop1 ?_
   refine y_ ?_
   refine j_ rfl rfl rfl ?_
   refine A.valE 27 rfl (pe_enc a) ?_
   (refine b_ fun bx=>?_;refine y_ ?_)
   refine A.valE 32 rfl (x':=AI (deep+1)) (ai_eq hw2) ?_
   refine A.e rfl ih .refl (List.perm_append_comm (l₁:=[_,_]) (l₂:=[_,_])) fun lf hlf=>?_
   refine y_ ?_
   have e3:33-deep-1=33-(deep+1):=by omega
   rw [e3] at hf
   rw [hw1] at hlf
   refine k_ (fun hc=>?_) fun hc=>?_
   ·simp [hw1] at hc
    have hnf: ¬fits ⟨k,o,t,n,v,[a]⟩ left (33-deep):=fun h=>hc (hf.1 h)
    refine y_ ?_;(refine A.ret1 (Λ':=[.box b1 _, .box b2 _]) rfl rfl rfl sl_ ⟨_,Sb.eq (ab_eq ?_),rfl,?_⟩;exact (decide_eq_false hnf).symm;exact fun h=>absurd h hnf)
   ·simp [hw1] at hc
    refine y_ ?_;refine A.again ?_;refine y_ ?_;refine A.ret1 (Λ':=[.box b1 _, .box b2 _]) rfl rfl rfl sl_ ⟨_,Sb.eq (ab_eq ?_),rfl,?_⟩
    ·exact (decide_eq_true (hf.2 hc)).symm
    ·intro _;have:=hlf hc;simp [sz,szl];omega
  ·simp only [encKl] at hp⊢
   simp only [sz,szl] at hn
   have hf:=fits2 (room:=left) (deep:=33-deep) hs
   have ha:=sz_pos a
   have hb:=sz_pos b
   have ih:=walkV b1 b2 N a (IntKind.i64.wrap (left-1)) (deep+1) (by omega) (wfK2 hw).1 (by omega) (by omega) (by omega) (by omega)
   have e3:33-deep-1=33-(deep+1):=by omega
   rw [e3] at hf
   rw [encK_eq] at ih
   refine Fun.of (S:=tt) (fn:=Tryz.f167) (n:=36) tt_ok Tryz.func167 rfl rfl rfl rfl fun w0 h0 F hgs=>?_
   (refine gb_ fun bx=>?_;refine g_ ?_)
   refine A.valE 17 rfl (x':=AB false) (ab_eq (h17 _ rfl)) ?_
   refine n_ (hp) ?_
   refine e_ 19 rfl (x':=AB true) (ab_eq hs) ?_
   refine A.loop1 ?_
   refine y_ ?_
   refine j_ rfl rfl rfl ?_
   refine A.valE 27 rfl (pe_enc a) ?_
   (refine b_ fun bx=>?_;refine y_ ?_)
   refine A.valE 32 rfl (x':=AI (deep+1)) (ai_eq hw2) ?_
   refine A.e rfl ih .refl (List.perm_append_comm (l₁:=[_,_]) (l₂:=[_,_])) fun lf hlf=>?_
   refine l_ (Λ':=[.box b1 (AI lf), .box b2 (closV b1 b2)]) ?_
   refine y_ ?_
   rw [hw1] at hlf
   refine k_ (fun hc=>?_) fun hc=>?_
   ·simp [hw1] at hc
    have hnf: ¬fits ⟨k,o,t,n,v,[a,b]⟩ left (33-deep):=fun h=>hc (hf.1 h).1
    refine y_ ?_;(refine A.ret1 (Λ':=[.box b1 _, .box b2 _]) rfl rfl rfl sl_ ⟨_,Sb.eq (ab_eq ?_),rfl,?_⟩;exact (decide_eq_false hnf).symm;exact fun h=>absurd h hnf)
   simp [hw1] at hc
   have hlf:=hlf hc
   have h2:=hc.2.1
   have ih2:=walkV b1 b2 N b lf (deep+1) (by omega) (wfK2 hw).2 (by omega) (by omega) (by omega) (by omega)
   rw [encK_eq] at ih2
   refine y_ ?_;refine A.again ?_;refine y_ ?_
   refine j_ rfl rfl rfl ?_
   refine A.valE 27 rfl (pe_enc b) ?_
   (refine b_ fun bx=>?_;refine y_ ?_)
   refine A.valE 32 rfl (x':=AI (deep+1)) (ai_eq hw2) ?_
   refine A.e rfl ih2 .refl (List.perm_append_comm (l₁:=[_]) (l₂:=[_,_])) fun lf2 hlf2=>?_
   have e4:left-(1+(sz a:Int))=lf:=by omega
   rw [e4] at hf
   refine y_ ?_
   refine k_ (fun hc=>?_) fun hc=>?_
   ·simp at hc
    have hnf: ¬fits ⟨k,o,t,n,v,[a,b]⟩ left (33-deep):=fun h=>hc (hf.1 h).2
    refine y_ ?_;(refine A.ret1 (Λ':=[.box b1 _, .box b2 _]) rfl rfl rfl sl_ ⟨_,Sb.eq (ab_eq ?_),rfl,?_⟩;exact (decide_eq_false hnf).symm;exact fun h=>absurd h hnf)
   ·rename_i hca
    simp at hc
    refine y_ ?_;refine A.again ?_;refine y_ ?_;refine A.ret1 (Λ':=[.box b1 _, .box b2 _]) rfl rfl rfl sl_ ⟨_,Sb.eq (ab_eq ?_),rfl,?_⟩
    ·exact (decide_eq_true (hf.2 ⟨hca,hc⟩)).symm
    ·intro _;have:=hlf2 hc;simp [sz,szl];omega
theorem evalid_p(e:KE)(hw:wfK e):Pure Tryz.prog gs0 155 [encK e] (AB (decide (valid e))):=by
 have hp:=fun b1 b2=>walkV b1 b2 (sz e) e 256 1 (Nat.le_refl _) hw (by decide) (by decide) (by decide) (by decide)
 simp only [encK_eq e] at hp
 rw [encK_eq]
 refine p_ tt_ok Tryz.func155 9 fun w0 h0 F hgs=>?_
 (refine b_ fun bx=>?_;refine b_ fun bx=>?_;refine b_ fun bx=>?_;refine y_ ?_)
 refine A.e rfl (hp _ _) .refl (List.Perm.swap _ _ _) fun lf _=>?_
 exact yr_
abbrev FK:=Int→Bool
def fitC(l:List KV)(k o t n v:Int)(fs:List FK)(kind:Int):Bool:=
 if k=1 then (kind==1||(kind==2&&decide (0≤n)&&decide (n≤255))||(kind==3&&(n==0||n==1)))
 else if k=2 then (match l[v.toNat]? with|some x=>x.dim==0&&x.kind==kind|none=>false)
 else if k=3 then (match l[v.toNat]?,fs with|some x,f::_=>decide (0<x.dim)&&x.kind==kind&&f 1|_,_=>false)
 else match fs with
 | []=>false
 |f::r=>if k=6 then t==kind&&(f 1||f 2||f 3)
  else if k=4 then (if o=26 then kind==3&&f 3 else kind==1&&f 1)
  else match r with
  | []=>false
  |g::_=>if o≤13 then kind==1&&(f 1&&g 1) else if kind≠3 then false
   else if o=14∨o=15 then (f 1&&g 1)||(f 2&&g 2)||(f 3&&g 3)
   else if o≤19 then (f 1&&g 1)||(f 2&&g 2)
   else if o=22 then f 1&&g 1 else f 3&&g 3
mutual
def fitsM(l:List KV):KE→FK
 |⟨k,o,t,n,v,a⟩=>fitC l k o t n v (fitsL l a)
def fitsL(l:List KV):List KE→List FK
 | []=>[]
 |e::r=>fitsM l e::fitsL l r
end
def primB(k:Int):Bool:=decide (1≤k)&&decide (k≤3)
theorem kprim_p(k:Int):Pure Tryz.prog gs0 71 [AU8 k] (AB (primB k)):=by
 refine p_ tt_ok Tryz.func71 9 fun w0 h0 F hgs=>?_
 refine y_ ?_
 ((fail_if_success (refine A.lit? rfl ?_));refine A.gS rfl (fun hc=>?_) (fun hc=>?_))
 ·refine y_ ?_;refine R_ ?_;refine Sb.eq (ab_eq ?_);rw [primB,hc];rfl
 ·refine y_ ?_;refine R_ ?_;refine Sb.eq (ab_eq ?_);rw [primB,hc];rfl
theorem fields_p(e:KE)(hw:wfK e):Pure Tryz.prog gs0 180 [encK e] (AB (shapeB e)):=by
 obtain ⟨k,o,t,n,v,l⟩:=e
 simp only [wfK,u8,i32,i64] at hw
 obtain ⟨hw,_⟩:=hw
 rw [encK]
 by_cases h1:k=1
 ·subst h1;refine p_ tt_ok Tryz.func180 87 fun w0 h0 F hgs=>?_
  (refine gb_ fun bx=>?_;refine gb_ fun bx=>?_;refine g_ ?_);refine R_ ?_;(refine Sb.eq (ab_iff ?_);simp only [shapeB,KE.kind,KE.oper,KE.to,KE.n,KE.v,KE.l,encKl_len];generalize l.length=len at*;(try simp at hc);(try simp at hd);simp;omega)
 by_cases h2:k=2
 ·subst h2;refine p_ tt_ok Tryz.func180 87 fun w0 h0 F hgs=>?_
  (refine gb_ fun bx=>?_;refine gb_ fun bx=>?_;refine g_ ?_);refine R_ ?_;(refine Sb.eq (ab_iff ?_);simp only [shapeB,KE.kind,KE.oper,KE.to,KE.n,KE.v,KE.l,encKl_len];generalize l.length=len at*;(try simp at hc);(try simp at hd);simp;omega)
 by_cases h3:k=3
 ·subst h3;refine p_ tt_ok Tryz.func180 87 fun w0 h0 F hgs=>?_
  (refine gb_ fun bx=>?_;refine gb_ fun bx=>?_;refine g_ ?_);refine R_ ?_;(refine Sb.eq (ab_iff ?_);simp only [shapeB,KE.kind,KE.oper,KE.to,KE.n,KE.v,KE.l,encKl_len];generalize l.length=len at*;(try simp at hc);(try simp at hd);simp;omega)
 by_cases h4:k=4
 ·subst h4;refine p_ tt_ok Tryz.func180 87 fun w0 h0 F hgs=>?_
  (refine gb_ fun bx=>?_;refine gb_ fun bx=>?_;refine g_ ?_);refine R_ ?_;(refine Sb.eq (ab_iff ?_);simp only [shapeB,KE.kind,KE.oper,KE.to,KE.n,KE.v,KE.l,encKl_len];generalize l.length=len at*;(try simp at hc);(try simp at hd);simp;omega)
 by_cases h5:k=5
 ·subst h5;refine p_ tt_ok Tryz.func180 87 fun w0 h0 F hgs=>?_
  (refine gb_ fun bx=>?_;refine gb_ fun bx=>?_;refine g_ ?_);refine R_ ?_;(refine Sb.eq (ab_iff ?_);simp only [shapeB,KE.kind,KE.oper,KE.to,KE.n,KE.v,KE.l,encKl_len];generalize l.length=len at*;(try simp at hc);(try simp at hd);simp;omega)
 by_cases h6:k=6
 ·subst h6;refine p_ tt_ok Tryz.func180 87 fun w0 h0 F hgs=>?_
  (refine gb_ fun bx=>?_;refine gb_ fun bx=>?_;refine g_ ?_);refine n_ (kprim_p _) ?_;refine g_ ?_;refine R_ ?_
  refine Sb.eq (ab_iff ?_);simp only [shapeB,primB,KE.kind,KE.oper,KE.to,KE.n,KE.v,KE.l,encKl_len];generalize l.length=len at*;simp;omega
 refine p_ tt_ok Tryz.func180 87 fun w0 h0 F hgs=>?_
 (repeat (first|first|refine A.s rfl ?_|refine A.r rfl rfl ?_|refine A.w rfl rfl ?_|refine A.p rfl ?_|refine A.b rfl fun bx=>?_|refine A.t rfl fun bl=>?_|refine A.cond rfl (fun h=>(by simp at h;omega)) (fun _=>?_)|first|refine A.step rfl ?_|refine A.v rfl rfl ?_));refine R_ ?_;refine Sb.eq ?_;simp [shapeB, *]
def fitsKl(l:List KE)(room deep:Int):Prop:=finel l=true∧(szl l:Int)≤room∧(htl l:Int)≤deep
instance (l:List KE) (room deep:Int):Decidable (fitsKl l room deep):=by unfold fitsKl;infer_instance
theorem sz_eq(e:KE):sz e=1+szl e.l:=by obtain ⟨k,o,t,n,v,l⟩:=e;rw [sz]
theorem fine_eq(e:KE):fine e=(shapeB e&&finel e.l):=by obtain ⟨k,o,t,n,v,l⟩:=e;rw [fine]
theorem fits_l{e:KE}{room deep:Int}(hr:1≤room)(hd:1≤deep)(hs:shapeB e=true):fits e room deep↔fitsKl e.l (room-1) (deep-1):=by
 unfold fits fitsKl
 rw [fine_eq,hs,Bool.true_and,sz_eq,ht_eq]
 constructor
 ·rintro ⟨h1,h2,h3⟩;exact ⟨h1,by omega,by omega⟩
 ·rintro ⟨h1,h2,h3⟩;exact ⟨h1,by omega,by omega⟩
theorem szl_append(a b:List KE):szl (a++b)=szl a+szl b:=by
 induction a with
 |nil=>simp [szl]
 |cons x r ih=>rw [List.cons_append,szl,szl,ih];omega
theorem htl_append(a b:List KE):htl (a++b)=max (htl a) (htl b):=by
 induction a with
 |nil=>simp [htl]
 |cons x r ih=>rw [List.cons_append,htl,htl,ih];omega
theorem finel_append(a b:List KE):finel (a++b)=(finel a&&finel b):=by
 induction a with
 |nil=>simp [finel]
 |cons x r ih=>rw [List.cons_append,finel,finel,ih,Bool.and_assoc]
theorem fitsKl_snoc{a:List KE}{x:KE}{room deep:Int}(ha:fitsKl a room deep):fitsKl (a++[x]) room deep↔fits x (room-szl a) deep:=by
 obtain ⟨h1,h2,h3⟩:=ha
 unfold fitsKl fits
 rw [finel_append,szl_append,htl_append,h1,Bool.true_and]
 simp only [finel,szl,htl,Bool.and_true]
 constructor
 ·rintro ⟨g1,g2,g3⟩;exact ⟨g1,by omega,by omega⟩
 ·rintro ⟨g1,g2,g3⟩;exact ⟨g1,by omega,by omega⟩
theorem fitsKl_take{l:List KE}{room deep:Int}(h:fitsKl l room deep)(i:Nat):fitsKl (l.take i) room deep:=by
 obtain ⟨h1,h2,h3⟩:=h
 rw [←List.take_append_drop i l] at h1 h2 h3
 rw [finel_append,Bool.and_eq_true] at h1
 rw [szl_append] at h2
 rw [htl_append] at h3
 exact ⟨h1.1,by omega,by omega⟩
theorem szl_le: ∀{l:List KE} {x:KE},x∈l→sz x≤szl l
 | [],_,h=>by cases h
 |y::r,x,h=>by
  rw [szl]
  rcases List.mem_cons.1 h with rfl|h
  ·omega
  ·have:=szl_le h;omega
theorem wfKl_mem: ∀{l:List KE},wfKl l→ ∀x,x∈l→wfK x
 | [],_,x,h=>by cases h
 |y::r,hw,x,h=>by
  rw [wfKl] at hw
  rcases List.mem_cons.1 h with rfl|h
  ·exact hw.1
  ·exact wfKl_mem hw.2 x h
theorem wfK_l{e:KE}(h:wfK e):wfKl e.l:=by obtain ⟨k,o,t,n,v,l⟩:=e;rw [wfK] at h;exact h.2
theorem encKl_at{l:List KE}{i:Nat}{x:KE}(h:l[i]? =some x):(encKl l)[i]? =some (encK x):=by rw [encKl_map];exact map_at h
abbrev cellsK(e:KE):AV:= .ag [AU8 e.kind,AU8 e.oper,AU8 e.to,AI32 e.n,AI e.v, .sl 6 (encKl e.l) none]
abbrev ptrA(b:Nat):AV:= .v (.pointer (some ⟨b,0,none⟩))
def closK(b1 b2:Nat):AV:= .fn 179 [] [ptrA b1,ptrA b2]
abbrev visKX(e:KE)(left deep:Int):Int→AV:=fun _=>AB (decide (fits e left (33-deep)))
abbrev visKL(b1 b2:Nat):Int→List AEnt:=fun i=>[.box b1 (AI i), .box b2 (closK b1 b2)]
abbrev visKP(e:KE)(left deep:Int):Int→Prop:=fun i=>fits e left (33-deep)→i=left-sz e
def VisK(b1 b2:Nat)(x:KE)(left deep:Int):Prop:=FunE Tryz.prog gs0 179 [cellsK x,AI deep,ptrA b1,ptrA b2] [.box b1 (AI left), .box b2 (closK b1 b2)] (visKX x left deep) (visKL b1 b2) (visKP x left deep)
theorem cloK_p(b1 b2 b3:Nat)(x:KE)(left deep:Int)(hd:IntKind.i64.wrap (deep+1)=deep+1)(hcb:VisK b1 b2 x left (deep+1)):
 FunE Tryz.prog gs0 182 [cellsK x,ptrA b2,ptrA b3] [.box b1 (AI left), .box b2 (closK b1 b2), .box b3 (AI deep)] (fun _:Int=>AB (!decide (fits x left (33-(deep+1))))) (fun i=>[.box b1 (AI i), .box b2 (closK b1 b2), .box b3 (AI deep)]) (visKP x left (deep+1)):=by
 unfold FunE
 refine Fun.of (S:=tt) (fn:=Tryz.f182) (n:=11) tt_ok Tryz.func182 rfl rfl rfl rfl fun w0 h0 F hgs=>?_
 (refine b_ fun bx=>?_;refine y_ ?_)
 refine A.valE 8 rfl (x':=AI (deep+1)) (ai_eq hd) ?_
 refine A.e rfl hcb .refl (List.perm_middle (a:=_) (l₁:=[_,_]) (l₂:=[_])).symm fun lf hlf=>?_
 refine y_ ?_
 refine A.ret1 (Λ':=[.box b1 _, .box b2 _, .box b3 _]) rfl rfl rfl sl_ ⟨lf, .refl,rfl,hlf⟩
abbrev idxKP(l:List KE)(left D:Int):Int×Int→Prop:=fun p=>(p.1= -1∨0≤p.1)∧(p.1= -1↔fitsKl l left D)∧(p.1= -1→p.2=left-szl l)
theorem idxK_p(b1 b2 b3:Nat)(l:List KE)(left deep:Int)(hd:IntKind.i64.wrap (deep+1)=deep+1)(hl:l.length≤2)(h0:0≤left)(h33:0≤33-(deep+1))
 (hcb: ∀x,x∈l→ ∀lf,0≤lf→lf≤left→VisK b1 b2 x lf (deep+1)):
 FunE Tryz.prog gs0 204 [.sl 6 (encKl l) none, .fn 182 [] [ptrA b2,ptrA b3]] [.box b1 (AI left), .box b2 (closK b1 b2), .box b3 (AI deep)]
  (fun p:Int×Int=>AI p.1) (fun p=>[.box b1 (AI p.2), .box b2 (closK b1 b2), .box b3 (AI deep)]) (idxKP l left (33-(deep+1))):=by
 unfold FunE
 refine Fun.of (S:=tt) (fn:=Tryz.f204) (n:=19) tt_ok Tryz.func204 rfl rfl rfl rfl fun w0 h0 F hgs=>?_
 refine y_ ?_
 refine A.valE 7 rfl (x':=AI (l.length:Nat)) (ai_eq (by rw [encKl_len])) ?_
 refine A.entsEq (Λ':=[.box b1 (AI (left-(szl (l.take 0):Nat))), .box b2 (closK b1 b2), .box b3 (AI deep)]) (by simp [szl]) ?_
 refine A.keep [0,1,7,8] rfl ?_
 refine A.loopP (ι:=Nat×Int) (fun p=>(⟨[(0, .sl 6 (encKl l) none),(1, .fn 182 [] [ptrA b2,ptrA b3]),(7,AI (l.length:Nat)),(8,AI (p.1:Nat))],[]⟩,[.box b1 (AI p.2), .box b2 (closK b1 b2), .box b3 (AI deep)]))
  (fun p=>p.1≤l.length∧fitsKl (l.take p.1) left (33-(deep+1))∧p.2=left-(szl (l.take p.1):Nat)) (fun p=>l.length-p.1) (0,left-(szl (l.take 0):Nat)) ⟨Nat.zero_le _,⟨by simp [finel],by simp [szl];omega,by simp [htl];omega⟩,rfl⟩ rfl fun p hi ih=>?_
 obtain ⟨i,lf⟩:=p
 obtain ⟨hi1,hi2,hi3⟩:=hi
 simp only at hi1 hi2 hi3
 have hsz2:=hi2.2.1
 refine y_ ?_
 refine k_ (fun hc=>?_) fun hc=>?_
 ·simp at hc
  refine Exists.elim (at_exN (l:=l) (i:=i) (by omega)) fun x hx=>?_
  have hxm:=List.mem_of_getElem? hx
  have htk:l.take (i+1)=l.take i++[x]:=by rw [List.take_add_one,hx];rfl
  have hsn:=fitsKl_snoc (x:=x) hi2
  rw [←htk,←hi3] at hsn
  have hcx:=cloK_p b1 b2 b3 x lf deep hd (hcb x hxm lf (by omega) (by omega))
  refine y_ ?_
  refine i_ rfl (encKl_at hx) (encK_eq x) ?_
  refine A.e rfl hcx .refl (by exact List.Perm.refl _) fun lf2 hlf2=>?_
  by_cases hfx:fits x lf (33-(deep+1))
  ·refine e_ 16 rfl (x':=AB false) (ab_eq (by simp [hfx])) ?_
   refine A.valE 8 rfl (x':=AI ((i+1:Nat):Int)) (inc_eq i (by omega)) ?_
   refine u_ (ih (i+1,lf2) ⟨by show i+1≤_;omega,hsn.2 hfx,?_⟩ (by show _-(i+1)<_-i;omega))
   show lf2=left-(szl (l.take (i+1)):Nat)
   rw [hlf2 hfx,htk,szl_append,hi3];simp [szl];omega
  ·have hnf: ¬fitsKl l left (33-(deep+1)):=fun hf=>hfx (hsn.1 (fitsKl_take hf (i+1)))
   refine e_ 16 rfl (x':=AB true) (ab_eq (by simp [hfx])) ?_
   refine A.ret1 (Λ':=[.box b1 _, .box b2 _, .box b3 _]) rfl rfl rfl sl_ ⟨((i:Int),lf2), .refl,rfl, .inr (by simp only;omega),⟨fun h=>by simp only at h;omega,fun h=>absurd h hnf⟩,fun h=>by simp only at h;omega⟩
 ·simp at hc
  have hil:i=l.length:=by omega
  rw [hil,List.take_length] at hi2 hi3
  refine y_ ?_
  refine A.ret1 (Λ':=[.box b1 _, .box b2 _, .box b3 _]) rfl rfl rfl sl_ ⟨((-1:Int),lf), .refl,rfl, .inl rfl,⟨fun _=>hi2,fun _=>rfl⟩,fun _=>hi3⟩
theorem hasK_p(b1 b2 b3:Nat)(l:List KE)(left deep:Int)(hd:IntKind.i64.wrap (deep+1)=deep+1)(hl:l.length≤2)(h0:0≤left)(h33:0≤33-(deep+1))
 (hcb: ∀x,x∈l→ ∀lf,0≤lf→lf≤left→VisK b1 b2 x lf (deep+1)):
 FunE Tryz.prog gs0 181 [.sl 6 (encKl l) none, .fn 182 [] [ptrA b2,ptrA b3]] [.box b1 (AI left), .box b2 (closK b1 b2), .box b3 (AI deep)]
  (fun p:Int×Int=>AB (decide (0≤p.1))) (fun p=>[.box b1 (AI p.2), .box b2 (closK b1 b2), .box b3 (AI deep)]) (idxKP l left (33-(deep+1))):=by
 have hi:=idxK_p b1 b2 b3 l left deep hd hl h0 h33 hcb
 unfold FunE
 refine Fun.of (S:=tt) (fn:=Tryz.f181) (n:=9) tt_ok Tryz.func181 rfl rfl rfl rfl fun w0 h0 F hgs=>?_
 refine y_ ?_
 refine A.e rfl hi .refl (by exact List.Perm.refl _) fun p hp=>?_
 refine y_ ?_
 refine A.ret1 (Λ':=[.box b1 _, .box b2 _, .box b3 _]) rfl rfl rfl sl_ ⟨p, .refl,rfl,hp⟩
theorem visK_p(b1 b2:Nat): ∀(N:Nat) (e:KE) (left deep:Int),sz e≤N→wfK e→0≤left→left≤256→1≤deep→deep≤33→VisK b1 b2 e left deep
 |0,e,left,deep,hn,_,_,_,_,_=>by have:=sz_pos e;omega
 |N+1,e,left,deep,hn,hw,r0,r1,d0,d1=>by
  have hw1:IntKind.i64.wrap (left-1)=left-1:=wr64 _ (by omega)
  have hw2:IntKind.i64.wrap (deep+1)=deep+1:=wr64 _ (by omega)
  have hp:=fields_p e hw
  rw [encK_eq] at hp
  unfold VisK FunE
  by_cases hz:left=0
  ·have hnf: ¬fits e left (33-deep):=fits_not (by omega)
   refine Fun.of (S:=tt) (fn:=Tryz.f179) (n:=25) tt_ok Tryz.func179 rfl rfl rfl rfl fun w0 h0 F hgs=>?_
   (refine b_ fun bx=>?_;refine b_ fun bx=>?_;refine y_ ?_)
   refine A.valE 10 rfl (x':=AB true) (ab_eq (by rw [hw1];simp;omega)) ?_
   refine e_ 11 rfl (x':=AB true) (ab_eq (by rw [hw1];simp;omega)) ?_;(refine A.ret1 (Λ':=[.box b1 _, .box b2 _]) rfl rfl rfl sl_ ⟨_,Sb.eq (ab_eq ?_),rfl,?_⟩;exact (decide_eq_false hnf).symm;exact fun h=>absurd h hnf)
  by_cases hd33:deep=33
  ·have hnf: ¬fits e left (33-deep):=fits_not (by omega)
   refine Fun.of (S:=tt) (fn:=Tryz.f179) (n:=25) tt_ok Tryz.func179 rfl rfl rfl rfl fun w0 h0 F hgs=>?_
   (refine b_ fun bx=>?_;refine b_ fun bx=>?_;refine y_ ?_)
   refine e_ 11 rfl (x':=AB false) (ab_eq (by rw [hw1];simp;omega)) ?_
   refine e_ 15 rfl (x':=AB true) (ab_eq (by simp;omega)) ?_;(refine A.ret1 (Λ':=[.box b1 _, .box b2 _]) rfl rfl rfl sl_ ⟨_,Sb.eq (ab_eq ?_),rfl,?_⟩;exact (decide_eq_false hnf).symm;exact fun h=>absurd h hnf)
  by_cases hs:shapeB e=true
  case neg=>
   have hs:shapeB e=false:=by simpa using hs
   have hnf: ¬fits e left (33-deep):=fits_not (by simp [hs])
   rw [hs] at hp
   refine Fun.of (S:=tt) (fn:=Tryz.f179) (n:=25) tt_ok Tryz.func179 rfl rfl rfl rfl fun w0 h0 F hgs=>?_
   (refine b_ fun bx=>?_;refine b_ fun bx=>?_;refine y_ ?_)
   refine e_ 11 rfl (x':=AB false) (ab_eq (by rw [hw1];simp;omega)) ?_
   refine e_ 15 rfl (x':=AB false) (ab_eq (by simp;omega)) ?_;refine c_ hp ?_;(refine A.ret1 (Λ':=[.box b1 _, .box b2 _]) rfl rfl rfl sl_ ⟨_,Sb.eq (ab_eq ?_),rfl,?_⟩;exact (decide_eq_false hnf).symm;exact fun h=>absurd h hnf)
  rw [hs] at hp
  have hfl:=fits_l (e:=e) (room:=left) (deep:=33-deep) (by omega) (by omega) hs
  rw [show 33-deep-1=33-(deep+1) by omega] at hfl
  have hll:e.l.length≤2:=by rcases shape_cases hs with ⟨k,o,t,n,v,rfl⟩|⟨k,o,t,n,v,a,rfl⟩|⟨k,o,t,n,v,a,b,rfl⟩<;>simp
  have hse:=sz_eq e
  have hhas:=fun b3=>hasK_p b1 b2 b3 e.l (left-1) deep hw2 hll (by omega) (by omega) fun x hx lf l0 l1=>visK_p b1 b2 N x lf (deep+1) (by have:=szl_le hx;omega) (wfKl_mem (wfK_l hw) x hx) l0 (by omega) (by omega) (by omega)
  refine Fun.of (S:=tt) (fn:=Tryz.f179) (n:=25) tt_ok Tryz.func179 rfl rfl rfl rfl fun w0 h0 F hgs=>?_
  (refine b_ fun bx=>?_;refine b_ fun bx=>?_;refine y_ ?_)
  refine e_ 11 rfl (x':=AB false) (ab_eq (by rw [hw1];simp;omega)) ?_
  refine e_ 15 rfl (x':=AB false) (ab_eq (by simp;omega)) ?_;refine c_ hp ?_
  refine A.entsEq (Λ':=[.box _ (AI deep), .box _ (cellsK e), .box b1 (AI (left-1)), .box b2 (closK b1 b2)]) (by rw [hw1]) ?_
  refine A.e (Λ2:=[.box _ (cellsK e)]) rfl (hhas _) .refl (List.perm_append_comm (l₁:=[_,_]) (l₂:=[_,_])) fun p hpp=>?_
  refine A.valE 23 rfl (x':=AB (decide (¬fits e left (33-deep)))) (ab_eq ?_) ?_
  ·rw [Bool.eq_iff_iff]
   simp only [decide_eq_true_eq,hfl,←hpp.2.1]
   have:=hpp.1
   constructor
   ·intro h;omega
   ·intro h;omega
  refine y_ ?_
  refine A.ret1 (Λ':=[.box b1 _, .box b2 _]) rfl rfl rfl sl_ ⟨p.2,Sb.eq (ab_eq (by simp)),rfl,fun h=>?_⟩
  have:=hpp.2.2 (hpp.2.1.2 (hfl.1 h))
  omega
theorem kvalid_p(e:KE)(hw:wfK e):Pure Tryz.prog gs0 172 [encK e] (AB (decide (valid e))):=by
 have hp:=fun b1 b2=>visK_p b1 b2 (sz e) e 256 1 (Nat.le_refl _) hw (by decide) (by decide) (by decide) (by decide)
 rw [encK_eq]
 refine p_ tt_ok Tryz.func172 9 fun w0 h0 F hgs=>?_
 (refine b_ fun bx=>?_;refine b_ fun bx=>?_;refine b_ fun bx=>?_;refine y_ ?_)
 refine A.e rfl (hp _ _) .refl (List.Perm.swap _ _ _) fun lf _=>?_
 exact yr_
abbrev AU64(n:Int):AV:= .v (.int .u64 n)
theorem au64_eq{a b:Int}(h:a=b):AU64 a=AU64 b:=by rw [h]
def kS(a b c:Bool):Int:=(if a then 2 else 0)+(if b then 4 else 0)+(if c then 8 else 0)
abbrev kF(f:FK):Int:=kS (f 1) (f 2) (f 3)
theorem kS_ones(a b c:Bool):bitsOf .and .u64 18446744073709551615 (kS a b c)=kS a b c:=by cases a<;>cases b<;>cases c<;>kernel_rfl
theorem kS_and(a b c a' b' c':Bool):bitsOf .and .u64 (kS a b c) (kS a' b' c')=kS (a&&a') (b&&b') (c&&c'):=by cases a<;>cases b<;>cases c<;>cases a'<;>cases b'<;>cases c'<;>kernel_rfl
def hasB(n k:Int):Bool:=bitsOf .and .u64 (arV .shr .u64 n k) 1==1
theorem has_1(a b c:Bool):hasB (kS a b c) 1=a:=by cases a<;>cases b<;>cases c<;>kernel_rfl
theorem has_2(a b c:Bool):hasB (kS a b c) 2=b:=by cases a<;>cases b<;>cases c<;>kernel_rfl
theorem has_3(a b c:Bool):hasB (kS a b c) 3=c:=by cases a<;>cases b<;>cases c<;>kernel_rfl
theorem kS_ne(a b c:Bool):(kS a b c !=0)=(a||b||c):=by cases a<;>cases b<;>cases c<;>rfl
theorem kS_6(a b c:Bool):(bitsOf .and .u64 (kS a b c) 6 !=0)=(a||b):=by cases a<;>cases b<;>cases c<;>kernel_rfl
def ofI(l:List Int):Int:=l.foldl (fun s k=>bitsOf .or .u64 s (arV .shl .u64 1 k)) 0
theorem has_p(n k:Int)(hk:0≤k∧k<64):Pure Tryz.prog gs0 174 [AU64 n,AU8 k] (AB (hasB n k)):=by
 refine p_ tt_ok Tryz.func174 10 fun w0 h0 F hgs=>?_
 refine y_ ?_
 refine A.shift rfl rfl rfl rfl rfl rfl (by omega) ?_
 exact yr_
theorem of_p(l:List Int)(hl: ∀k,k∈l→0≤k∧k<64)(hb:l.length≤10):Pure Tryz.prog gs0 184 [.sl 1 (l.map AU8) none] (AU64 (ofI l)):=by
 refine p_ tt_ok Tryz.func184 17 fun w0 h0 F hgs=>?_
 refine y_ ?_
 refine A.valE 6 rfl (x':=AI (l.length:Nat)) (ai_eq (by rw [List.length_map])) ?_
 refine A.keep [2,5,6,7] rfl ?_
 refine A.loopP (ι:=Nat×Int) (fun p=>(⟨[(2,AU64 p.2),(5, .sl 1 (l.map AU8) none),(6,AI (l.length:Nat)),(7,AI (p.1:Nat))],[]⟩,[])) (fun p=>p.1≤l.length∧(l.drop p.1).foldl (fun s k=>bitsOf .or .u64 s (arV .shl .u64 1 k)) p.2=ofI l) (fun p=>l.length-p.1) (0,0) ⟨by simp,rfl⟩ rfl fun p hi ih=>?_
 obtain ⟨i,s⟩:=p
 simp only at hi ih⊢
 refine y_ ?_
 refine k_ (fun hc=>?_) fun hc=>?_
 ·simp at hc
  refine Exists.elim (at_exN (l:=l) (i:=i) (by omega)) fun k hk=>?_
  have hkb:=hl k (List.mem_of_getElem? hk)
  have h1:=hi.2
  rw [drop_at hk,List.foldl_cons] at h1
  refine y_ ?_
  refine i_ rfl (map_at hk) rfl ?_
  refine A.shift rfl rfl rfl rfl rfl rfl (by omega) ?_
  refine y_ ?_
  refine A.valE 7 rfl (x':=AI ((i+1:Nat):Int)) (inc_eq i (by omega)) ?_
  refine u_ (ih (i+1,bitsOf .or .u64 s (arV .shl .u64 1 k)) ⟨by simp only;omega,h1⟩ (by simp only;omega))
 ·simp at hc
  have hil:i=l.length:=by omega
  have h1:=hi.2
  rw [hil,List.drop_length,List.foldl_nil] at h1
  refine y_ ?_;refine R_ ?_;rw [h1];exact .refl
abbrev isF(b:Bool)(k:Int):FK:=fun j=>b&&j==k
theorem when_p(b:Bool)(k:Int)(hk:1≤k∧k≤3):Pure Tryz.prog gs0 183 [AB b,AU8 k] (AU64 (kF (isF b k))):=by
 have ho:=of_p [k] (fun x hx=>by rw [List.mem_singleton.1 hx];omega) (by simp)
 cases b with
 |false=>
  refine p_ tt_ok Tryz.func183 9 fun w0 h0 F hgs=>?_
  exact yr_
 |true=>
  have he:ofI [k]=kF (isF true k):=by
   have:k=1∨k=2∨k=3:=by omega
   rcases this with rfl|rfl|rfl
   ·exact (show ofI [1]=kF (isF true 1) by kernel_rfl)
   ·exact (show ofI [2]=kF (isF true 2) by kernel_rfl)
   ·exact (show ofI [3]=kF (isF true 3) by kernel_rfl)
  rw [he] at ho
  refine p_ tt_ok Tryz.func183 9 fun w0 h0 F hgs=>?_
  refine t_ fun bl=>?_;exact cr_ ho
theorem shr_0(n:Int)(d:Nat)(hd:d<32):(arV .shr .i32 n (d:Int)==0)=decide (0≤n∧n<2^d):=by
 simp only [arV,show IntKind.i32.bits=32 from rfl,Int.toNat_natCast,Nat.min_eq_left (Nat.le_of_lt hd)]
 have h2:(0:Int)<2^d:=Int.pow_pos (by omega)
 rw [Int.fdiv_eq_ediv_of_nonneg _ (Int.le_of_lt h2),Bool.eq_iff_iff]
 simp only [beq_iff_eq,decide_eq_true_eq]
 constructor
 ·intro h
  have h3:=Int.emod_add_mul_ediv n (2^d)
  rw [h] at h3
  have h4:=Int.emod_nonneg n (Int.ne_of_gt h2)
  have h5:=Int.emod_lt_of_pos n h2
  omega
 ·rintro ⟨h3,h4⟩;exact Int.ediv_eq_zero_of_lt h3 h4
def numF(n:Int):FK:=fun k=>k==1||(k==2&&decide (0≤n)&&decide (n≤255))||(k==3&&(n==0||n==1))
theorem knumber_p(n:Int):Pure Tryz.prog gs0 185 [AI32 n] (AU64 (kF (numF n))):=by
 have o3:=of_p [1,2,3] (by decide) (by decide)
 have o2:=of_p [1,2] (by decide) (by decide)
 have o1:=of_p [1] (by decide) (by decide)
 have e1:=shr_0 n 1 (by decide)
 have e8:=shr_0 n 8 (by decide)
 by_cases h1:0≤n∧n<2
 ·have hk:ofI [1,2,3]=kF (numF n):=by
   have:n=0∨n=1:=by omega
   rcases this with rfl|rfl
   ·exact (show ofI [1,2,3]=kF (numF 0) by kernel_rfl)
   ·exact (show ofI [1,2,3]=kF (numF 1) by kernel_rfl)
  rw [hk] at o3
  refine p_ tt_ok Tryz.func185 17 fun w0 h0 F hgs=>?_
  refine y_ ?_
  refine A.shift rfl rfl rfl rfl rfl rfl (by omega) ?_
  refine y_ ?_
  refine A.valE 3 rfl (x':=AB true) (ab_eq (e1.trans (decide_eq_true h1))) ?_
  refine t_ fun bl=>?_;exact cr_ o3
 by_cases h2:0≤n∧n<256
 ·have hk:ofI [1,2]=kF (numF n):=by
   have:numF n 3=false:=by simp [numF];omega
   have h3:numF n 2=true:=by simp [numF];omega
   show _=kS (numF n 1) (numF n 2) (numF n 3)
   rw [this,h3];kernel_rfl
  rw [hk] at o2
  refine p_ tt_ok Tryz.func185 17 fun w0 h0 F hgs=>?_
  refine y_ ?_
  refine A.shift rfl rfl rfl rfl rfl rfl (by omega) ?_
  refine y_ ?_
  refine e_ 3 rfl (x':=AB false) (ab_eq (e1.trans (decide_eq_false (fun h=>h1 h)))) ?_
  refine A.shift rfl rfl rfl rfl rfl rfl (by omega) ?_
  refine y_ ?_
  refine A.valE 9 rfl (x':=AB true) (ab_eq (e8.trans (decide_eq_true h2))) ?_
  refine t_ fun bl=>?_;exact cr_ o2
 ·have hk:ofI [1]=kF (numF n):=by
   have:numF n 3=false:=by simp [numF];omega
   have h3:numF n 2=false:=by simp [numF];omega
   show _=kS (numF n 1) (numF n 2) (numF n 3)
   rw [this,h3];kernel_rfl
  rw [hk] at o1
  refine p_ tt_ok Tryz.func185 17 fun w0 h0 F hgs=>?_
  refine y_ ?_
  refine A.shift rfl rfl rfl rfl rfl rfl (by omega) ?_
  refine y_ ?_
  refine e_ 3 rfl (x':=AB false) (ab_eq (e1.trans (decide_eq_false (fun h=>h1 h)))) ?_
  refine A.shift rfl rfl rfl rfl rfl rfl (by omega) ?_
  refine y_ ?_
  refine A.valE 9 rfl (x':=AB false) (ab_eq (e8.trans (decide_eq_false (fun h=>h2 h)))) ?_
  refine t_ fun bl=>?_;exact cr_ o1
end Go.Proofs.YtpcloejpklkieaaGreat
