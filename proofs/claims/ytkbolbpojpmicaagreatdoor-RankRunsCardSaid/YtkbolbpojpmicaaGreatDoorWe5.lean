/-
  Texts TpT Q0 Q16a Q14a Q14b Q14c Q14d Q14v Q17a Q17e Q17f Q0i Q17g Q17b Q16b Q16c Q16d Q16e Q16f Q16g Q16h Q16i. Conditions: as each theorem says.
-/
import Derived.Test.YtkbolbpojpmicaaGreatDoorWe1
import Derived.Test.YtkbolbpojpmicaaGreatDoorChecked
import Derived.Test.YtkbolbpojpmicaaGreatDoorWe4
import Derived.Test.YtkbolbpojpmicaaGreatDoorWe3
import Derived.Test.YtkbolbpojpmicaaGreatDoorWe2
set_option linter.unusedVariables false
set_option linter.unusedSimpArgs false
set_option maxRecDepth 100000
set_option maxHeartbeats 4000000
open Go.Proofs.Tryz
open List renaming length_map→aa0,mem_of_getElem?→aa2,mem_cons_self→aa4,length_append→aa7,mem_cons→ab0,getElem?_eq_getElem→ab6,getElem?_map→ab9,take_length→ac4,take_add_one→ac6,drop_length→ad2,getElem?_eq_some_iff→ad3,length_replicate→ad4,cons_append→ae0,perm_append_comm→af6,map_set→ap0
open Bool renaming and_eq_true→aa1,true_and→ab3,eq_iff_iff→ab8,and_true→al1,and_comm→ap6,not_false→ar3,not_not→ar9
open Nat renaming le_refl→aa6,zero_le→ac0,sub_self→ah9,min_eq_left→ai3
open Exists renaming elim→ac7
open Int renaming toNat_natCast→ad9,fdiv_eq_ediv_of_nonneg→aj4,le_of_lt→as0,pow_pos→at0
open Go.IntKind renaming bits→ak8,wrap→aq4,signed→ar4
open Prod renaming snd→am7
namespace Go.Proofs.YtkbolbpojpmicaaGreatDoor
open Go Go.Tp
abbrev bG:Value:= .slice none 0 0
abbrev f9:Value:= .int .u8 0
abbrev cB:Value:= .int .i64 0
abbrev cN(n:String)(t o:Nat)(p:String)(b:Nat):Field:=⟨n,t,o,false, "",p,b⟩
abbrev dA(a b:Array Nat):TI:=⟨.func a b false,1,8,[.nilFunc],false⟩
theorem tk_{P:Program}{t:Nat}{d:TypeDesc}{sz bt:Nat}{zs:List Value}{ag:Bool}(hu:P.underlying t=some d:=by kernel_rfl)(hi:(P.info? t).map (fun i=>(i.zero.map fun z=>z.cells.toList,i.size,i.bytes))=some (some zs,sz,bt):=by kernel_rfl)(ha:PM d=ag:=by exact rfl)(hl:Nat.beq zs.length sz=true:=by exact rfl):TI.Ok P t ⟨d,sz,bt,zs,ag⟩:=TI.js hu hi ha hl
def ty2:TI:=⟨(.int IntKind.i64),1,8,[cB],false⟩
def ty3:TI:=⟨(.int IntKind.i64),1,8,[cB],false⟩
def ty4:TI:=⟨TypeDesc.bool,1,1,[(Value.bool false)],false⟩
def ty5:TI:=⟨(.int IntKind.u8),1,1,[f9],false⟩
def ty9:TI:=⟨TypeDesc.string,1,16,[(Value.string {data:= #[]})],false⟩
def ty12:TI:=⟨(.int IntKind.u64),1,8,[(Value.int IntKind.u64 0)],false⟩
def ty13:TI:=⟨(.struct #[cN "msg" 9 0 "runtime" 0,cN "addr" 12 1 "runtime" 16]),2,24,[(Value.string {data:= #[]}),(Value.int IntKind.u64 0)],true⟩
def ty20:TI:=⟨(.interface #[]),1,16,[Value.nilIface],false⟩
def ty21:TI:=⟨(.int IntKind.i32),1,4,[(Value.int IntKind.i32 0)],false⟩
def ty22:TI:=⟨(.slice 108),1,24,[bG],false⟩
def ty23:TI:=⟨(.slice 110),1,24,[bG],false⟩
def ty24:TI:=⟨(.int IntKind.u8),1,1,[f9],false⟩
def ty25:TI:=⟨(.int IntKind.u8),1,1,[f9],false⟩
def ty26:TI:=⟨(.slice 66),1,24,[bG],false⟩
def ty27:TI:=⟨(.slice 64),1,24,[bG],false⟩
def ty28:TI:=⟨(.slice 68),1,24,[bG],false⟩
def ty29:TI:=⟨(.slice 31),1,24,[bG],false⟩
def ty30:TI:=⟨(.struct #[cN "Kind" 24 0 "" 0,cN "C" 3 1 "" 8,cN "V" 3 2 "" 16,cN "Item" 25 3 "" 24,cN "To" 26 4 "" 32,cN "E" 27 5 "" 56,cN "Guards" 28 6 "" 80,cN "L" 29 7 "" 104]),8,128,[f9,cB,cB,f9,bG,bG,bG,bG],true⟩
def ty31:TI:=⟨(.struct #[cN "Kind" 24 0 "" 0,cN "C" 3 1 "" 8,cN "V" 3 2 "" 16,cN "Item" 25 3 "" 24,cN "To" 26 4 "" 32,cN "E" 27 5 "" 56,cN "Guards" 28 6 "" 80,cN "L" 29 7 "" 104]),8,128,[f9,cB,cB,f9,bG,bG,bG,bG],true⟩
def ty32:TI:=⟨(.slice 3),1,24,[bG],false⟩
def ty33:TI:=⟨(.struct #[cN "Vars" 22 0 "" 0,cN "Chans" 23 1 "" 24,cN "Root" 31 2 "" 48,cN "Procs" 32 10 "" 176]),11,200,[bG,bG,f9,cB,cB,f9,bG,bG,bG,bG,bG],true⟩
def ty34:TI:=⟨(.struct #[cN "Vars" 22 0 "" 0,cN "Chans" 23 1 "" 24,cN "Root" 31 2 "" 48,cN "Procs" 32 10 "" 176]),11,200,[bG,bG,f9,cB,cB,f9,bG,bG,bG,bG,bG],true⟩
def ty35:TI:=⟨(.slice 5),1,24,[bG],false⟩
def ty38:TI:=⟨(.slice 69),1,24,[bG],false⟩
def ty39:TI:=⟨(.struct #[cN "Chans" 3 0 "" 0,cN "Procs" 38 1 "" 8]),2,32,[cB,bG],true⟩
def ty40:TI:=⟨(.struct #[cN "Chans" 3 0 "" 0,cN "Procs" 38 1 "" 8]),2,32,[cB,bG],true⟩
def ty45:TI:=⟨(.slice 46),1,24,[bG],false⟩
def ty46:TI:=⟨(.slice 21),1,24,[bG],false⟩
def ty47:TI:=⟨(.struct #[cN "Store" 45 0 "" 0,cN "Root" 31 1 "" 24,cN "In" 46 9 "" 152,cN "Time" 21 10 "" 176]),11,184,[bG,f9,cB,cB,f9,bG,bG,bG,bG,bG,(Value.int IntKind.i32 0)],true⟩
def ty48:TI:=⟨(.struct #[cN "Store" 45 0 "" 0,cN "Root" 31 1 "" 24,cN "In" 46 9 "" 152,cN "Time" 21 10 "" 176]),11,184,[bG,f9,cB,cB,f9,bG,bG,bG,bG,bG,(Value.int IntKind.i32 0)],true⟩
def ty49:TI:=⟨(.int IntKind.i64),1,8,[cB],false⟩
def ty52:TI:=⟨(.slice 58),1,24,[bG],false⟩
def ty54:TI:=⟨(.int IntKind.u8),1,1,[f9],false⟩
def ty55:TI:=⟨(.struct #[cN "C" 3 0 "" 0,cN "V" 21 1 "" 8]),2,16,[cB,(Value.int IntKind.i32 0)],true⟩
def ty56:TI:=⟨(.struct #[cN "C" 3 0 "" 0,cN "V" 21 1 "" 8]),2,16,[cB,(Value.int IntKind.i32 0)],true⟩
def ty57:TI:=⟨(.struct #[cN "Kind" 54 0 "" 0,cN "Event" 56 1 "" 8,cN "Next" 48 3 "" 24]),14,208,[f9,cB,(Value.int IntKind.i32 0),bG,f9,cB,cB,f9,bG,bG,bG,bG,bG,(Value.int IntKind.i32 0)],true⟩
def sR:TI:=⟨(.struct #[cN "Kind" 54 0 "" 0,cN "Event" 56 1 "" 8,cN "Next" 48 3 "" 24]),14,208,[f9,cB,(Value.int IntKind.i32 0),bG,f9,cB,cB,f9,bG,bG,bG,bG,bG,(Value.int IntKind.i32 0)],true⟩
def ty60:TI:=⟨(.int IntKind.u8),1,1,[f9],false⟩
def ty61:TI:=⟨(.int IntKind.u8),1,1,[f9],false⟩
def ty62:TI:=⟨(.int IntKind.u8),1,1,[f9],false⟩
def ty63:TI:=⟨(.struct #[cN "Kind" 61 0 "" 0,cN "Oper" 62 1 "" 1,cN "To" 25 2 "" 2,cN "N" 21 3 "" 4,cN "V" 3 4 "" 8,cN "L" 27 5 "" 16]),6,40,[f9,f9,f9,(Value.int IntKind.i32 0),cB,bG],true⟩
def ty64:TI:=⟨(.struct #[cN "Kind" 61 0 "" 0,cN "Oper" 62 1 "" 1,cN "To" 25 2 "" 2,cN "N" 21 3 "" 4,cN "V" 3 4 "" 8,cN "L" 27 5 "" 16]),6,40,[f9,f9,f9,(Value.int IntKind.i32 0),cB,bG],true⟩
def ty65:TI:=⟨(.struct #[cN "V" 3 0 "" 0,cN "Index" 27 1 "" 8]),2,32,[cB,bG],true⟩
def ty66:TI:=⟨(.struct #[cN "V" 3 0 "" 0,cN "Index" 27 1 "" 8]),2,32,[cB,bG],true⟩
def ty67:TI:=⟨(.struct #[cN "Kind" 60 0 "" 0,cN "Cond" 64 1 "" 8,cN "C" 3 7 "" 48,cN "Item" 25 8 "" 56,cN "To" 66 9 "" 64,cN "Time" 64 11 "" 96,cN "Body" 29 17 "" 136]),18,160,[f9,f9,f9,f9,(Value.int IntKind.i32 0),cB,bG,cB,f9,cB,bG,f9,f9,f9,(Value.int IntKind.i32 0),cB,bG,bG],true⟩
def ty68:TI:=⟨(.struct #[cN "Kind" 60 0 "" 0,cN "Cond" 64 1 "" 8,cN "C" 3 7 "" 48,cN "Item" 25 8 "" 56,cN "To" 66 9 "" 64,cN "Time" 64 11 "" 96,cN "Body" 29 17 "" 136]),18,160,[f9,f9,f9,f9,(Value.int IntKind.i32 0),cB,bG,cB,f9,cB,bG,f9,f9,f9,(Value.int IntKind.i32 0),cB,bG,bG],true⟩
def RE:TI:=⟨(.slice 32),1,24,[bG],false⟩
def ty77:TI:=⟨(.slice 82),1,24,[bG],false⟩
def ty78:TI:=⟨(.array 64 77),64,1536,[bG,bG,bG,bG,bG,bG,bG,bG,bG,bG,bG,bG,bG,bG,bG,bG,bG,bG,bG,bG,bG,bG,bG,bG,bG,bG,bG,bG,bG,bG,bG,bG,bG,bG,bG,bG,bG,bG,bG,bG,bG,bG,bG,bG,bG,bG,bG,bG,bG,bG,bG,bG,bG,bG,bG,bG,bG,bG,bG,bG,bG,bG,bG,bG],true⟩
def ty79:TI:=⟨(.slice 29),1,24,[bG],false⟩
def ty81:TI:=⟨(.struct #[cN "branch" 3 0 "transputer/rank" 0,cN "out" 4 1 "transputer/rank" 8,cN "item" 25 2 "transputer/rank" 9]),3,16,[cB,(Value.bool false),f9],true⟩
def ty82:TI:=⟨(.struct #[cN "branch" 3 0 "transputer/rank" 0,cN "out" 4 1 "transputer/rank" 8,cN "item" 25 2 "transputer/rank" 9]),3,16,[cB,(Value.bool false),f9],true⟩
def ty84:TI:=⟨(.int IntKind.u64),1,8,[(Value.int IntKind.u64 0)],false⟩
def ty85:TI:=⟨(.array 64 84),64,512,[(Value.int IntKind.u64 0),(Value.int IntKind.u64 0),(Value.int IntKind.u64 0),(Value.int IntKind.u64 0),(Value.int IntKind.u64 0),(Value.int IntKind.u64 0),(Value.int IntKind.u64 0),(Value.int IntKind.u64 0),(Value.int IntKind.u64 0),(Value.int IntKind.u64 0),(Value.int IntKind.u64 0),(Value.int IntKind.u64 0),(Value.int IntKind.u64 0),(Value.int IntKind.u64 0),(Value.int IntKind.u64 0),(Value.int IntKind.u64 0),(Value.int IntKind.u64 0),(Value.int IntKind.u64 0),(Value.int IntKind.u64 0),(Value.int IntKind.u64 0),(Value.int IntKind.u64 0),(Value.int IntKind.u64 0),(Value.int IntKind.u64 0),(Value.int IntKind.u64 0),(Value.int IntKind.u64 0),(Value.int IntKind.u64 0),(Value.int IntKind.u64 0),(Value.int IntKind.u64 0),(Value.int IntKind.u64 0),(Value.int IntKind.u64 0),(Value.int IntKind.u64 0),(Value.int IntKind.u64 0),(Value.int IntKind.u64 0),(Value.int IntKind.u64 0),(Value.int IntKind.u64 0),(Value.int IntKind.u64 0),(Value.int IntKind.u64 0),(Value.int IntKind.u64 0),(Value.int IntKind.u64 0),(Value.int IntKind.u64 0),(Value.int IntKind.u64 0),(Value.int IntKind.u64 0),(Value.int IntKind.u64 0),(Value.int IntKind.u64 0),(Value.int IntKind.u64 0),(Value.int IntKind.u64 0),(Value.int IntKind.u64 0),(Value.int IntKind.u64 0),(Value.int IntKind.u64 0),(Value.int IntKind.u64 0),(Value.int IntKind.u64 0),(Value.int IntKind.u64 0),(Value.int IntKind.u64 0),(Value.int IntKind.u64 0),(Value.int IntKind.u64 0),(Value.int IntKind.u64 0),(Value.int IntKind.u64 0),(Value.int IntKind.u64 0),(Value.int IntKind.u64 0),(Value.int IntKind.u64 0),(Value.int IntKind.u64 0),(Value.int IntKind.u64 0),(Value.int IntKind.u64 0),(Value.int IntKind.u64 0)],true⟩
def ty86:TI:=⟨(.array 64 84),64,512,[(Value.int IntKind.u64 0),(Value.int IntKind.u64 0),(Value.int IntKind.u64 0),(Value.int IntKind.u64 0),(Value.int IntKind.u64 0),(Value.int IntKind.u64 0),(Value.int IntKind.u64 0),(Value.int IntKind.u64 0),(Value.int IntKind.u64 0),(Value.int IntKind.u64 0),(Value.int IntKind.u64 0),(Value.int IntKind.u64 0),(Value.int IntKind.u64 0),(Value.int IntKind.u64 0),(Value.int IntKind.u64 0),(Value.int IntKind.u64 0),(Value.int IntKind.u64 0),(Value.int IntKind.u64 0),(Value.int IntKind.u64 0),(Value.int IntKind.u64 0),(Value.int IntKind.u64 0),(Value.int IntKind.u64 0),(Value.int IntKind.u64 0),(Value.int IntKind.u64 0),(Value.int IntKind.u64 0),(Value.int IntKind.u64 0),(Value.int IntKind.u64 0),(Value.int IntKind.u64 0),(Value.int IntKind.u64 0),(Value.int IntKind.u64 0),(Value.int IntKind.u64 0),(Value.int IntKind.u64 0),(Value.int IntKind.u64 0),(Value.int IntKind.u64 0),(Value.int IntKind.u64 0),(Value.int IntKind.u64 0),(Value.int IntKind.u64 0),(Value.int IntKind.u64 0),(Value.int IntKind.u64 0),(Value.int IntKind.u64 0),(Value.int IntKind.u64 0),(Value.int IntKind.u64 0),(Value.int IntKind.u64 0),(Value.int IntKind.u64 0),(Value.int IntKind.u64 0),(Value.int IntKind.u64 0),(Value.int IntKind.u64 0),(Value.int IntKind.u64 0),(Value.int IntKind.u64 0),(Value.int IntKind.u64 0),(Value.int IntKind.u64 0),(Value.int IntKind.u64 0),(Value.int IntKind.u64 0),(Value.int IntKind.u64 0),(Value.int IntKind.u64 0),(Value.int IntKind.u64 0),(Value.int IntKind.u64 0),(Value.int IntKind.u64 0),(Value.int IntKind.u64 0),(Value.int IntKind.u64 0),(Value.int IntKind.u64 0),(Value.int IntKind.u64 0),(Value.int IntKind.u64 0),(Value.int IntKind.u64 0)],true⟩
def ty88:TI:=⟨(.array 64 3),64,512,[cB,cB,cB,cB,cB,cB,cB,cB,cB,cB,cB,cB,cB,cB,cB,cB,cB,cB,cB,cB,cB,cB,cB,cB,cB,cB,cB,cB,cB,cB,cB,cB,cB,cB,cB,cB,cB,cB,cB,cB,cB,cB,cB,cB,cB,cB,cB,cB,cB,cB,cB,cB,cB,cB,cB,cB,cB,cB,cB,cB,cB,cB,cB,cB],true⟩
def ty94:TI:=⟨(.pointer 96),1,8,[(Value.pointer none)],false⟩
def ty95:TI:=⟨(.struct #[cN "s" 48 0 "transputer/step" 0]),11,184,[bG,f9,cB,cB,f9,bG,bG,bG,bG,bG,(Value.int IntKind.i32 0)],true⟩
def ty96:TI:=⟨(.struct #[cN "s" 48 0 "transputer/step" 0]),11,184,[bG,f9,cB,cB,f9,bG,bG,bG,bG,bG,(Value.int IntKind.i32 0)],true⟩
def ty97:TI:=⟨(.slice 100),1,24,[bG],false⟩
def ty99:TI:=⟨(.struct #[cN "kind" 5 0 "transputer/step" 0,cN "store" 45 1 "transputer/step" 8,cN "c" 3 2 "transputer/step" 32,cN "v" 3 3 "transputer/step" 40,cN "i" 3 4 "transputer/step" 48,cN "item" 25 5 "transputer/step" 56,cN "value" 21 6 "transputer/step" 60,cN "next" 31 7 "transputer/step" 64,cN "root" 91 15 "transputer/step" 192,cN "path" 32 16 "transputer/step" 200]),17,224,[f9,bG,cB,cB,cB,f9,(Value.int IntKind.i32 0),f9,cB,cB,f9,bG,bG,bG,bG,Value.nilFunc,bG],true⟩
def oJ:TI:=⟨(.struct #[cN "kind" 5 0 "transputer/step" 0,cN "store" 45 1 "transputer/step" 8,cN "c" 3 2 "transputer/step" 32,cN "v" 3 3 "transputer/step" 40,cN "i" 3 4 "transputer/step" 48,cN "item" 25 5 "transputer/step" 56,cN "value" 21 6 "transputer/step" 60,cN "next" 31 7 "transputer/step" 64,cN "root" 91 15 "transputer/step" 192,cN "path" 32 16 "transputer/step" 200]),17,224,[f9,bG,cB,cB,cB,f9,(Value.int IntKind.i32 0),f9,cB,cB,f9,bG,bG,bG,bG,Value.nilFunc,bG],true⟩
def ty107:TI:=⟨(.struct #[cN "Kind" 25 0 "" 0,cN "Dim" 3 1 "" 8]),2,16,[f9,cB],true⟩
def ty108:TI:=⟨(.struct #[cN "Kind" 25 0 "" 0,cN "Dim" 3 1 "" 8]),2,16,[f9,cB],true⟩
def ty110:TI:=⟨(.int IntKind.u8),1,1,[f9],false⟩
def ty111:TI:=⟨(.pointer 113),1,8,[(Value.pointer none)],false⟩
def ty112:TI:=⟨(.struct #[{name:= "Kernel",type:=34,offset:=0,embedded:=true,tag:= "",pkgPath:= "",byteOffset:=0},cN "left" 3 11 "transputer/kernel" 200]),12,208,[bG,bG,f9,cB,cB,f9,bG,bG,bG,bG,bG,cB],true⟩
def ty113:TI:=⟨(.struct #[{name:= "Kernel",type:=34,offset:=0,embedded:=true,tag:= "",pkgPath:= "",byteOffset:=0},cN "left" 3 11 "transputer/kernel" 200]),12,208,[bG,bG,f9,cB,cB,f9,bG,bG,bG,bG,bG,cB],true⟩
def ty128:TI:=⟨(.func #[79] #[29] true),1,8,[Value.nilFunc],false⟩
def ty130:TI:=⟨(.struct #[cN "k" 34 0 "transputer/step" 0,cN "left" 3 11 "transputer/step" 200]),12,208,[bG,bG,f9,cB,cB,f9,bG,bG,bG,bG,bG,cB],true⟩
def ty131:TI:=⟨(.struct #[cN "k" 34 0 "transputer/step" 0,cN "left" 3 11 "transputer/step" 200]),12,208,[bG,bG,f9,cB,cB,f9,bG,bG,bG,bG,bG,cB],true⟩
def ty151:TI:=⟨(.pointer 131),1,8,[(Value.pointer none)],false⟩
def ty165:TI:=⟨(.map 24 105),1,8,[(Value.map none)],false⟩
def ty166:TI:=⟨(.struct #[cN "ok" 4 0 "transputer/depth" 0,cN "safe" 4 1 "transputer/depth" 1,cN "regs" 3 2 "transputer/depth" 8,cN "temps" 3 3 "transputer/depth" 16]),4,24,[(Value.bool false),(Value.bool false),cB,cB],true⟩
def ty167:TI:=⟨(.struct #[cN "ok" 4 0 "transputer/depth" 0,cN "safe" 4 1 "transputer/depth" 1,cN "regs" 3 2 "transputer/depth" 8,cN "temps" 3 3 "transputer/depth" 16]),4,24,[(Value.bool false),(Value.bool false),cB,cB],true⟩
def ty174:TI:=⟨(.array 2 3),2,16,[cB,cB],true⟩
def ty183:TI:=⟨(.slice 167),1,24,[bG],false⟩
def ty185:TI:=⟨(.int IntKind.u64),1,8,[(Value.int IntKind.u64 0)],false⟩
def ty189:TI:=⟨(.int IntKind.u64),1,8,[(Value.int IntKind.u64 0)],false⟩
def ty193:TI:=⟨(.func #[3,32] #[3] true),1,8,[Value.nilFunc],false⟩
def ty194:TI:=⟨(.array 27 4),27,27,[(Value.bool false),(Value.bool false),(Value.bool false),(Value.bool false),(Value.bool false),(Value.bool false),(Value.bool false),(Value.bool false),(Value.bool false),(Value.bool false),(Value.bool false),(Value.bool false),(Value.bool false),(Value.bool false),(Value.bool false),(Value.bool false),(Value.bool false),(Value.bool false),(Value.bool false),(Value.bool false),(Value.bool false),(Value.bool false),(Value.bool false),(Value.bool false),(Value.bool false),(Value.bool false),(Value.bool false)],true⟩
def ty195:TI:=⟨(.int IntKind.u32),1,4,[(Value.int IntKind.u32 0)],false⟩
def ty204:TI:=⟨(.slice 189),1,24,[bG],false⟩
def ty205:TI:=⟨(.func #[211] #[189] true),1,8,[Value.nilFunc],false⟩
def ty211:TI:=⟨(.slice 25),1,24,[bG],false⟩
def ty228:TI:=⟨(.pointer 5),1,8,[(Value.pointer none)],false⟩
def tt:TT:=(.node 116 (dA #[34,31] #[4]) (.node 63 ty63 (.node 37 (dA #[] #[4]) (.node 24 ty24 (.node 9 ty9 (.node 3 ty3 (.node 1 (dA #[] #[]) (.node 0 ⟨(.tuple #[]),1,0,[(Value.tuple #[])],false⟩ .leaf .leaf) (.node 2 ty2 .leaf .leaf)) (.node 5 ty5 (.node 4 ty4 .leaf .leaf) .leaf)) (.node 21 ty21 (.node 13 ty13 (.node 12 ty12 .leaf .leaf) (.node 20 ty20 .leaf .leaf)) (.node 23 ty23 (.node 22 ty22 .leaf .leaf) .leaf))) (.node 31 ty31 (.node 28 ty28 (.node 26 ty26 (.node 25 ty25 .leaf .leaf) (.node 27 ty27 .leaf .leaf)) (.node 30 ty30 (.node 29 ty29 .leaf .leaf) .leaf)) (.node 34 ty34 (.node 33 ty33 (.node 32 ty32 .leaf .leaf) .leaf) (.node 36 (dA #[31] #[3]) (.node 35 ty35 .leaf .leaf) .leaf)))) (.node 50 ⟨(.tuple #[48,49]),1,0,[(Value.tuple #[(Value.agg #[bG,f9,cB,cB,f9,bG,bG,bG,bG,bG,(Value.int IntKind.i32 0)]),cB])],false⟩ (.node 44 (dA #[40] #[32,4]) (.node 41 ⟨(.tuple #[40,4]),1,0,[(Value.tuple #[(Value.agg #[cB,bG]),(Value.bool false)])],false⟩ (.node 39 ty39 (.node 38 ty38 .leaf .leaf) (.node 40 ty40 .leaf .leaf)) (.node 43 ⟨(.tuple #[32,4]),1,0,[(Value.tuple #[bG,(Value.bool false)])],false⟩ (.node 42 (dA #[34] #[40,4]) .leaf .leaf) .leaf)) (.node 47 ty47 (.node 46 ty46 (.node 45 ty45 .leaf .leaf) .leaf) (.node 49 ty49 (.node 48 ty48 .leaf .leaf) .leaf))) (.node 57 ty57 (.node 54 ty54 (.node 52 ty52 (.node 51 (dA #[34,46] #[48,49]) .leaf .leaf) (.node 53 (dA #[34,48] #[52]) .leaf .leaf)) (.node 56 ty56 (.node 55 ty55 .leaf .leaf) .leaf)) (.node 60 ty60 (.node 59 (dA #[34,35] #[4]) (.node 58 sR .leaf .leaf) .leaf) (.node 62 ty62 (.node 61 ty61 .leaf .leaf) .leaf))))) (.node 90 (dA #[34] #[45]) (.node 77 ty77 (.node 70 ⟨(.tuple #[32,49]),1,0,[(Value.tuple #[bG,cB])],false⟩ (.node 67 ty67 (.node 65 ty65 (.node 64 ty64 .leaf .leaf) (.node 66 ty66 .leaf .leaf)) (.node 69 RE (.node 68 ty68 .leaf .leaf) .leaf)) (.node 74 ⟨(.tuple #[31,4]),1,0,[(Value.tuple #[(Value.agg #[f9,cB,cB,f9,bG,bG,bG,bG]),(Value.bool false)])],false⟩ (.node 72 (dA #[32,32] #[4]) (.node 71 (dA #[40] #[32,49]) .leaf .leaf) (.node 73 (dA #[40,32] #[4]) .leaf .leaf)) (.node 76 (dA #[34] #[4]) (.node 75 (dA #[31,24] #[31,4]) .leaf .leaf) .leaf))) (.node 84 ty84 (.node 81 ty81 (.node 79 ty79 (.node 78 ty78 .leaf .leaf) (.node 80 (dA #[34,31] #[79]) .leaf .leaf)) (.node 83 (dA #[40] #[4]) (.node 82 ty82 .leaf .leaf) .leaf)) (.node 87 (dA #[40] #[86]) (.node 86 ty86 (.node 85 ty85 .leaf .leaf) .leaf) (.node 89 (dA #[86,3] #[88]) (.node 88 ty88 .leaf .leaf) .leaf)))) (.node 103 (dA #[25,21] #[4]) (.node 97 ty97 (.node 94 ty94 (.node 92 (dA #[46] #[46]) (.node 91 (dA #[31] #[31]) .leaf .leaf) (.node 93 (dA #[34,48] #[4]) .leaf .leaf)) (.node 96 ty96 (.node 95 ty95 .leaf .leaf) .leaf)) (.node 100 oJ (.node 99 ty99 (.node 98 (dA #[] #[97]) .leaf .leaf) .leaf) (.node 102 (dA #[45,3,3,21] #[45]) (.node 101 (dA #[54,56,45,31,46] #[58]) .leaf .leaf) .leaf))) (.node 110 ty110 (.node 107 ty107 (.node 105 (dA #[31] #[4]) (.node 104 (dA #[29,105] #[4]) .leaf .leaf) (.node 106 (dA #[32,3] #[4]) .leaf .leaf)) (.node 109 (dA #[25] #[4]) (.node 108 ty108 .leaf .leaf) .leaf)) (.node 113 ty113 (.node 112 ty112 (.node 111 ty111 .leaf .leaf) .leaf) (.node 115 (dA #[31] #[29]) (.node 114 (dA #[31,3,4] #[4]) .leaf .leaf) .leaf)))))) (.node 169 (dA #[22,147] #[3]) (.node 143 (dA #[24] #[105]) (.node 130 ty130 (.node 123 (dA #[64] #[64]) (.node 120 (dA #[26,121] #[26]) (.node 118 (dA #[3] #[4]) (.node 117 (dA #[32,118] #[4]) .leaf .leaf) (.node 119 (dA #[22] #[4]) .leaf .leaf)) (.node 122 (dA #[27,123] #[27]) (.node 121 (dA #[66] #[66]) .leaf .leaf) .leaf)) (.node 127 (dA #[] #[31]) (.node 125 (dA #[28,126] #[28]) (.node 124 (dA #[29,91] #[29]) .leaf .leaf) (.node 126 (dA #[68] #[68]) .leaf .leaf)) (.node 129 (dA #[34,45] #[4]) (.node 128 ty128 .leaf .leaf) .leaf))) (.node 137 (dA #[31] #[97]) (.node 134 (dA #[159] #[]) (.node 132 (dA #[31,3,4,4] #[4]) (.node 131 ty131 .leaf .leaf) (.node 133 (dA #[31,31] #[4]) .leaf .leaf)) (.node 136 (dA #[31,32] #[135]) (.node 135 (dA #[159] #[]) .leaf .leaf) .leaf)) (.node 140 (dA #[45,3,3] #[21,4]) (.node 139 ⟨(.tuple #[21,4]),1,0,[(Value.tuple #[(Value.int IntKind.i32 0),(Value.bool false)])],false⟩ (.node 138 (dA #[31,32,31] #[31]) .leaf .leaf) .leaf) (.node 142 (dA #[32,3] #[3]) (.node 141 (dA #[29,105] #[3]) .leaf .leaf) .leaf)))) (.node 156 (dA #[28,28,157] #[4]) (.node 150 (dA #[21] #[4]) (.node 147 (dA #[108] #[4]) (.node 145 (dA #[32,118] #[3]) (.node 144 (dA #[64] #[4]) .leaf .leaf) (.node 146 (dA #[22,147] #[4]) .leaf .leaf)) (.node 149 (dA #[46,150] #[4]) (.node 148 (dA #[29,3] #[29]) .leaf .leaf) .leaf)) (.node 153 (dA #[66,66] #[4]) (.node 152 (dA #[26,26,153] #[4]) (.node 151 ty151 .leaf .leaf) .leaf) (.node 155 (dA #[64,64] #[4]) (.node 154 (dA #[27,27,155] #[4]) .leaf .leaf) .leaf))) (.node 163 (dA #[3,25,66,31] #[97]) (.node 160 (dA #[45,31] #[97]) (.node 158 (dA #[29,29,133] #[4]) (.node 157 (dA #[68,68] #[4]) .leaf .leaf) (.node 159 (dA #[31,32] #[4]) .leaf .leaf)) (.node 162 (dA #[45,66] #[3,3,4]) (.node 161 ⟨(.tuple #[3,3,4]),1,0,[(Value.tuple #[cB,cB,(Value.bool false)])],false⟩ .leaf .leaf) .leaf)) (.node 166 ty166 (.node 165 ty165 (.node 164 (dA #[29] #[29]) .leaf .leaf) .leaf) (.node 168 (dA #[64] #[167]) (.node 167 ty167 .leaf .leaf) .leaf))))) (.node 195 ty195 (.node 182 (dA #[64,3] #[167]) (.node 176 (dA #[64,25] #[4]) (.node 173 (dA #[31,4,4,174,174,174,174] #[4]) (.node 171 (dA #[28] #[28]) (.node 170 (dA #[46,150] #[3]) .leaf .leaf) (.node 172 (dA #[45,64] #[21,4]) .leaf .leaf)) (.node 175 (dA #[66,25] #[4]) (.node 174 ty174 .leaf .leaf) .leaf)) (.node 179 (dA #[28,181] #[4]) (.node 178 (dA #[3,25,3] #[4]) (.node 177 (dA #[3,25,66] #[4]) .leaf .leaf) .leaf) (.node 181 (dA #[68] #[4]) (.node 180 (dA #[68,4] #[4]) .leaf .leaf) .leaf))) (.node 189 ty189 (.node 186 ⟨(.tuple #[185,185]),1,0,[(Value.tuple #[(Value.int IntKind.u64 0),(Value.int IntKind.u64 0)])],false⟩ (.node 184 (dA #[64,183] #[167]) (.node 183 ty183 .leaf .leaf) (.node 185 ty185 .leaf .leaf)) (.node 188 (dA #[3,174] #[4]) (.node 187 (dA #[185,185] #[185,185]) .leaf .leaf) .leaf)) (.node 192 (dA #[68,4,4] #[4]) (.node 191 (dA #[28,181] #[3]) (.node 190 (dA #[64] #[189]) .leaf .leaf) .leaf) (.node 194 ty194 (.node 193 ty193 .leaf .leaf) .leaf)))) (.node 208 (dA #[21,21] #[21]) (.node 202 (dA #[62,21,21] #[21,4]) (.node 199 (dA #[84,84] #[84,84]) (.node 197 (dA #[195,195] #[195,195]) (.node 196 ⟨(.tuple #[195,195]),1,0,[(Value.tuple #[(Value.int IntKind.u32 0),(Value.int IntKind.u32 0)])],false⟩ .leaf .leaf) (.node 198 ⟨(.tuple #[84,84]),1,0,[(Value.tuple #[(Value.int IntKind.u64 0),(Value.int IntKind.u64 0)])],false⟩ .leaf .leaf)) (.node 201 (dA #[21,4] #[21,4]) (.node 200 (dA #[64,3] #[4]) .leaf .leaf) .leaf)) (.node 205 ty205 (.node 204 ty204 (.node 203 (dA #[27,144] #[4]) .leaf .leaf) .leaf) (.node 207 (dA #[21] #[189]) (.node 206 (dA #[4,25] #[189]) .leaf .leaf) .leaf))) (.node 215 (dA #[21,21] #[21,4]) (.node 212 (dA #[21,21] #[4]) (.node 210 (dA #[27,144] #[3]) (.node 209 (dA #[62] #[208]) .leaf .leaf) (.node 211 ty211 .leaf .leaf)) (.node 214 (dA #[4] #[21]) (.node 213 (dA #[62] #[212]) .leaf .leaf) .leaf)) (.node 218 (dA #[] #[9]) (.node 217 (dA #[2] #[21,4]) (.node 216 (dA #[84] #[21,4]) .leaf .leaf) .leaf) (.node 228 ty228 (.node 224 (dA #[] #[3]) .leaf .leaf) .leaf)))))))
theorem dN:tt.Ok prog:=by repeat (first|exact trivial|exact tk_|refine ⟨?_,?_,?_⟩)
theorem P_{gs:Ua}{f:FuncId}{fn:Func}{args:List AV}{x:AV}{c:Code}(hfn:prog.funcs[f]? =some fn)(n:Nat)(hv: ∀w0 h0 F (hgs:jP h0 gs),A ⟨prog,tt,w0,f,fn,n,dN,hfn,h0,F,gs,hgs,fun y Λ'=>Sb y x∧Λ'=[],[],none⟩ [.code c] ⟨t6 0 args,[]⟩ [])(hb:fn.body=some c:=by exact rfl)(hnm:(fn.name== "runtime.NumGoroutine")=false:=by exact rfl)(hn:fn.ntmps=n:=by exact rfl)(hl:Nat.ble (pG args) n=true:=by exact rfl):Pure prog gs f args x:=p_ dN hfn n hv hb hnm hn hl
abbrev a9:Ua:=[]
abbrev aL(n:Int):AV:= .v (.int .i32 n)
abbrev AI(n:Int):AV:= .v (.int .i64 n)
abbrev aU(n:Int):AV:= .v (.int .u8 n)
abbrev AB(b:Bool):AV:= .v (.bool b)
abbrev vF(x:Option Int):AV:= .tp [aL (x.getD 0),AB x.isSome]
theorem Sb.eq{x y:AV}(h:x=y):Sb x y:=by subst h;exact .refl
theorem RT{a b:Int}(h:a=b):aL a=aL b:=by rw [h]
theorem aM{a b:Int}(h:a=b):AI a=AI b:=by rw [h]
theorem aA{a b:Bool}(h:a=b):AB a=AB b:=by rw [h]
theorem jS{a b:Bool}(h:a=true↔b=true):AB a=AB b:=by rw [ab8.2 h]
theorem aR{α β:Type}{f:α->β}{l:List α}{i:Nat}{x:α}(h:l[i]? =some x):(l.map f)[i]? =some (f x):=by rw [ab9,h];rfl
theorem FG{α:Type}{l:List α}{i:Int}(h0:0<=i)(h1:i<l.length): ∃x,l[i.toNat]? =some x:=⟨l[i.toNat]'(by omega),ab6 _⟩
theorem dC{α:Type}{l:List α}{i:Nat}(h1:i<l.length): ∃x,l[i]? =some x:=⟨l[i]'h1,ab6 _⟩
theorem A6{α:Type}{l:List α}{i:Int}(h1:(l.length:Int)<=i):l[i.toNat]? =none:=List.getElem?_eq_none (by omega)
def vU(n:Int):Int:=IntKind.i32.wrap n
def w64(n:Int):Int:=IntKind.i64.wrap n
theorem qW(n:Int):IntKind.i32.wrap n=(n+2147483648) % 4294967296-2147483648:=IntKind.wrap_i32 n
theorem wu32_eq(n:Int):IntKind.u32.wrap n=n % 4294967296:=by simp [aq4,ar4,ak8]
theorem B1(n:Int):IntKind.u64.wrap n=n % 18446744073709551616:=by simp [aq4,ar4,ak8]
theorem w32_id{n:Int}(h:i32 n):IntKind.i32.wrap n=n:=wr32 n h
theorem sU{n:Int}(h:i64 n):IntKind.i64.wrap n=n:=fZ n h
theorem nS{n:Int}(h:i32 n):IntKind.i64.wrap n=n:=fZ n (by unfold i32 at h;omega)
theorem qX(n:Int):i32 (IntKind.i32.wrap n):=by unfold i32;rw [qW];omega
theorem qG(i:Nat)(h:i<4611686018427387904):AV.v (.int .i64 (IntKind.i64.wrap ((i:Int)+1)))=AI ((i+1:Nat):Int):=by rw [fZ _ (by omega)];rfl
theorem aX{α:Type}{l:List α}{i:Nat}{P:Prop}(h:i<l.length)(k: ∀x,l[i]? =some x→P):P:=k _ (ab6 h)
theorem vI{K:AC}{k:List It}{E:aH}{Λ:List aF}(t i:Nat){x:AV}(n:A K k ⟨(t,AI ((i+1:Nat):Int))::E.us,E.cs⟩ Λ)(hx:bJ E.us t=some x:=by exact rfl)(hs:x=AI ((i+1:Nat):Int):=by exact qG _ (by first|omega|(dsimp only;omega))):A K k E Λ:=A.ad t hx hs n
mutual
def eE:KE->AV
 |⟨k,o,t,n,v,l⟩=> .ag [aU k,aU o,aU t,aL n,AI v, .sl 6 (bB l) none]
def bB:List KE->List AV
 | []=>[] |e::r=>eE e::bB r
end
theorem aJ(e:KE):eE e= .ag [aU e.kind,aU e.oper,aU e.to,aL e.n,AI e.v, .sl 6 (bB e.l) none]:=by obtain ⟨k,o,t,n,v,l⟩:=e;rw [eE]
theorem pD(l:List KE):bB l=l.map eE:=by
 induction l with
 |nil=>rw [bB];rfl |cons x r ih=>rw [bB,ih];rfl
mutual
def iZ:KE->Prop
 |⟨k,o,t,n,v,l⟩=>(u8 k/\u8 o/\u8 t/\i32 n/\i64 v)/\oY l
def oY:List KE->Prop
 | []=>True |e::r=>iZ e/\oY r
end
def aY(e:KE):Bool:=
 if e.kind=1 then e.oper==0&&e.to==0&&e.v==0&&e.l.length==0
 else if e.kind=2 then e.oper==0&&e.to==0&&e.n==0&&decide (0<=e.v)&&decide (e.v<=255)&&e.l.length==0
 else if e.kind=3 then e.oper==0&&e.to==0&&e.n==0&&decide (0<=e.v)&&decide (e.v<=255)&&e.l.length==1
 else if e.kind=4 then decide (23<=e.oper)&&decide (e.oper<=26)&&e.to==0&&e.n==0&&e.v==0&&e.l.length==1
 else if e.kind=5 then decide (1<=e.oper)&&decide (e.oper<=22)&&e.to==0&&e.n==0&&e.v==0&&e.l.length==2
 else if e.kind=6 then e.oper==0&&decide (1<=e.to)&&decide (e.to<=3)&&e.n==0&&e.v==0&&e.l.length==1
 else false
mutual
def sz:KE->Nat
 |⟨_,_,_,_,_,l⟩=>1+jQ l
def jQ:List KE->Nat
 | []=>0 |e::r=>sz e+jQ r
end
mutual
def ht:KE->Nat
 |⟨_,_,_,_,_,l⟩=>1+oZ l
def oZ:List KE->Nat
 | []=>0 |e::r=>max (ht e) (oZ r)
end
mutual
def fine:KE->Bool
 |⟨k,o,t,n,v,l⟩=>aY ⟨k,o,t,n,v,l⟩&&eF l
def eF:List KE->Bool
 | []=>true |e::r=>fine e&&eF r
end
theorem oH{e:KE}(h:aY e=true):(∃k o t n v,e=⟨k,o,t,n,v,[]⟩)\/(∃k o t n v a,e=⟨k,o,t,n,v,[a]⟩)\/(∃k o t n v a b,e=⟨k,o,t,n,v,[a,b]⟩):=by
 obtain ⟨k,o,t,n,v,l⟩:=e
 match l with
 | []=>exact .inl ⟨k,o,t,n,v,rfl⟩ | [a]=>exact .inr (.inl ⟨k,o,t,n,v,a,rfl⟩)
 | [a,b]=>exact .inr (.inr ⟨k,o,t,n,v,a,b,rfl⟩) |a::b::c::r=>
  simp only [aY,KE.kind,KE.oper,KE.to,KE.n,KE.v,KE.l,List.length_cons] at h;exfalso;revert h;(repeat' split)<;>simp<;>omega
theorem QZ{e:KE}(h:aY e=true):(∃n,e=⟨1,0,0,n,0,[]⟩)\/(∃v,0<=v/\v<=255/\e=⟨2,0,0,0,v,[]⟩)\/(∃v a,0<=v/\v<=255/\e=⟨3,0,0,0,v,[a]⟩)\/
 (∃o a,23<=o/\o<=26/\e=⟨4,o,0,0,0,[a]⟩)\/(∃o a b,1<=o/\o<=22/\e=⟨5,o,0,0,0,[a,b]⟩)\/(∃t a,1<=t/\t<=3/\e=⟨6,0,t,0,0,[a]⟩):=by
 obtain ⟨k,o,t,n,v,l⟩:=e;have h1:=h;simp only [aY,KE.kind,KE.oper,KE.to,KE.n,KE.v,KE.l] at h1;have l0:l.length=0->l=[]:=fun h=>List.length_eq_zero_iff.1 h;have l1:l.length=1-> ∃a,l=[a]:=fun h=>by
  match l,h with
  | [a],_=>exact ⟨a,rfl⟩
 have l2:l.length=2-> ∃a b,l=[a,b]:=fun h=>by
  match l,h with
  | [a,b],_=>exact ⟨a,b,rfl⟩
 split at h1
 ·subst_vars;simp at h1;obtain ⟨⟨⟨rfl,rfl⟩,rfl⟩,rfl⟩:=h1;exact .inl ⟨n,rfl⟩
 split at h1
 ·subst_vars;simp at h1;obtain ⟨⟨⟨⟨⟨rfl,rfl⟩,rfl⟩,h3⟩,h4⟩,rfl⟩:=h1;exact .inr (.inl ⟨v,h3,h4,rfl⟩)
 split at h1
 ·subst_vars;simp at h1;obtain ⟨⟨⟨⟨⟨rfl,rfl⟩,rfl⟩,h3⟩,h4⟩,hl⟩:=h1;obtain ⟨a,rfl⟩:=l1 hl;exact .inr (.inr (.inl ⟨v,a,h3,h4,rfl⟩))
 split at h1
 ·subst_vars;simp at h1;obtain ⟨⟨⟨⟨⟨h3,h4⟩,rfl⟩,rfl⟩,rfl⟩,hl⟩:=h1;obtain ⟨a,rfl⟩:=l1 hl;exact .inr (.inr (.inr (.inl ⟨o,a,h3,h4,rfl⟩)))
 split at h1
 ·subst_vars;simp at h1;obtain ⟨⟨⟨⟨⟨h3,h4⟩,rfl⟩,rfl⟩,rfl⟩,hl⟩:=h1;obtain ⟨a,b,rfl⟩:=l2 hl;exact .inr (.inr (.inr (.inr (.inl ⟨o,a,b,h3,h4,rfl⟩))))
 split at h1
 ·subst_vars;simp at h1;obtain ⟨⟨⟨⟨⟨rfl,h3⟩,h4⟩,rfl⟩,rfl⟩,hl⟩:=h1;obtain ⟨a,rfl⟩:=l1 hl;exact .inr (.inr (.inr (.inr (.inr ⟨t,a,h3,h4,rfl⟩))))
 ·cases h1
theorem CV{e:KE}(h:fine e=true):aY e=true:=by obtain ⟨k,o,t,n,v,l⟩:=e;simp only [fine,aa1] at h;exact h.1
theorem dQ{e:KE}(h:fine e=true):(∃n,e=⟨1,0,0,n,0,[]⟩)\/(∃v,0<=v/\v<=255/\e=⟨2,0,0,0,v,[]⟩)\/(∃v a,0<=v/\v<=255/\fine a=true/\e=⟨3,0,0,0,v,[a]⟩)\/
 (∃o a,23<=o/\o<=26/\fine a=true/\e=⟨4,o,0,0,0,[a]⟩)\/(∃o a b,1<=o/\o<=22/\fine a=true/\fine b=true/\e=⟨5,o,0,0,0,[a,b]⟩)\/(∃t a,1<=t/\t<=3/\fine a=true/\e=⟨6,0,t,0,0,[a]⟩):=by
 rcases QZ (CV h) with ⟨n,rfl⟩|⟨v,h1,h2,rfl⟩|⟨v,a,h1,h2,rfl⟩|⟨o,a,h1,h2,rfl⟩|⟨o,a,b,h1,h2,rfl⟩|⟨t,a,h1,h2,rfl⟩
 ·exact .inl ⟨n,rfl⟩
 ·exact .inr (.inl ⟨v,h1,h2,rfl⟩)
 ·simp [fine,eF] at h;exact .inr (.inr (.inl ⟨v,a,h1,h2,h.2,rfl⟩))
 ·simp [fine,eF] at h;exact .inr (.inr (.inr (.inl ⟨o,a,h1,h2,h.2,rfl⟩)))
 ·simp [fine,eF] at h;exact .inr (.inr (.inr (.inr (.inl ⟨o,a,b,h1,h2,h.2.1,h.2.2,rfl⟩))))
 ·simp [fine,eF] at h;exact .inr (.inr (.inr (.inr (.inr ⟨t,a,h1,h2,h.2,rfl⟩))))
theorem gH(e:KE):1<=sz e:=by obtain ⟨k,o,t,n,v,l⟩:=e;simp only [sz];omega
theorem PK(e:KE):1<=ht e:=by obtain ⟨k,o,t,n,v,l⟩:=e;simp only [ht];omega
def fits(e:KE)(room deep:Int):Prop:=fine e=true/\(sz e:Int)<=room/\(ht e:Int)<=deep
instance (e:KE) (room deep:Int):Decidable (fits e room deep):=by unfold fits;infer_instance
abbrev valid(e:KE):Prop:=fits e 256 32
theorem gV{e:KE}{r d:Int}(h:r<1\/d<1\/aY e=false): ¬fits e r d:=by
 rintro ⟨h1,h2,h3⟩;have:=gH e;have:=PK e;rcases h with h|h|h
 ·omega
 ·omega
 ·rw [CV h1] at h;cases h
theorem fits0{k o t n v:Int}{room deep:Int}(hs:aY ⟨k,o,t,n,v,[]⟩=true):fits ⟨k,o,t,n,v,[]⟩ room deep↔1<=room/\1<=deep:=by simp only [fits,fine,eF,hs,sz,jQ,ht,oZ,ab3,true_and];omega
theorem Y8{k o t n v:Int}{a:KE}{room deep:Int}(hs:aY ⟨k,o,t,n,v,[a]⟩=true):fits ⟨k,o,t,n,v,[a]⟩ room deep↔fits a (room-1) (deep-1):=by
 simp only [fits,fine,eF,hs,sz,jQ,ht,oZ,ab3,al1];constructor
 ·rintro ⟨h1,h2,h3⟩;exact ⟨h1,by omega,by omega⟩
 ·rintro ⟨h1,h2,h3⟩;exact ⟨h1,by omega,by omega⟩
theorem Y9{k o t n v:Int}{a b:KE}{room deep:Int}(hs:aY ⟨k,o,t,n,v,[a,b]⟩=true):fits ⟨k,o,t,n,v,[a,b]⟩ room deep↔fits a (room-1) (deep-1)/\fits b (room-(1+sz a)) (deep-1):=by
 simp only [fits,fine,eF,hs,sz,jQ,ht,oZ,ab3,al1,aa1];have:=gH b;constructor
 ·rintro ⟨h1,h2,h3⟩;exact ⟨⟨h1.1,by omega,by omega⟩,⟨h1.2,by omega,by omega⟩⟩
 ·rintro ⟨⟨h1,h2,h3⟩,⟨h4,h5,h6⟩⟩;exact ⟨⟨h1,h4⟩,by omega,by omega⟩
theorem OJ{k o t n v:Int}{a:KE}(h:iZ ⟨k,o,t,n,v,[a]⟩):iZ a:=by simp only [iZ,oY] at h;exact h.2.1
theorem OK{k o t n v:Int}{a b:KE}(h:iZ ⟨k,o,t,n,v,[a,b]⟩):iZ a/\iZ b:=by simp only [iZ,oY] at h;exact ⟨h.2.1,h.2.2.1⟩
theorem ht_eq(e:KE):ht e=1+oZ e.l:=by obtain ⟨k,o,t,n,v,l⟩:=e;rw [ht]
def uT(n:Int):Bool:=decide (-2147483648<=n)&&decide (n<2147483648)
theorem w32_fit(n:Int):(IntKind.i32.wrap n==n)=uT n:=by rw [ab8];simp [uT];rw [qW];omega
def AD(n:Int):Option Int:=if uT n then some n else none
theorem D0(t:Int)(ht:i64 t):Pure prog a9 172 [AI t] (.tp [aL (vU t),AB (!uT t)]):=by refine P_ func172 11 fun _ _ _ _=>?_;refine y_ ?_;refine q_ ?_;refine Sb.eq ?_;have h1:IntKind.i64.wrap (IntKind.i32.wrap t)=IntKind.i32.wrap t:=nS (qX t);rw [h1,<-w32_fit];rfl
theorem wadd_p(a b:Int)(ha:i32 a)(hb:i32 b):Pure prog a9 159 [aL a,aL b] (.tp [aL (vU (a+b)),AB (!uT (a+b))]):=by
 have h:i64 (a+b):=by unfold i32 at ha hb;unfold i64;omega
 refine P_ func159 14 fun _ _ _ _=>?_;refine y_ ?_;refine A.ad 10 T (x':=AI (a+b)) (by rw [nS ha,nS hb,sU h]) ?_;refine c_ (D0 _ h) ?_;refine q_ ?_;exact .refl
theorem wsub_p(a b:Int)(ha:i32 a)(hb:i32 b):Pure prog a9 160 [aL a,aL b] (.tp [aL (vU (a-b)),AB (!uT (a-b))]):=by
 have h:i64 (a-b):=by unfold i32 at ha hb;unfold i64;omega
 refine P_ func160 14 fun _ _ _ _=>?_;refine y_ ?_;refine A.ad 10 T (x':=AI (a-b)) (by rw [nS ha,nS hb,sU h]) ?_;refine c_ (D0 _ h) ?_;refine q_ ?_;exact .refl
theorem VP{a b:Int}(ha:i32 a)(hb:i32 b):i64 (a*b):=by
 unfold i32 at ha hb;unfold i64;have h1:a.natAbs<=2147483648:=by omega
 have h2:b.natAbs<=2147483648:=by omega
 have h3:(a*b).natAbs<=2147483648*2147483648:=by rw [Int.natAbs_mul];exact Nat.mul_le_mul h1 h2
 omega
theorem wmul_p(a b:Int)(ha:i32 a)(hb:i32 b):Pure prog a9 161 [aL a,aL b] (.tp [aL (vU (a*b)),AB (!uT (a*b))]):=by have h:i64 (a*b):=VP ha hb;refine P_ func161 14 fun _ _ _ _=>?_;refine y_ ?_;refine A.ad 10 T (x':=AI (a*b)) (by rw [nS ha,nS hb,sU h]) ?_;refine c_ (D0 _ h) ?_;refine q_ ?_;exact .refl
def wE(a b:Int):Bool:=b==0||(a== -2147483648&&b== -1)
def U1(a b:Int):Int:=if wE a b then 0 else a.tdiv b
theorem T1{a b:Int}(ha:i32 a)(hb:wE a b=false):i32 (a.tdiv b):=by
 unfold i32 at ha⊢;simp [wE] at hb;have h1:(a.tdiv b).natAbs<=a.natAbs:=by rw [Int.natAbs_tdiv];exact Nat.div_le_self _ _
 by_cases h:a= -2147483648
 ·subst h;have hb1:b≠ -1:=hb.2 T
  by_cases h2:b=1
  ·subst h2;decide
  ·have:(Int.tdiv (-2147483648) b).natAbs<=1073741824:=by
    rw [Int.natAbs_tdiv];have:2<=b.natAbs:=by omega
    calc (Int.natAbs (-2147483648)) / b.natAbs<=2147483648 / 2:=Nat.div_le_div (by decide) this (by decide)
     _=1073741824:=by decide
   omega
 ·omega
theorem wdiv_p(a b:Int)(ha:i32 a)(hb:i32 b):Pure prog a9 162 [aL a,aL b] (.tp [aL (U1 a b),AB (wE a b)]):=by
 refine P_ func162 19 fun _ _ _ _=>?_;refine g_ ?_;refine k_ (fun hc=>?_) fun hc=>?_
 ·refine y_ ?_;refine q_ ?_;refine Sb.eq ?_;have h:wE a b=true:=by simp at hc;simp [wE];exact hc
  simp [U1,h]
 ·have h:wE a b=false:=by simp at hc;simp [wE];exact hc
  refine y_ ?_;refine A.fw T T T T T T T (by simp [wE] at h;exact h.1) ?_;refine y_ ?_;refine q_ ?_;refine Sb.eq ?_;show AV.tp [aL (IntKind.i32.wrap (a.tdiv b)),_]=_;rw [w32_id (T1 ha h)];simp [U1,h]
def QP(a b:Int):Int:=if b=0 then 0 else a.tmod b
theorem wrem_p(a b:Int)(ha:i32 a)(hb:i32 b):Pure prog a9 163 [aL a,aL b] (.tp [aL (QP a b),AB (b==0)]):=by
 refine P_ func163 14 fun _ _ _ _=>?_;refine y_ ?_;refine k_ (fun hc=>?_) fun hc=>?_
 ·refine y_ ?_;refine q_ ?_;refine Sb.eq ?_;simp at hc;simp [hc,QP]
 ·simp at hc;refine y_ ?_;refine k_ (fun hd=>?_) fun hd=>?_
  ·refine y_ ?_;refine q_ ?_;refine Sb.eq ?_;simp at hd;subst hd;simp [QP]
  ·refine y_ ?_;refine A.fw T T T T T T T hc ?_;refine y_ ?_;refine q_ ?_;refine Sb.eq ?_;show AV.tp [aL (a.tmod b),_]=_;simp [QP,hc]
theorem wsum_p(a b:Int):Pure prog a9 146 [aL a,aL b] (aL (vU (a+b))):=by refine P_ func146 8 fun _ _ _ _=>?_;exact rK
theorem wdiff_p(a b:Int):Pure prog a9 147 [aL a,aL b] (aL (vU (a-b))):=by refine P_ func147 8 fun _ _ _ _=>?_;exact rK
theorem wprod_p(a b:Int):Pure prog a9 148 [aL a,aL b] (aL (vU (a*b))):=by refine P_ func148 8 fun _ _ _ _=>?_;exact rK
def EM(a:Int):Int:=if a<0 then a+4294967296 else a
theorem mB{a:Int}(ha:i32 a):IntKind.u32.wrap a=EM a:=by unfold i32 at ha;unfold EM;rw [wu32_eq];split<;>omega
theorem RG{a:Int}(ha:i32 a):0<=EM a/\EM a<4294967296:=by unfold i32 at ha;unfold EM;split<;>omega
def shlM(a n:Int):Int:=if EM n>31 then 0 else vU (a*2^n.toNat)
def shrM(a n:Int):Int:=if EM n>31 then 0 else vU (EM a / 2^n.toNat)
theorem V4(t:Int):Pure prog a9 164 [.v (.int .u64 t)] (.tp [aL (vU t),AB (IntKind.u64.wrap (vU t) !=t)]):=by refine P_ func164 11 fun _ _ _ _=>?_;refine y_ ?_;refine q_ ?_;exact .refl
theorem HJ{n:Int}(hn:i32 n)(h: ¬EM n>31):0<=n/\n<=31/\EM n=n:=by unfold i32 at hn;unfold EM at h⊢;split at h<;>split<;>omega
theorem pow32{k:Nat}(h:k<=32):(2:Int)^k<=4294967296:=by
 have:(2:Nat)^k<=2^32:=Nat.pow_le_pow_right (by decide) h;have h2:((2^k:Nat):Int)<=((2^32:Nat):Int):=Int.ofNat_le.2 this
 rwa [Int.natCast_pow] at h2
theorem wshl_p(a n:Int)(ha:i32 a)(hn:i32 n):Pure prog a9 152 [aL a,aL n] (aL (shlM a n)):=by
 refine P_ func152 21 fun _ _ _ _=>?_;refine y_ ?_;refine k_ (fun hc=>?_) fun hc=>?_
 ·simp at hc;rw [mB hn] at hc;refine y_ ?_;refine R_ ?_;refine Sb.eq ?_;simp [shlM,hc]
 ·simp at hc;rw [mB hn] at hc;obtain ⟨h1,h2,h3⟩:=HJ hn (by omega);refine y_ ?_;refine A.shift T T T T T T (by rw [mB hn];omega) ?_;refine c_ (V4 _) ?_;refine R_ ?_;refine Sb.eq ?_;refine RT ?_;have hu:=RG ha;simp only [J7,shlM,mB hn,mB ha,h3,iF (show¬n>31 by omega)];have h4:min n.toNat IntKind.u64.bits=n.toNat:=ai3 (by simp [ak8];omega);rw [h4];have hp:=pow32 (k:=n.toNat) (by omega);have hp0:(0:Int)<2^n.toNat:=at0 (by decide);have e1:IntKind.u64.wrap (EM a)=EM a:=by rw [B1];omega
  have hb:EM a*2^n.toNat<18446744073709551616:=by
   calc EM a*2^n.toNat<4294967296*2^n.toNat:=Int.mul_lt_mul_of_pos_right hu.2 hp0
    _<=4294967296*4294967296:=Int.mul_le_mul_of_nonneg_left hp (by decide)
  have hb0:0<=EM a*2^n.toNat:=Int.mul_nonneg hu.1 (as0 hp0);have e2:IntKind.u64.wrap (EM a*2^n.toNat)=EM a*2^n.toNat:=by rw [B1];omega
  rw [e1,e2];unfold EM;split
  ·unfold vU;rw [qW,qW,Int.add_mul];generalize a*2^n.toNat=x;generalize (2:Int)^n.toNat=y;omega
  ·rfl
theorem wshr_p(a n:Int)(ha:i32 a)(hn:i32 n):Pure prog a9 153 [aL a,aL n] (aL (shrM a n)):=by
 refine P_ func153 11 fun _ _ _ _=>?_;refine y_ ?_;have hun:=RG hn;have hua:=RG ha;refine A.shift T T T T T T (by rw [mB hn];omega) ?_;refine y_ ?_;refine R_ ?_;refine Sb.eq ?_;refine RT ?_;simp only [J7,mB hn,mB ha,shrM];split
 ·rename_i h;have h4:min (EM n).toNat IntKind.u32.bits=32:=Nat.min_eq_right (by simp [ak8];omega);rw [h4,aj4 _ (by decide)];have:EM a / 2^32=0:=by rw [show (2:Int)^32=4294967296 by decide];omega
  rw [this];decide
 ·rename_i h;obtain ⟨h1,h2,h3⟩:=HJ hn h;have h4:min (EM n).toNat IntKind.u32.bits=n.toNat:=by rw [h3];exact ai3 (by simp [ak8];omega)
  rw [h4,aj4 _ (as0 (at0 (by decide)))];rfl
theorem wafter_p(a b:Int):Pure prog a9 171 [aL a,aL b] (AB (decide (0<vU (a-b)))):=by refine P_ func171 9 fun _ _ _ _=>?_;exact rK
def band(a b:Int):Int:=bitsOf .and .i32 a b
def bor(a b:Int):Int:=bitsOf .or .i32 a b
def bxor(a b:Int):Int:=bitsOf .xor .i32 a b
def bnot(a:Int):Int:=bitsOf .xor .i32 (-1) a
theorem t1_p(a b:Int):Pure prog a9 149 [aL a,aL b] (aL (band a b)):=by refine P_ func149 8 fun _ _ _ _=>?_;exact rK
theorem t2_p(a b:Int):Pure prog a9 150 [aL a,aL b] (aL (bor a b)):=by refine P_ func150 8 fun _ _ _ _=>?_;exact rK
theorem t3_p(a b:Int):Pure prog a9 151 [aL a,aL b] (aL (bxor a b)):=by refine P_ func151 8 fun _ _ _ _=>?_;exact rK
theorem t4_p(a b:Int):Pure prog a9 154 [aL a,aL b] (aL (vU (0-a))):=by refine P_ func154 7 fun _ _ _ _=>?_;exact rK
theorem t5_p(a b:Int):Pure prog a9 155 [aL a,aL b] (aL (bnot a)):=by refine P_ func155 7 fun _ _ _ _=>?_;exact rK
theorem te1_p(a b:Int):Pure prog a9 165 [aL a,aL b] (AB (a==b)):=by refine P_ func165 8 fun _ _ _ _=>?_;exact rK
theorem te2_p(a b:Int):Pure prog a9 166 [aL a,aL b] (AB (a !=b)):=by refine P_ func166 8 fun _ _ _ _=>?_;exact rK
theorem te3_p(a b:Int):Pure prog a9 167 [aL a,aL b] (AB (decide (a<b))):=by refine P_ func167 8 fun _ _ _ _=>?_;exact rK
theorem te4_p(a b:Int):Pure prog a9 168 [aL a,aL b] (AB (decide (b<a))):=by refine P_ func168 8 fun _ _ _ _=>?_;exact rK
theorem te5_p(a b:Int):Pure prog a9 169 [aL a,aL b] (AB (decide (a<=b))):=by refine P_ func169 8 fun _ _ _ _=>?_;exact rK
theorem te6_p(a b:Int):Pure prog a9 170 [aL a,aL b] (AB (decide (b<=a))):=by refine P_ func170 8 fun _ _ _ _=>?_;exact rK
def dS(b:Bool):Int:=if b then 1 else 0
theorem truth_p(b:Bool):Pure prog a9 158 [AB b] (aL (dS b)):=by
 refine P_ func158 4 fun _ _ _ _=>?_;refine y_ ?_;refine k_ (fun hc=>?_) fun hc=>?_
 ·refine y_ ?_;refine R_ ?_;subst hc;exact .refl
 ·refine y_ ?_;refine R_ ?_;subst hc;exact .refl
theorem RA(f:FuncId)(a b:Int)(r:Bool)(hf:Pure prog a9 f [aL a,aL b] (AB r)):Pure prog a9 157 [aL a,aL b, .pe 1 (.fn f [] [])] (aL (dS r)):=by refine P_ func157 11 fun _ _ _ _=>?_;refine y_ ?_;refine n_ hf ?_;exact lR (truth_p _)
def jI(o:Int):AV:=
 if o=14 then .fn 165 [] [] else if o=15 then .fn 166 [] [] else if o=16 then .fn 167 [] [] else if o=17 then .fn 168 [] []
 else if o=18 then .fn 169 [] [] else if o=19 then .fn 170 [] [] else if o=22 then .fn 171 [] [] else .v .nilFunc
theorem T2(o:Int):Pure prog a9 156 [aU o] (jI o):=by
 refine P_ func156 18 fun _ _ _ _=>?_;refine y_ ?_;refine k_ (fun h1=>?_) fun h1=>?_;(· (refine y_ ?_;refine R_ ?_;refine Sb.eq ?_;simp at*;simp [jI, *]));refine y_ ?_;refine k_ (fun h2=>?_) fun h2=>?_;(· (refine y_ ?_;refine R_ ?_;refine Sb.eq ?_;simp at*;simp [jI, *]));refine y_ ?_;refine k_ (fun h3=>?_) fun h3=>?_;(· (refine y_ ?_;refine R_ ?_;refine Sb.eq ?_;simp at*;simp [jI, *]));refine y_ ?_;refine k_ (fun h4=>?_) fun h4=>?_;(· (refine y_ ?_;refine R_ ?_;refine Sb.eq ?_;simp at*;simp [jI, *]));refine y_ ?_;refine k_ (fun h5=>?_) fun h5=>?_;(· (refine y_ ?_;refine R_ ?_;refine Sb.eq ?_;simp at*;simp [jI, *]));refine y_ ?_;refine k_ (fun h6=>?_) fun h6=>?_;(· (refine y_ ?_;refine R_ ?_;refine Sb.eq ?_;simp at*;simp [jI, *]));refine y_ ?_;refine k_ (fun h7=>?_) fun h7=>?_;(· (refine y_ ?_;refine R_ ?_;refine Sb.eq ?_;simp at*;simp [jI, *]))
 (· (refine y_ ?_;refine R_ ?_;refine Sb.eq ?_;simp at*;simp [jI, *]))
def dG(o:Int):AV:=
 if o=6 then .fn 146 [] [] else if o=7 then .fn 147 [] [] else if o=8 then .fn 148 [] [] else if o=9 then .fn 149 [] []
 else if o=10 then .fn 150 [] [] else if o=11 then .fn 151 [] [] else if o=12 then .fn 152 [] [] else if o=13 then .fn 153 [] []
 else if o=24 then .fn 154 [] [] else if o=25 then .fn 155 [] [] else match jI o with
  | .fn f a b=> .fn 157 [] [.pe 1 (.fn f a b)] |_=> .v .nilFunc
theorem JY(o:Int):(∃f,jI o= .fn f [] []/\(o=14\/o=15\/o=16\/o=17\/o=18\/o=19\/o=22))\/(jI o= .v .nilFunc/\o≠14/\o≠15/\o≠16/\o≠17/\o≠18/\o≠19/\o≠22):=by unfold jI;(repeat' split)<;>first|exact .inl ⟨_,rfl,by omega⟩|exact .inr ⟨rfl,by omega⟩
theorem T4(o:Int):Pure prog a9 143 [aU o] (dG o):=by
 rcases JY o with ⟨f,hf,ho⟩|⟨hf,ho⟩
 ·have e:dG o= .fn 157 [] [.pe 1 (.fn f [] [])]:=by
   unfold dG;rw [hf];repeat rw [iF (by omega)]
  refine P_ func143 30 fun _ _ _ _=>?_;refine y_ ?_;refine k_ (fun h1=>?_) fun h1=>?_;(· (refine y_ ?_;refine R_ ?_;refine Sb.eq ?_;simp at*;simp [dG, *]));refine y_ ?_;refine k_ (fun h2=>?_) fun h2=>?_;(· (refine y_ ?_;refine R_ ?_;refine Sb.eq ?_;simp at*;simp [dG, *]));refine y_ ?_;refine k_ (fun h3=>?_) fun h3=>?_;(· (refine y_ ?_;refine R_ ?_;refine Sb.eq ?_;simp at*;simp [dG, *]));refine y_ ?_;refine k_ (fun h4=>?_) fun h4=>?_;(· (refine y_ ?_;refine R_ ?_;refine Sb.eq ?_;simp at*;simp [dG, *]));refine y_ ?_;refine k_ (fun h5=>?_) fun h5=>?_;(· (refine y_ ?_;refine R_ ?_;refine Sb.eq ?_;simp at*;simp [dG, *]));refine y_ ?_;refine k_ (fun h6=>?_) fun h6=>?_;(· (refine y_ ?_;refine R_ ?_;refine Sb.eq ?_;simp at*;simp [dG, *]));refine y_ ?_;refine k_ (fun h7=>?_) fun h7=>?_;(· (refine y_ ?_;refine R_ ?_;refine Sb.eq ?_;simp at*;simp [dG, *]));refine y_ ?_;refine k_ (fun h8=>?_) fun h8=>?_;(· (refine y_ ?_;refine R_ ?_;refine Sb.eq ?_;simp at*;simp [dG, *]));refine y_ ?_;refine k_ (fun h9=>?_) fun h9=>?_;(· (refine y_ ?_;refine R_ ?_;refine Sb.eq ?_;simp at*;simp [dG, *]));refine y_ ?_;refine k_ (fun ha=>?_) fun ha=>?_;(· (refine y_ ?_;refine R_ ?_;refine Sb.eq ?_;simp at*;simp [dG, *]));refine y_ ?_;refine n_ (hf▸T2 o) ?_;refine A.alloc T T T T T T fun bx=>?_;refine A.store T T T T T T T ?_;refine A.freeze 3 T T T ?_;refine y_ ?_;refine R_ ?_;rw [e];exact .refl
 ·refine P_ func143 30 fun _ _ _ _=>?_;refine y_ ?_;refine k_ (fun h1=>?_) fun h1=>?_;(· (refine y_ ?_;refine R_ ?_;refine Sb.eq ?_;simp at*;simp [dG, *]));refine y_ ?_;refine k_ (fun h2=>?_) fun h2=>?_;(· (refine y_ ?_;refine R_ ?_;refine Sb.eq ?_;simp at*;simp [dG, *]));refine y_ ?_;refine k_ (fun h3=>?_) fun h3=>?_;(· (refine y_ ?_;refine R_ ?_;refine Sb.eq ?_;simp at*;simp [dG, *]));refine y_ ?_;refine k_ (fun h4=>?_) fun h4=>?_;(· (refine y_ ?_;refine R_ ?_;refine Sb.eq ?_;simp at*;simp [dG, *]));refine y_ ?_;refine k_ (fun h5=>?_) fun h5=>?_;(· (refine y_ ?_;refine R_ ?_;refine Sb.eq ?_;simp at*;simp [dG, *]));refine y_ ?_;refine k_ (fun h6=>?_) fun h6=>?_;(· (refine y_ ?_;refine R_ ?_;refine Sb.eq ?_;simp at*;simp [dG, *]));refine y_ ?_;refine k_ (fun h7=>?_) fun h7=>?_;(· (refine y_ ?_;refine R_ ?_;refine Sb.eq ?_;simp at*;simp [dG, *]));refine y_ ?_;refine k_ (fun h8=>?_) fun h8=>?_;(· (refine y_ ?_;refine R_ ?_;refine Sb.eq ?_;simp at*;simp [dG, *]));refine y_ ?_;refine k_ (fun h9=>?_) fun h9=>?_;(· (refine y_ ?_;refine R_ ?_;refine Sb.eq ?_;simp at*;simp [dG, *]));refine y_ ?_;refine k_ (fun ha=>?_) fun ha=>?_;(· (refine y_ ?_;refine R_ ?_;refine Sb.eq ?_;simp at*;simp [dG, *]));refine y_ ?_;refine n_ (hf▸T2 o) ?_
  (refine b_ fun bx=>?_;refine y_ ?_);refine R_ ?_;refine Sb.eq ?_;simp at*;simp [dG, *]
def yW(a:Int):Bool:=a==0||a==1
def eH(o a b:Int):Option Int:=
 if o=1 then AD (a+b) else if o=2 then AD (a-b) else if o=3 then AD (a*b)
 else if o=4 then (if wE a b then none else some (a.tdiv b)) else if o=5 then (if b=0 then none else some (a.tmod b))
 else if o=6 then some (vU (a+b)) else if o=7 then some (vU (a-b)) else if o=8 then some (vU (a*b))
 else if o=9 then some (band a b) else if o=10 then some (bor a b) else if o=11 then some (bxor a b)
 else if o=12 then some (shlM a b) else if o=13 then some (shrM a b)
 else if o=14 then some (dS (a==b)) else if o=15 then some (dS (a !=b)) else if o=16 then some (dS (decide (a<b)))
 else if o=17 then some (dS (decide (b<a))) else if o=18 then some (dS (decide (a<=b))) else if o=19 then some (dS (decide (b<=a)))
 else if o=20 then (if yW a&&yW b then some (dS (a==1&&b==1)) else none)
 else if o=21 then (if yW a&&yW b then some (dS (a==1||b==1)) else none)
 else if o=22 then some (dS (decide (0<vU (a-b)))) else if o=23 then AD (0-a) else if o=24 then some (vU (0-a))
 else if o=25 then some (bnot a) else if o=26 then (if yW a then some (dS (a==0)) else none) else none
theorem N9(o a b:Int)(ha:i32 a)(hb:i32 b):
 (∃f caps r,dG o= .fn f [] caps/\eH o a b=some r/\Pure prog a9 f ([aL a,aL b]++caps) (aL r))\/
 (dG o= .v .nilFunc/\(o<6\/19<o/\o≠22/\o≠24/\o≠25)):=by
 by_cases h:o=6
 ·subst h;exact .inl ⟨_,[],_,rfl,rfl,wsum_p a b⟩
 by_cases h:o=7
 ·subst h;exact .inl ⟨_,[],_,rfl,rfl,wdiff_p a b⟩
 by_cases h:o=8
 ·subst h;exact .inl ⟨_,[],_,rfl,rfl,wprod_p a b⟩
 by_cases h:o=9
 ·subst h;exact .inl ⟨_,[],_,rfl,rfl,t1_p a b⟩
 by_cases h:o=10
 ·subst h;exact .inl ⟨_,[],_,rfl,rfl,t2_p a b⟩
 by_cases h:o=11
 ·subst h;exact .inl ⟨_,[],_,rfl,rfl,t3_p a b⟩
 by_cases h:o=12
 ·subst h;exact .inl ⟨_,[],_,rfl,rfl,wshl_p a b ha hb⟩
 by_cases h:o=13
 ·subst h;exact .inl ⟨_,[],_,rfl,rfl,wshr_p a b ha hb⟩
 by_cases h:o=24
 ·subst h;exact .inl ⟨_,[],_,rfl,rfl,t4_p a b⟩
 by_cases h:o=25
 ·subst h;exact .inl ⟨_,[],_,rfl,rfl,t5_p a b⟩
 by_cases h:o=14
 ·subst h;exact .inl ⟨_,_,_,rfl,rfl,RA _ a b _ (te1_p a b)⟩
 by_cases h:o=15
 ·subst h;exact .inl ⟨_,_,_,rfl,rfl,RA _ a b _ (te2_p a b)⟩
 by_cases h:o=16
 ·subst h;exact .inl ⟨_,_,_,rfl,rfl,RA _ a b _ (te3_p a b)⟩
 by_cases h:o=17
 ·subst h;exact .inl ⟨_,_,_,rfl,rfl,RA _ a b _ (te4_p a b)⟩
 by_cases h:o=18
 ·subst h;exact .inl ⟨_,_,_,rfl,rfl,RA _ a b _ (te5_p a b)⟩
 by_cases h:o=19
 ·subst h;exact .inl ⟨_,_,_,rfl,rfl,RA _ a b _ (te6_p a b)⟩
 by_cases h:o=22
 ·subst h;exact .inl ⟨_,_,_,rfl,rfl,RA _ a b _ (wafter_p a b)⟩
 refine .inr ⟨?_,by omega⟩;have ht:jI o= .v .nilFunc:=by unfold jI;repeat rw [iF (by assumption)]
 unfold dG;rw [ht];repeat rw [iF (by assumption)]
def uB(a:Int):Bool:=bitsOf .andNot .i32 a 1 !=0
def pO(o a b:Int):Int×Bool:=
 if o=1 then (vU (a+b),uT (a+b)) else if o=2 then (vU (a-b),uT (a-b)) else if o=3 then (vU (a*b),uT (a*b))
 else if o=4 then (U1 a b, !wE a b) else if o=5 then (QP a b, !(b==0)) else if o=23 then (vU (0-a),uT (0-a))
 else if o=20 then (band a b, !uB (bor a b)) else if o=21 then (bor a b, !uB (bor a b)) else if o=26 then (vU (1-a), !uB a) else (0,false)
theorem V0(o a b:Int)(ha:i32 a)(hb:i32 b):Pure prog a9 144 [aU o,aL a,aL b] (.tp [aL (pO o a b).1,AB (pO o a b).2]):=by
 have z0:i32 0:=⟨by decide,by decide⟩;refine P_ func144 87 fun _ _ _ _=>?_;refine y_ ?_;refine k_ (fun h1=>?_) fun h1=>?_
 ·refine y_ ?_;refine n_ (wadd_p a b ha hb) ?_;(refine y_ ?_;refine q_ ?_;refine Sb.eq ?_;simp at*;simp [pO, *])
 refine y_ ?_;refine k_ (fun h2=>?_) fun h2=>?_
 ·refine y_ ?_;refine n_ (wsub_p a b ha hb) ?_;(refine y_ ?_;refine q_ ?_;refine Sb.eq ?_;simp at*;simp [pO, *])
 refine y_ ?_;refine k_ (fun h3=>?_) fun h3=>?_
 ·refine y_ ?_;refine n_ (wmul_p a b ha hb) ?_;(refine y_ ?_;refine q_ ?_;refine Sb.eq ?_;simp at*;simp [pO, *])
 refine y_ ?_;refine k_ (fun h4=>?_) fun h4=>?_
 ·refine y_ ?_;refine n_ (wdiv_p a b ha hb) ?_;(refine y_ ?_;refine q_ ?_;refine Sb.eq ?_;simp at*;simp [pO, *])
 refine y_ ?_;refine k_ (fun h5=>?_) fun h5=>?_
 ·refine y_ ?_;refine n_ (wrem_p a b ha hb) ?_;(refine y_ ?_;refine q_ ?_;refine Sb.eq ?_;simp at*;simp [pO, *])
 refine y_ ?_;refine k_ (fun h6=>?_) fun h6=>?_
 ·refine y_ ?_;refine n_ (wsub_p 0 a z0 ha) ?_;(refine y_ ?_;refine q_ ?_;refine Sb.eq ?_;simp at*;simp [pO, *])
 refine y_ ?_;refine k_ (fun h7=>?_) fun h7=>?_
 ·refine y_ ?_;refine q_ ?_;refine Sb.eq ?_;simp at h1 h2 h3 h4 h5 h6 h7;subst h7;rfl
 refine y_ ?_;refine k_ (fun h8=>?_) fun h8=>?_
 ·refine y_ ?_;refine q_ ?_;refine Sb.eq ?_;simp at h8;subst h8;rfl
 refine y_ ?_;refine k_ (fun h9=>?_) fun h9=>?_
 ·refine y_ ?_;refine q_ ?_;refine Sb.eq ?_;simp at h9;subst h9;rfl
 (refine y_ ?_;refine q_ ?_;refine Sb.eq ?_;simp at*;simp [pO, *])
theorem JG(n:Nat):BitVec.ofInt 32 (IntKind.i32.wrap (n:Int))=BitVec.ofNat 32 n:=by apply BitVec.eq_of_toInt_eq;rw [BitVec.toInt_ofInt,BitVec.toInt_ofNat',qW];rw [Int.bmod_def,Int.bmod_def];simp only [show ((2^32:Nat):Int)=4294967296 by decide];split<;>split<;>omega
theorem AX{x:BitVec 32}(h:IntKind.i32.wrap (x.toNat:Int)=0):x=0:=by have hx:=x.isLt;rw [qW] at h;apply BitVec.eq_of_toNat_eq;simp only [BitVec.ofNat_eq_ofNat,BitVec.toNat_ofNat];omega
theorem uK{x:BitVec 32}(h:x&&& ~~~(1#32)=0):x.toNat<2:=by
 have key:x>>>1=0#32:=by
  apply BitVec.eq_of_getLsbD_eq;intro i hi;have h1:(x&&& ~~~(1#32)).getLsbD (1+i)=false:=by rw [h];simp
  rw [BitVec.getLsbD_and,BitVec.getLsbD_not] at h1;rw [BitVec.getLsbD_ushiftRight]
  by_cases h32:1+i<32
  ·have h2:(1#32).getLsbD (1+i)=false:=by
    rw [BitVec.getLsbD_ofNat];have:(1:Nat).testBit (1+i)=false:=by rw [Nat.testBit_eq_decide_div_mod_eq];simp;rw [Nat.div_eq_of_lt (Nat.one_lt_two_pow (by omega))]
    simp [this]
   simp [h2,h32] at h1;rw [BitVec.getLsbD_eq_getElem h32,h1];simp
  ·have:=BitVec.getLsbD_of_ge x (1+i) (by omega);simp [this]
 have h2:=congrArg BitVec.toNat key;simp [BitVec.toNat_ushiftRight,Nat.shiftRight_eq_div_pow] at h2;omega
theorem or_zero{x y z:BitVec 32}(h:(x|||y)&&&z=0):x&&&z=0/\y&&&z=0:=by
 have key: ∀i,((x|||y)&&&z).getLsbD i=false:=fun i=>by rw [h];simp
 constructor<;>(apply BitVec.eq_of_getLsbD_eq;intro i hi;have:=key i;simp only [BitVec.getLsbD_and,BitVec.getLsbD_or] at this⊢;revert this;cases x.getLsbD i<;>cases y.getLsbD i<;>cases z.getLsbD i<;>simp)
theorem PQ{a:Int}(ha:i32 a)(h:(BitVec.ofInt 32 a).toNat<2):yW a=true:=by unfold i32 at ha;rw [BitVec.toNat_ofInt] at h;simp only [show ((2^32:Nat):Int)=4294967296 by decide] at h;simp [yW];omega
theorem NB{a b:Int}(ha:i32 a)(hb:i32 b):uB (bor a b)= !(yW a&&yW b):=by
 by_cases h:(yW a&&yW b)=true
 ·simp [yW] at h;obtain ⟨h1|h1,h2|h2⟩:=h<;>subst h1<;>subst h2<;>decide
 ·have h':(yW a&&yW b)=false:=by simpa using h
  rw [h'];simp only [ar3];unfold uB;rw [bne_iff_ne];intro hz;apply h;unfold bor at hz;simp only [bitsOf] at hz;have hz:=AX hz;simp only [ak8] at hz;rw [JG] at hz;rw [BitVec.ofNat_toNat,BitVec.setWidth_eq] at hz;have hone:BitVec.ofInt 32 1=1#32:=by decide
  rw [hone] at hz;obtain ⟨hA,hB⟩:=or_zero hz;simp [PQ ha (uK hA),PQ hb (uK hB)]
theorem VY{a:Int}(ha:i32 a):uB a= !yW a:=by
 by_cases h:yW a=true
 ·simp [yW] at h;rcases h with h|h<;>subst h<;>decide
 ·have h':yW a=false:=by simpa using h
  rw [h'];simp only [ar3];unfold uB;rw [bne_iff_ne];intro hz;apply h;simp only [bitsOf] at hz;have hz:=AX hz;simp only [ak8] at hz;have hone:BitVec.ofInt 32 1=1#32:=by decide
  rw [hone] at hz;exact PQ ha (uK hz)
theorem fit_w32{n:Int}(h:uT n=true):vU n=n:=by simp [uT] at h;unfold vU;rw [qW];omega
theorem QJ{o a b:Int}(ha:i32 a)(hb:i32 b)(h:o<6\/19<o/\o≠22/\o≠24/\o≠25):eH o a b=if (pO o a b).2 then some (pO o a b).1 else none:=by
 have fx: ∀n,AD n=if uT n then some (vU n) else none:=fun n=>by
  unfold AD;split
  ·rename_i h;rw [fit_w32 h]
  ·rfl
 by_cases h1:o=1
 ·subst h1;exact fx _
 by_cases h2:o=2
 ·subst h2;exact fx _
 by_cases h3:o=3
 ·subst h3;exact fx _
 by_cases h4:o=4
 ·subst h4;show (if wE a b then none else some (a.tdiv b))=if (!wE a b) then some (U1 a b) else none;unfold U1;cases wE a b<;>rfl
 by_cases h5:o=5
 ·subst h5;show (if b=0 then none else some (a.tmod b))=if (!(b==0)) then some (QP a b) else none;unfold QP;by_cases hb:b=0<;>simp [hb]
 by_cases h6:o=20
 ·subst h6;show (if yW a&&yW b then some (dS (a==1&&b==1)) else none)=if (!uB (bor a b)) then some (band a b) else none;rw [NB ha hb,ar9];split
  ·rename_i h;simp [yW] at h;obtain ⟨q1|q1,q2|q2⟩:=h<;>subst q1<;>subst q2<;>decide
  ·rfl
 by_cases h7:o=21
 ·subst h7;show (if yW a&&yW b then some (dS (a==1||b==1)) else none)=if (!uB (bor a b)) then some (bor a b) else none;rw [NB ha hb,ar9];split
  ·rename_i h;simp [yW] at h;obtain ⟨q1|q1,q2|q2⟩:=h<;>subst q1<;>subst q2<;>decide
  ·rfl
 by_cases h8:o=23
 ·subst h8;exact fx _
 by_cases h9:o=26
 ·subst h9;show (if yW a then some (dS (a==0)) else none)=if (!uB a) then some (vU (1-a)) else none;rw [VY ha,ar9];split
  ·rename_i h;simp [yW] at h;rcases h with q1|q1<;>subst q1<;>decide
  ·rfl
 have e1:eH o a b=none:=by unfold eH;repeat rw [iF (by omega)]
 have e2:pO o a b=(0,false):=by unfold pO;repeat rw [iF (by omega)]
 rw [e1,e2];rfl
theorem RW(o a b:Int)(ha:i32 a)(hb:i32 b):Pure prog a9 135 [aU o,aL a,aL b] (vF (eH o a b)):=by
 rcases N9 o a b ha hb with ⟨f,caps,r,h1,h2,h3⟩|⟨h1,h2⟩
 ·refine P_ func135 29 fun _ _ _ _=>?_;refine y_ ?_;refine c_ (h1▸T4 o) ?_;refine c_ h3 ?_;refine q_ ?_;rw [h2];exact .refl
 ·have e:=QJ ha hb h2;refine P_ func135 29 fun _ _ _ _=>?_;refine y_ ?_;refine c_ (h1▸T4 o) ?_;refine c_ (V0 o a b ha hb) ?_;refine k_ (fun hc=>?_) fun hc=>?_
  ·refine y_ ?_;refine q_ ?_;simp at hc;rw [e,hc];exact .refl
  ·refine y_ ?_;refine q_ ?_;simp at hc;rw [e,hc];exact .refl
def bat(a:Int)(i:Nat):Int:=EM a / 2^i % 2
def CH(t v:Int):Option Int:=if t=1\/t=2/\0<=v/\v<=255\/t=3/\0<=v/\v<=1 then some v else none
theorem bF(l:List KE):(bB l).length=l.length:=by rw [pD,aa0]
theorem plain_p(e:KE)(hw:iZ e):Pure prog a9 133 [eE e] (AB (aY e)):=by
 obtain ⟨k,o,t,n,v,l⟩:=e;simp only [iZ,u8,i32,i64] at hw;obtain ⟨hw,_⟩:=hw;rw [eE]
 by_cases h1:k=1
 ·subst h1;refine P_ func133 86 fun _ _ _ _=>?_
  (refine rL fun bx=>?_;refine rL fun bx=>?_;refine g_ ?_);refine R_ ?_;(refine Sb.eq (jS ?_);simp only [aY,KE.kind,KE.oper,KE.to,KE.n,KE.v,KE.l,bF];generalize l.length=len at*;(try simp at hc);(try simp at hd);simp;omega)
 by_cases h2:k=2
 ·subst h2;refine P_ func133 86 fun _ _ _ _=>?_
  (refine rL fun bx=>?_;refine rL fun bx=>?_;refine g_ ?_)
  refine k_ (fun hc=>?_) fun hc=>?_
  ·refine y_ ?_;refine R_ ?_;(refine Sb.eq (jS ?_);simp only [aY,KE.kind,KE.oper,KE.to,KE.n,KE.v,KE.l,bF];generalize l.length=len at*;(try simp at hc);(try simp at hd);simp;omega)
  ·refine g_ ?_;refine R_ ?_;(refine Sb.eq (jS ?_);simp only [aY,KE.kind,KE.oper,KE.to,KE.n,KE.v,KE.l,bF];generalize l.length=len at*;(try simp at hc);(try simp at hd);simp;omega)
 by_cases h3:k=3
 ·subst h3;refine P_ func133 86 fun _ _ _ _=>?_
  (refine rL fun bx=>?_;refine rL fun bx=>?_;refine g_ ?_)
  refine k_ (fun hc=>?_) fun hc=>?_
  ·refine y_ ?_;refine R_ ?_;(refine Sb.eq (jS ?_);simp only [aY,KE.kind,KE.oper,KE.to,KE.n,KE.v,KE.l,bF];generalize l.length=len at*;(try simp at hc);(try simp at hd);simp;omega)
  ·refine g_ ?_;refine R_ ?_;(refine Sb.eq (jS ?_);simp only [aY,KE.kind,KE.oper,KE.to,KE.n,KE.v,KE.l,bF];generalize l.length=len at*;(try simp at hc);(try simp at hd);simp;omega)
 by_cases h4:k=4
 ·subst h4;refine P_ func133 86 fun _ _ _ _=>?_
  (refine rL fun bx=>?_;refine rL fun bx=>?_;refine g_ ?_);refine R_ ?_;(refine Sb.eq (jS ?_);simp only [aY,KE.kind,KE.oper,KE.to,KE.n,KE.v,KE.l,bF];generalize l.length=len at*;(try simp at hc);(try simp at hd);simp;omega)
 by_cases h5:k=5
 ·subst h5;refine P_ func133 86 fun _ _ _ _=>?_
  (refine rL fun bx=>?_;refine rL fun bx=>?_;refine g_ ?_);refine R_ ?_;(refine Sb.eq (jS ?_);simp only [aY,KE.kind,KE.oper,KE.to,KE.n,KE.v,KE.l,bF];generalize l.length=len at*;(try simp at hc);(try simp at hd);simp;omega)
 by_cases h6:k=6
 ·subst h6;refine P_ func133 86 fun _ _ _ _=>?_
  (refine rL fun bx=>?_;refine rL fun bx=>?_;refine g_ ?_);refine R_ ?_;(refine Sb.eq (jS ?_);simp only [aY,KE.kind,KE.oper,KE.to,KE.n,KE.v,KE.l,bF];generalize l.length=len at*;(try simp at hc);(try simp at hd);simp;omega)
 refine P_ func133 86 fun _ _ _ _=>?_;(repeat (first|first|refine A.s T ?_|refine A.r T T ?_|refine A.w T T ?_|refine A.p T ?_|refine A.b T fun bx=>?_|refine A.t T fun bl=>?_|refine A.cond T (fun h=>(by simp at h;omega)) (fun _=>?_)|first|refine A.step T ?_|refine A.v T T ?_));refine R_ ?_;refine Sb.eq ?_;simp [aY, *]
abbrev rJ(r:List Int):AV:= .sl 1 (r.map aL) none
abbrev eQ(s:List (List Int)):AV:= .sl 1 (s.map rJ) none
theorem Q3(v:Int)(ok:Bool):Pure prog a9 134 [aL v,AB ok] (vF (if ok then some v else none)):=by
 refine P_ func134 9 fun _ _ _ _=>?_;refine y_ ?_;refine k_ (fun hc=>?_) fun hc=>?_
 ·refine y_ ?_;refine q_ ?_;simp at hc;subst hc;exact .refl
 ·refine y_ ?_;refine q_ ?_;simp at hc;subst hc;exact .refl
def cL(k v:Int):Bool:=if k=2 then decide (0<=v)&&decide (v<=255) else if k=3 then v==0||v==1 else k==1
theorem ZA(k v:Int):Pure prog a9 70 [aU k,aL v] (AB (cL k v)):=by
 refine P_ func70 24 fun _ _ _ _=>?_;refine y_ ?_;refine k_ (fun hc=>?_) fun hc=>?_
 ·refine g_ ?_;refine R_ ?_;refine Sb.eq ?_;simp at hc;subst hc;simp [cL]
 ·refine y_ ?_;refine k_ (fun hd=>?_) fun hd=>?_
  ·refine g_ ?_;refine R_ ?_;refine Sb.eq ?_;simp at hc hd;subst hd;simp [cL]
  ·refine y_ ?_;refine R_ ?_;refine Sb.eq ?_;simp at hc hd;simp [cL,hc,hd]
theorem FT(k v:Int):CH k v=if cL k v then some v else none:=by
 unfold CH cL
 by_cases h1:k=1
 ·subst h1;simp
 by_cases h2:k=2
 ·subst h2;simp
 by_cases h3:k=3
 ·subst h3;simp;by_cases h:0<=v/\v<=1
  ·rw [iT h,iT (by omega)]
  ·rw [iF h,iF (by omega)]
 ·simp [h1,h2,h3]
def A5(s:List (List Int))(v i:Int):Option Int:=if v<0\/i<0 then none else (s[v.toNat]?).bind (·[i.toNat]?)
theorem OZ(s:List (List Int))(v i:Int):Pure prog a9 57 [eQ s,AI v,AI i] (vF (A5 s v i)):=by
 refine P_ func57 36 fun _ _ _ _=>?_
 (refine g_ ?_;refine A.split 20 T (fun hc=>?_) (fun hc=>?_);(refine y_ ?_;refine q_ ?_;refine Sb.eq ?_;simp at hc;have:A5 s v i=none:=(by unfold A5;split;rfl;rw [A6 (by omega)];rfl);rw [this];rfl);simp at hc;refine ac7 (FG hc.1.1 hc.1.2) fun r hr=>?_;have e1:A5 s v i=r[i.toNat]? :=(by unfold A5;rw [iF (by omega),hr];rfl);refine i_ T (aR hr) T ?_;refine k_ (fun hd=>?_) fun hd=>?_;(simp at hd;refine y_ ?_;refine q_ ?_;rw [e1,A6 hd];exact .refl);simp at hd;refine y_ ?_;refine i_ T (aR hr) T ?_;refine ac7 (FG hc.2 hd) fun x hx=>?_;refine i_ T (aR hx) T ?_;refine q_ ?_;rw [e1,hx];exact .refl)
def allEq{α β:Type}(f:α->β->Bool)(a:List α)(b:List β)(i:Nat):Bool:=(List.range i).all fun k=>match a[k]?,b[k]? with
 |some x,some y=>f x y |_,_=>true
theorem OV{α β:Type}(f:α->β->Bool){a:List α}{b:List β}{i:Nat}{x:α}{y:β}(hx:a[i]? =some x)(hy:b[i]? =some y):allEq f a b (i+1)=(allEq f a b i&&f x y):=by unfold allEq;rw [List.range_succ,List.all_append];simp [hx,hy]
theorem KI{α β:Type}{f:α->β->Bool}{a:List α}{b:List β}{j:Nat}(h:allEq f a b j=false): ∀n,j<=n->allEq f a b n=false:=by intro n hn;unfold allEq at*;rw [List.all_eq_false] at*;obtain ⟨k,h1,h2⟩:=h;exact ⟨k,by simp at*;omega,h2⟩
def short(s:List (List Int)):Prop:=s.length<=281474976710656/\ ∀r,r∈s->r.length<=281474976710656
structure KV where
 kind:Int
 dim:Int
abbrev rF(v:KV):AV:= .ag [aU v.kind,AI v.dim]
def jG(v:KV):Bool:=(v.kind==1||v.kind==2||v.kind==3)&&decide (0<=v.dim)&&decide (v.dim<=64)
theorem sound_p(v:KV):Pure prog a9 66 [rF v] (AB (jG v)):=by
 obtain ⟨k,d⟩:=v;refine P_ func66 26 fun _ _ _ _=>?_
 (refine rL fun bx=>?_;refine g_ ?_);refine R_ ?_
 refine Sb.eq (aA ?_);simp only [jG];cases (k==1)<;>cases (k==2)<;>cases (k==3)<;>cases decide (0<=d)<;>simp
theorem row_one(r:List Int)(h:GH)(zs:List Value)(q:dM h (r.map aL) zs): ∀z,z∈zs->aP (aI z)=true:=by
 induction r generalizing zs with
 |nil=>rw [List.map_nil,aQ] at q;subst q;intro z hz;cases hz |cons x r ih=>
  rw [List.map_cons,aG] at q;obtain ⟨v,vs,rfl,q1,q2⟩:=q;rw [bE] at q1;intro z hz;rcases ab0.1 hz with rfl|hz
  ·rw [q1.1];rfl
  ·exact ih vs q2 z hz
theorem clone_p(r:List Int)(hr:r.length<=35184372088832):gM prog a9 22 [rJ r] [] (fun z:Value=> .ms z 1 r.length) (fun z=>[.row 1 z (r.map aL)]) (fun _=>True):=by
 unfold gM;cases r with
 |nil=>
  refine lI.of (S:=tt) (fn:=f22) (n:=8) dN func22 T T T T fun w0 h0 F hgs=>?_;refine y_ ?_;refine A.ey T T T T T T T T fun b hb=>?_;cases b
  ·refine y_ ?_;refine A.fq T T T T T T T fun bl=>?_;refine y_ ?_;refine A.bq T T T T T T T T T T T T T (by show (List.map aL _).length*1<=_;rw [aa0];omega) (by show (List.map aL _).length*1*4<=_;rw [aa0];omega) (fun x hx=>by injection hx with hx;subst hx;rfl) (row_one _) fun z=>?_;refine y_ ?_;refine A.az (Λ':=[.row 1 z _]) T T T kK ⟨z, .refl,rfl,trivial⟩
  ·refine y_ ?_;refine A.fc 2 1 T fun z=>?_;refine A.az (Λ':=[.row 1 z []]) T T T kK ⟨z, .refl,rfl,trivial⟩
 |cons x r=>
  refine lI.of (S:=tt) (fn:=f22) (n:=8) dN func22 T T T T fun w0 h0 F hgs=>?_;refine y_ ?_;refine A.ey T T T T T T T T fun b hb=>?_;cases b
  case true=>cases hb T
  refine y_ ?_;refine A.fq T T T T T T T fun bl=>?_;refine y_ ?_;refine A.bq T T T T T T T T T T T T T (by show (List.map aL _).length*1<=_;rw [aa0];omega) (by show (List.map aL _).length*1*4<=_;rw [aa0];omega) (fun x hx=>by injection hx with hx;subst hx;rfl) (row_one _) fun z=>?_;refine y_ ?_;refine A.ad 2 T (x':= .ms z 1 (x::r).length) (by rw [aa0];rfl) ?_;refine A.az (Λ':=[.row 1 z _]) T T T kK ⟨z, .refl,rfl,trivial⟩
abbrev bW(hs:List (Value×List Int)):List (Value×List AV):=hs.map fun p=>(p.1,p.2.map aL)
def fU(s:List (List Int))(v i x:Int):List (List Int):=if (A5 s v i).isSome then (match s[v.toNat]? with|some r=>s.set v.toNat (r.set i.toNat x)|none=>s) else s
abbrev vB:AV:= .v (.slice none 0 0)
theorem kZ(hs:List (Value×List Int)):(uA 1 (bW hs)).length=hs.length:=by rw [uA,bW,aa0,aa0]
theorem TH(hs:List (Value×List Int))(z:Value)(r:List Int)(m:Nat):(uA 1 (bW hs)++List.replicate (m+1) vB).set hs.length (.ms z 1 r.length)=uA 1 (bW (hs++[(z,r)]))++List.replicate m vB:=by rw [List.set_append_right _ _ (by rw [kZ];exact aa6 _),kZ,ah9,List.replicate_succ,List.set_cons_zero];simp [uA,bW]
theorem set_rows{hs:List (Value×List Int)}{j:Nat}(hj:j<hs.length)(z:Value)(q:List Int):bW (hs.set j (z,q))=(bW hs).take j++(z,q.map aL)::(bW hs).drop (j+1):=by rw [bW,ap0,List.set_eq_take_append_cons_drop,iT (by rw [aa0];exact hj)]
theorem set_ms{hs:List (Value×List Int)}{j:Nat}{p:Value×List Int}(hp:hs[j]? =some p)(q:List Int)(hq:q.length=p.2.length):uA 1 (bW (hs.set j (p.1,q)))=uA 1 (bW hs):=by
 have hj:j<hs.length:=(ad3.1 hp).1;apply List.ext_getElem?;intro m;simp only [uA,bW,ab9,List.getElem?_set]
 by_cases h:j=m
 ·subst h;rw [iT T,iT hj,hp];simp [hq]
 ·rw [iF h]
theorem put_p(s:List (List Int))(v i x:Int)(h1:s.length<=1073741824)(h2: ∀r,r∈s->r.length<=35184372088832):
 gM prog a9 26 [eQ s,AI v,AI i,aL x] [] (fun p:Value×List (Value×List Int)=> .ms p.1 1 s.length) (fun p=>[.rows 1 (bW p.2), .row 1 p.1 (uA 1 (bW p.2))]) (fun p=>p.2.map am7=fU s v i x):=by
 unfold gM;have hl:((s.map rJ).length:Int)=s.length:=by rw [aa0]
 have hat:=OZ s v i;refine lI.of (S:=tt) (fn:=f26) (n:=46) dN func26 T T T T fun w0 h0 F hgs=>?_;refine y_ ?_;refine A.ad 15 T (x':=AI (s.length:Nat)) (aM hl) ?_;refine A.make T T T T T T T T T T T T (by omega) ?_ (by omega) fun zo=>?_
 ·show ((24:Nat):Int)*_<=_;omega
 refine y_ ?_;refine A.ad 9 T (x':= .ms zo 1 s.length) (by rw [ad9];rfl) ?_;refine A.au (Λ':=[.row 1 zo (List.replicate s.length vB)]) (by rw [ad9];rfl) ?_;refine A.ad 18 T (x':=AI (s.length:Nat)) (aM hl) ?_;refine A.ay [0,1,2,3,9,17,18,19] T ?_;refine A.je 1 ?_
 refine A.ar (ι:=List (Value×List Int)) (fun hs=>(⟨[(0,eQ s),(1,AI v),(2,AI i),(3,aL x),(9, .ms zo 1 s.length),(17,eQ s),(18,AI (s.length:Nat)),(19,AI (hs.length:Nat))],[]⟩,[.rows 1 (bW hs), .row 1 zo (uA 1 (bW hs)++List.replicate (s.length-hs.length) vB)]))
  (fun hs=>hs.map am7=s.take hs.length/\hs.length<=s.length) (fun hs=>s.length-hs.length) [] ⟨rfl,ac0 _⟩ T fun hs hi ih=>?_
 refine y_ ?_;refine k_ (fun hc=>?_) fun hc=>?_
 ·simp at hc;refine aX hc fun r hr=>?_;have hrl:=h2 r (aa2 hr);refine y_ ?_;refine i_ T (aR hr) T ?_;refine A.e T (clone_p r hrl) .refl (.refl _) fun z _=>?_;refine l_ (Λ':=[.row 1 z (r.map aL), .rows 1 (bW hs), .row 1 zo (uA 1 (bW hs)++List.replicate (s.length-hs.length) vB)]) ?_;refine A.ax T T T T T T T T (by omega) (by rw [aa7,kZ,ad4];omega) T ?_;refine A.cd T T T T T T T T T ?_ (xs':=uA 1 (bW (hs++[(z,r)]))++List.replicate (s.length-(hs++[(z,r)]).length) vB) ?_ ?_
  ·rw [aa7,kZ,ad4];omega
  ·have:=TH hs z r (s.length-(hs++[(z,r)]).length);rw [show s.length-hs.length=s.length-(hs++[(z,r)]).length+1 by simp;omega];exact this
  refine A.iq (.refl _) ?_;refine y_ ?_;refine A.ad 19 T (x':=AI (((hs++[(z,r)]).length:Nat):Int)) ?_ ?_
  ·rw [qG hs.length (by omega)];simp
  refine A.au (Λ':=[.rows 1 (bW (hs++[(z,r)])), .row 1 zo (uA 1 (bW (hs++[(z,r)]))++List.replicate (s.length-(hs++[(z,r)]).length) vB)]) (by simp [bW]) ?_;refine u_ (ih (hs++[(z,r)]) ⟨?_,by simp;omega⟩ (by simp;omega));simp [hi.1,ac6,hr]
 ·simp at hc;have hlen:hs.length=s.length:=by omega
  have hsnd:hs.map am7=s:=by rw [hi.1,hlen,ac4]
  refine A.au (Λ':=[.rows 1 (bW hs), .row 1 zo (uA 1 (bW hs))]) (by rw [hlen,ah9];simp) ?_;cases hv:A5 s v i with
  |none=>
   rw [hv] at hat;refine y_ ?_;refine c_ (hat) ?_;refine A.az (Λ':=[.rows 1 (bW hs), .row 1 zo (uA 1 (bW hs))]) T T T kK ⟨(zo,hs), .refl,rfl,?_⟩;show hs.map am7=_;rw [hsnd,fU,hv];rfl
  |some y=>
   rw [hv] at hat;refine y_ ?_;refine c_ (hat) ?_;unfold A5 at hv
   by_cases hneg:v<0\/i<0
   ·rw [iT hneg] at hv;cases hv
   rw [iF hneg] at hv;refine ac7 (Option.bind_eq_some_iff.1 hv) fun r hr=>?_;have hgv:hs[v.toNat]? =(hs[v.toNat]?):=rfl;have hv2:(hs.map am7)[v.toNat]? =some r:=by rw [hsnd];exact hr.1
   rw [ab9] at hv2;refine ac7 (Option.map_eq_some_iff.1 hv2) fun p hp=>?_;have hpl:(bW hs)[v.toNat]? =some (p.1,r.map aL):=by rw [bW,ab9,hp.1,<-hp.2];rfl
   have hvl:v.toNat<hs.length:=(ad3.1 hp.1).1;have hrl:i.toNat<r.length:=(ad3.1 hr.2).1;refine A.ax T T T T T T T T (by omega) (by rw [kZ];omega) T ?_;refine A.cy T T T T T T (y':= .ms p.1 1 (r.map aL).length) T (by rw [uA,ab9,hpl];rfl) T T ?_;refine A.ja v.toNat hpl (.refl _) ?_;refine y_ ?_;refine A.ax T T T T T T T T (by omega) (by rw [aa0];omega) T ?_;refine A.cd T T T T T T T T T (by rw [aa0];omega) (xs':=(r.set i.toNat x).map aL) ap0.symm ?_;refine A.im (.refl _) ?_;have hp2:p.2=r:=hp.2;refine A.au (Λ':=[.rows 1 (bW (hs.set v.toNat (p.1,r.set i.toNat x))), .row 1 zo (uA 1 (bW (hs.set v.toNat (p.1,r.set i.toNat x))))]) (by rw [set_ms hp.1 _ (by rw [List.length_set,hp2]),set_rows hvl]) ?_;refine y_ ?_;refine A.az (Λ':=[.rows 1 (bW (hs.set v.toNat (p.1,r.set i.toNat x))), .row 1 zo _]) T T T kK ⟨(zo,hs.set v.toNat (p.1,r.set i.toNat x)), .refl,rfl,?_⟩;show (hs.set v.toNat (p.1,r.set i.toNat x)).map am7=fU s v i x;rw [ap0,hsnd,fU,A5,iF hneg,hv,hr.1];rfl
def mU{α:Type}(p:α->Bool):List α->Nat->Int
 | [],_=> -1 |x::r,i=>if p x then (i:Int) else mU p r (i+1)
theorem nC{α:Type}(p:α->Bool): ∀(l:List α) (i:Nat),decide (0<=mU p l i)=l.any p
 | [],_=>rfl |x::r,i=>by
  rw [mU,List.any_cons];cases h:p x
  ·simp;exact nC p r (i+1)
  ·simp
theorem bS{α:Type}{l:List α}{i:Nat}{x:α}(h:l[i]? =some x):l.drop i=x::l.drop (i+1):=by obtain ⟨h1,h2⟩:=ad3.1 h;rw [<-h2,List.getElem_cons_drop]
theorem idx32_p(f:FuncId)(c:List AV)(p:Int->Bool)(hcb: ∀x,Pure prog a9 f (aL x::c) (AB (p x)))(l:List Int)(hb:l.length<=281474976710656):
 Pure prog a9 104 [rJ l, .fn f [] c] (AI (mU p l 0)):=by
 refine P_ func104 19 fun _ _ _ _=>?_
 (refine y_ ?_;refine A.ad 7 T (x':=AI (l.length:Nat)) (aM (by rw [aa0])) ?_)
 refine A.ay [0,1,7,8] T ?_;refine A.ar (ι:=Nat) (fun i=>(⟨[(0,rJ l),(1, .fn f [] c),(7,AI (l.length:Nat)),(8,AI (i:Int))],[]⟩,[])) (fun i=>i<=l.length/\mU p l 0=mU p (l.drop i) i) (fun i=>l.length-i) 0 ⟨by omega,rfl⟩ T fun i hi ih=>?_;refine y_ ?_;refine k_ (fun hc=>?_) fun hc=>?_
 ·simp at hc;refine aX hc fun x hx=>?_;refine y_ ?_;refine i_ T (aR hx) T ?_;refine A.c T (hcb x) fO.refl ?_;have h1:=hi.2;rw [bS hx,mU] at h1;cases hp:p x with
  |true=>
   rw [hp] at h1;refine y_ ?_;refine R_ ?_;rw [h1];exact .refl
  |false=>
   rw [hp] at h1;refine y_ ?_;refine vI 8 i ?_;refine u_ (ih (i+1) ⟨by omega,h1⟩ (by omega))
 ·simp at hc;have:i=l.length:=by omega
  subst this;refine y_ ?_;refine R_ ?_;rw [hi.2,ad2];exact .refl
theorem has32_p(f:FuncId)(c:List AV)(p:Int->Bool)(hcb: ∀x,Pure prog a9 f (aL x::c) (AB (p x)))(l:List Int)(hb:l.length<=281474976710656):
 Pure prog a9 68 [rJ l, .fn f [] c] (AB (l.any p)):=by
 refine P_ func68 9 fun _ _ _ _=>?_;refine y_ ?_;refine c_ (idx32_p f c p hcb l hb) ?_;refine R_ ?_;refine Sb.eq (aA ?_);exact nC p l 0
abbrev nR(l:List KV):AV:= .sl 2 (l.map rF) none
theorem idxV_p(f:FuncId)(c:List AV)(p:KV->Bool)(hcb: ∀x,Pure prog a9 f (rF x::c) (AB (p x)))(l:List KV)(hb:l.length<=281474976710656):
 Pure prog a9 103 [nR l, .fn f [] c] (AI (mU p l 0)):=by
 refine P_ func103 19 fun _ _ _ _=>?_
 (refine y_ ?_;refine A.ad 7 T (x':=AI (l.length:Nat)) (aM (by rw [aa0])) ?_)
 refine A.ay [0,1,7,8] T ?_;refine A.ar (ι:=Nat) (fun i=>(⟨[(0,nR l),(1, .fn f [] c),(7,AI (l.length:Nat)),(8,AI (i:Int))],[]⟩,[])) (fun i=>i<=l.length/\mU p l 0=mU p (l.drop i) i) (fun i=>l.length-i) 0 ⟨by omega,rfl⟩ T fun i hi ih=>?_;refine y_ ?_;refine k_ (fun hc=>?_) fun hc=>?_
 ·simp at hc;refine aX hc fun x hx=>?_;refine y_ ?_;refine i_ T (aR hx) T ?_;refine A.c T (hcb x) fO.refl ?_;have h1:=hi.2;rw [bS hx,mU] at h1;cases hp:p x with
  |true=>
   rw [hp] at h1;refine y_ ?_;refine R_ ?_;rw [h1];exact .refl
  |false=>
   rw [hp] at h1;refine y_ ?_;refine vI 8 i ?_;refine u_ (ih (i+1) ⟨by omega,h1⟩ (by omega))
 ·simp at hc;have:i=l.length:=by omega
  subst this;refine y_ ?_;refine R_ ?_;rw [hi.2,ad2];exact .refl
theorem hasV_p(f:FuncId)(c:List AV)(p:KV->Bool)(hcb: ∀x,Pure prog a9 f (rF x::c) (AB (p x)))(l:List KV)(hb:l.length<=281474976710656):
 Pure prog a9 64 [nR l, .fn f [] c] (AB (l.any p)):=by
 refine P_ func64 9 fun _ _ _ _=>?_;refine y_ ?_;refine c_ (idxV_p f c p hcb l hb) ?_;refine R_ ?_;refine Sb.eq (aA ?_);exact nC p l 0
theorem WK(v:KV):Pure prog a9 65 [rF v] (AB (!jG v)):=by
 refine P_ func65 6 fun _ _ _ _=>?_
 (refine b_ fun bx=>?_;refine y_ ?_);exact lR (sound_p v)
def dI(l:List KV):Bool:=decide (l.length<=256)&& !l.any (fun v=> !jG v)
theorem EK(l:List KV)(hb:l.length<=281474976710656):Pure prog a9 38 [nR l] (AB (dI l)):=by
 have hl:((l.map rF).length:Int)=l.length:=by rw [aa0]
 by_cases h:l.length<=256
 ·refine P_ func38 11 fun _ _ _ _=>?_;refine g_ ?_;refine A.ad 6 T (x':=AB true) (aA (by simp;omega)) ?_;refine c_ (hasV_p _ [] _ WK l hb) ?_;refine R_ ?_;refine Sb.eq (aA ?_);simp [dI,h]
 ·refine P_ func38 11 fun _ _ _ _=>?_;refine g_ ?_;refine e_ 6 T (x':=AB false) (aA (by simp;omega)) ?_;refine R_ ?_;refine Sb.eq (aA ?_);simp [dI,h]
theorem may1_p(v:KV)(x:Int):Pure prog a9 69 [aL x, .pe 2 (rF v)] (AB (!cL v.kind x)):=by refine P_ func69 9 fun _ _ _ _=>?_;refine y_ ?_;exact lR (ZA _ _)
def dL(v:KV):Int:=if v.dim<1 then 1 else v.dim
def kX(v:KV)(r:List Int):Bool:=(r.length:Int)==dL v&& !r.any (fun x=> !cL v.kind x)
def sJ(l:List KV)(s:List (List Int)):Bool:=decide (s.length=l.length)&&dI l&&allEq kX l s l.length
def jH(l:List KV):List (List Int):=l.map fun v=>List.replicate (dL v).toNat 0
def X1(b1 b2:Nat):AV:= .fn 132 [] [.v (.pointer (some ⟨b1,0,none⟩)), .v (.pointer (some ⟨b2,0,none⟩))]
abbrev walkX(e:KE)(left deep:Int):Int->AV:=fun _=>AB (decide (fits e left (33-deep)))
abbrev walkL(b1 b2:Nat):Int->List aF:=fun i=>[.box b1 (AI i), .box b2 (X1 b1 b2)]
abbrev walkP(e:KE)(left deep:Int):Int->Prop:=fun i=>fits e left (33-deep)->i=left-sz e
theorem gE{z:Nat}(a:KE):AV.pe z (eE a)= .pe z (.ag [aU a.kind,aU a.oper,aU a.to,aL a.n,AI a.v, .sl 6 (bB a.l) none]):=by rw [aJ]
theorem T6(b1 b2:Nat): ∀(N:Nat) (e:KE) (left deep:Int),sz e<=N->iZ e->0<=left->left<=256->1<=deep->deep<=33->
 gM prog a9 132 [eE e,AI deep, .v (.pointer (some ⟨b1,0,none⟩)), .v (.pointer (some ⟨b2,0,none⟩))] [.box b1 (AI left), .box b2 (X1 b1 b2)] (walkX e left deep) (walkL b1 b2) (walkP e left deep)
 |0,e,left,deep,hn,_,_,_,_,_=>by have:=gH e;omega |N+1,e,left,deep,hn,hw,r0,r1,d0,d1=>by
  have hw1:IntKind.i64.wrap (left-1)=left-1:=fZ _ (by omega);have hp:=plain_p e hw;rw [aJ] at hp⊢;unfold gM
  by_cases hz:left=0\/deep=33
  ·have hnf: ¬fits e left (33-deep):=gV (by omega);refine lI.of (S:=tt) (fn:=f132) (n:=36) dN func132 T T T T fun w0 h0 F hgs=>?_
   (refine rL fun bx=>?_;refine g_ ?_)
   refine e_ 17 T (x':=AB true) (aA (by rw [hw1];simp;omega)) ?_;(refine A.az (Λ':=[.box b1 _, .box b2 _]) T T T kK ⟨_,Sb.eq (aA ?_),rfl,?_⟩;exact (decide_eq_false hnf).symm;exact fun h=>absurd h hnf)
  have hw2:IntKind.i64.wrap (deep+1)=deep+1:=fZ _ (by omega);have h17: ∀b:Bool,(bif decide (IntKind.i64.wrap (left-1)<0) then true else decide (32<deep))=b->b=false:=by intro b hb;subst hb;rw [hw1];simp;omega
  by_cases hs:aY e=true
  case neg=>
   have hs:aY e=false:=by simpa using hs
   have hnf: ¬fits e left (33-deep):=gV (by simp [hs]);refine lI.of (S:=tt) (fn:=f132) (n:=36) dN func132 T T T T fun w0 h0 F hgs=>?_
   (refine rL fun bx=>?_;refine g_ ?_)
   refine A.ad 17 T (x':=AB false) (aA (h17 _ T)) ?_;refine n_ (hp) ?_;refine e_ 19 T (x':=AB false) (aA hs) ?_;(refine A.az (Λ':=[.box b1 _, .box b2 _]) T T T kK ⟨_,Sb.eq (aA ?_),rfl,?_⟩;exact (decide_eq_false hnf).symm;exact fun h=>absurd h hnf)
  rcases oH hs with ⟨k,o,t,n,v,rfl⟩|⟨k,o,t,n,v,a,rfl⟩|⟨k,o,t,n,v,a,b,rfl⟩
  ·simp only [bB] at hp⊢;have hf:=(fits0 (room:=left) (deep:=33-deep) hs).2 (by omega);refine lI.of (S:=tt) (fn:=f132) (n:=36) dN func132 T T T T fun w0 h0 F hgs=>?_
   (refine rL fun bx=>?_;refine g_ ?_)
   refine A.ad 17 T (x':=AB false) (aA (h17 _ T)) ?_;refine n_ (hp) ?_;refine e_ 19 T (x':=AB true) (aA hs) ?_;refine A.bh ?_;refine y_ ?_;refine A.az (Λ':=[.box b1 _, .box b2 _]) T T T kK ⟨_,Sb.eq (aA ?_),rfl,?_⟩
   ·exact (decide_eq_true hf).symm
   ·intro _;simp [sz,jQ,hw1]
  ·simp only [bB] at hp⊢;simp only [sz,jQ] at hn;have hf:=Y8 (room:=left) (deep:=33-deep) hs;have ih:=T6 b1 b2 N a (IntKind.i64.wrap (left-1)) (deep+1) (by omega) (OJ hw) (by omega) (by omega) (by omega) (by omega);rw [aJ] at ih;refine lI.of (S:=tt) (fn:=f132) (n:=36) dN func132 T T T T fun w0 h0 F hgs=>?_
   (refine rL fun bx=>?_;refine g_ ?_)
   refine A.ad 17 T (x':=AB false) (aA (h17 _ T)) ?_;refine n_ (hp) ?_;refine e_ 19 T (x':=AB true) (aA hs) ?_;refine A.bh ?_;refine y_ ?_;refine j_ T T T ?_;refine A.ad 27 T (gE a) ?_
   (refine b_ fun bx=>?_;refine y_ ?_)
   refine A.ad 32 T (x':=AI (deep+1)) (aM hw2) ?_;refine A.e T ih .refl (af6 (l₁:=[_,_]) (l₂:=[_,_])) fun lf hlf=>?_;refine y_ ?_;have e3:33-deep-1=33-(deep+1):=by omega
   rw [e3] at hf;rw [hw1] at hlf;refine k_ (fun hc=>?_) fun hc=>?_
   ·simp [hw1] at hc;have hnf: ¬fits ⟨k,o,t,n,v,[a]⟩ left (33-deep):=fun h=>hc (hf.1 h);refine y_ ?_;(refine A.az (Λ':=[.box b1 _, .box b2 _]) T T T kK ⟨_,Sb.eq (aA ?_),rfl,?_⟩;exact (decide_eq_false hnf).symm;exact fun h=>absurd h hnf)
   ·simp [hw1] at hc;refine y_ ?_;refine A.again ?_;refine y_ ?_;refine A.az (Λ':=[.box b1 _, .box b2 _]) T T T kK ⟨_,Sb.eq (aA ?_),rfl,?_⟩
    ·exact (decide_eq_true (hf.2 hc)).symm
    ·intro _;have:=hlf hc;simp [sz,jQ];omega
  ·simp only [bB] at hp⊢;simp only [sz,jQ] at hn;have hf:=Y9 (room:=left) (deep:=33-deep) hs;have ha:=gH a;have hb:=gH b;have ih:=T6 b1 b2 N a (IntKind.i64.wrap (left-1)) (deep+1) (by omega) (OK hw).1 (by omega) (by omega) (by omega) (by omega);have e3:33-deep-1=33-(deep+1):=by omega
   rw [e3] at hf;rw [aJ] at ih;refine lI.of (S:=tt) (fn:=f132) (n:=36) dN func132 T T T T fun w0 h0 F hgs=>?_
   (refine rL fun bx=>?_;refine g_ ?_)
   refine A.ad 17 T (x':=AB false) (aA (h17 _ T)) ?_;refine n_ (hp) ?_;refine e_ 19 T (x':=AB true) (aA hs) ?_;refine A.bh ?_;refine y_ ?_;refine j_ T T T ?_;refine A.ad 27 T (gE a) ?_
   (refine b_ fun bx=>?_;refine y_ ?_)
   refine A.ad 32 T (x':=AI (deep+1)) (aM hw2) ?_;refine A.e T ih .refl (af6 (l₁:=[_,_]) (l₂:=[_,_])) fun lf hlf=>?_;refine l_ (Λ':=[.box b1 (AI lf), .box b2 (X1 b1 b2)]) ?_;refine y_ ?_;rw [hw1] at hlf;refine k_ (fun hc=>?_) fun hc=>?_
   ·simp [hw1] at hc;have hnf: ¬fits ⟨k,o,t,n,v,[a,b]⟩ left (33-deep):=fun h=>hc (hf.1 h).1;refine y_ ?_;(refine A.az (Λ':=[.box b1 _, .box b2 _]) T T T kK ⟨_,Sb.eq (aA ?_),rfl,?_⟩;exact (decide_eq_false hnf).symm;exact fun h=>absurd h hnf)
   simp [hw1] at hc;have hlf:=hlf hc;have h2:=hc.2.1;have ih2:=T6 b1 b2 N b lf (deep+1) (by omega) (OK hw).2 (by omega) (by omega) (by omega) (by omega);rw [aJ] at ih2;refine y_ ?_;refine A.again ?_;refine y_ ?_;refine j_ T T T ?_;refine A.ad 27 T (gE b) ?_
   (refine b_ fun bx=>?_;refine y_ ?_)
   refine A.ad 32 T (x':=AI (deep+1)) (aM hw2) ?_;refine A.e T ih2 .refl (af6 (l₁:=[_]) (l₂:=[_,_])) fun lf2 hlf2=>?_;have e4:left-(1+(sz a:Int))=lf:=by omega
   rw [e4] at hf;refine y_ ?_;refine k_ (fun hc=>?_) fun hc=>?_
   ·simp at hc;have hnf: ¬fits ⟨k,o,t,n,v,[a,b]⟩ left (33-deep):=fun h=>hc (hf.1 h).2;refine y_ ?_;(refine A.az (Λ':=[.box b1 _, .box b2 _]) T T T kK ⟨_,Sb.eq (aA ?_),rfl,?_⟩;exact (decide_eq_false hnf).symm;exact fun h=>absurd h hnf)
   ·rename_i hca;simp at hc;refine y_ ?_;refine A.again ?_;refine y_ ?_;refine A.az (Λ':=[.box b1 _, .box b2 _]) T T T kK ⟨_,Sb.eq (aA ?_),rfl,?_⟩
    ·exact (decide_eq_true (hf.2 ⟨hca,hc⟩)).symm
    ·intro _;have:=hlf2 hc;simp [sz,jQ];omega
theorem YZ(e:KE)(hw:iZ e):Pure prog a9 121 [eE e] (AB (decide (valid e))):=by
 have hp:=fun b1 b2=>T6 b1 b2 (sz e) e 256 1 (aa6 _) hw (by decide) (by decide) (by decide) (by decide);simp only [aJ e] at hp;rw [aJ];refine P_ func121 9 fun _ _ _ _=>?_
 (refine b_ fun bx=>?_;refine b_ fun bx=>?_;refine b_ fun bx=>?_;refine y_ ?_)
 refine A.e T (hp _ _) .refl (List.Perm.swap _ _ _) fun lf _=>?_;exact rK
abbrev FK:=Int->Bool
def iU(l:List KV)(k o t n v:Int)(fs:List FK)(kind:Int):Bool:=
 if k=1 then (kind==1||(kind==2&&decide (0<=n)&&decide (n<=255))||(kind==3&&(n==0||n==1)))
 else if k=2 then (match l[v.toNat]? with|some x=>x.dim==0&&x.kind==kind|none=>false)
 else if k=3 then (match l[v.toNat]?,fs with|some x,f::_=>decide (0<x.dim)&&x.kind==kind&&f 1|_,_=>false)
 else match fs with
 | []=>false
 |f::r=>if k=6 then t==kind&&(f 1||f 2||f 3)
  else if k=4 then (if o=26 then kind==3&&f 3 else kind==1&&f 1)
  else match r with
  | []=>false
  |g::_=>if o<=13 then kind==1&&(f 1&&g 1) else if kind≠3 then false
   else if o=14\/o=15 then (f 1&&g 1)||(f 2&&g 2)||(f 3&&g 3)
   else if o<=19 then (f 1&&g 1)||(f 2&&g 2)
   else if o=22 then f 1&&g 1 else f 3&&g 3
mutual
def aC(l:List KV):KE->FK
 |⟨k,o,t,n,v,a⟩=>iU l k o t n v (dV l a)
def dV(l:List KV):List KE->List FK
 | []=>[] |e::r=>aC l e::dV l r
end
def nI(k:Int):Bool:=decide (1<=k)&&decide (k<=3)
theorem I4(k:Int):Pure prog a9 31 [aU k] (AB (nI k)):=by
 refine P_ func31 9 fun _ _ _ _=>?_;refine y_ ?_
 ((fail_if_success (refine A.lit? T ?_));refine A.gS T (fun hc=>?_) (fun hc=>?_))
 ·refine y_ ?_;refine R_ ?_;refine Sb.eq (aA ?_);rw [nI,hc];rfl
 ·refine y_ ?_;refine R_ ?_;refine Sb.eq (aA ?_);rw [nI,hc];rfl
theorem Y5(e:KE)(hw:iZ e):Pure prog a9 137 [eE e] (AB (aY e)):=by
 obtain ⟨k,o,t,n,v,l⟩:=e;simp only [iZ,u8,i32,i64] at hw;obtain ⟨hw,_⟩:=hw;rw [eE]
 by_cases h1:k=1
 ·subst h1;refine P_ func137 87 fun _ _ _ _=>?_
  (refine rL fun bx=>?_;refine rL fun bx=>?_;refine g_ ?_);refine R_ ?_;(refine Sb.eq (jS ?_);simp only [aY,KE.kind,KE.oper,KE.to,KE.n,KE.v,KE.l,bF];generalize l.length=len at*;(try simp at hc);(try simp at hd);simp;omega)
 by_cases h2:k=2
 ·subst h2;refine P_ func137 87 fun _ _ _ _=>?_
  (refine rL fun bx=>?_;refine rL fun bx=>?_;refine g_ ?_);refine R_ ?_;(refine Sb.eq (jS ?_);simp only [aY,KE.kind,KE.oper,KE.to,KE.n,KE.v,KE.l,bF];generalize l.length=len at*;(try simp at hc);(try simp at hd);simp;omega)
 by_cases h3:k=3
 ·subst h3;refine P_ func137 87 fun _ _ _ _=>?_
  (refine rL fun bx=>?_;refine rL fun bx=>?_;refine g_ ?_);refine R_ ?_;(refine Sb.eq (jS ?_);simp only [aY,KE.kind,KE.oper,KE.to,KE.n,KE.v,KE.l,bF];generalize l.length=len at*;(try simp at hc);(try simp at hd);simp;omega)
 by_cases h4:k=4
 ·subst h4;refine P_ func137 87 fun _ _ _ _=>?_
  (refine rL fun bx=>?_;refine rL fun bx=>?_;refine g_ ?_);refine R_ ?_;(refine Sb.eq (jS ?_);simp only [aY,KE.kind,KE.oper,KE.to,KE.n,KE.v,KE.l,bF];generalize l.length=len at*;(try simp at hc);(try simp at hd);simp;omega)
 by_cases h5:k=5
 ·subst h5;refine P_ func137 87 fun _ _ _ _=>?_
  (refine rL fun bx=>?_;refine rL fun bx=>?_;refine g_ ?_);refine R_ ?_;(refine Sb.eq (jS ?_);simp only [aY,KE.kind,KE.oper,KE.to,KE.n,KE.v,KE.l,bF];generalize l.length=len at*;(try simp at hc);(try simp at hd);simp;omega)
 by_cases h6:k=6
 ·subst h6;refine P_ func137 87 fun _ _ _ _=>?_
  (refine rL fun bx=>?_;refine rL fun bx=>?_;refine g_ ?_);refine n_ (I4 _) ?_;refine g_ ?_;refine R_ ?_
  refine Sb.eq (jS ?_);simp only [aY,nI,KE.kind,KE.oper,KE.to,KE.n,KE.v,KE.l,bF];generalize l.length=len at*;simp;omega
 refine P_ func137 87 fun _ _ _ _=>?_;(repeat (first|first|refine A.s T ?_|refine A.r T T ?_|refine A.w T T ?_|refine A.p T ?_|refine A.b T fun bx=>?_|refine A.t T fun bl=>?_|refine A.cond T (fun h=>(by simp at h;omega)) (fun _=>?_)|first|refine A.step T ?_|refine A.v T T ?_));refine R_ ?_;refine Sb.eq ?_;simp [aY, *]
def mF(l:List KE)(room deep:Int):Prop:=eF l=true/\(jQ l:Int)<=room/\(oZ l:Int)<=deep
instance (l:List KE) (room deep:Int):Decidable (mF l room deep):=by unfold mF;infer_instance
theorem sz_eq(e:KE):sz e=1+jQ e.l:=by obtain ⟨k,o,t,n,v,l⟩:=e;rw [sz]
theorem fine_eq(e:KE):fine e=(aY e&&eF e.l):=by obtain ⟨k,o,t,n,v,l⟩:=e;rw [fine]
theorem fits_l{e:KE}{room deep:Int}(hr:1<=room)(hd:1<=deep)(hs:aY e=true):fits e room deep↔mF e.l (room-1) (deep-1):=by
 unfold fits mF;rw [fine_eq,hs,ab3,sz_eq,ht_eq];constructor
 ·rintro ⟨h1,h2,h3⟩;exact ⟨h1,by omega,by omega⟩
 ·rintro ⟨h1,h2,h3⟩;exact ⟨h1,by omega,by omega⟩
theorem vQ(a b:List KE):jQ (a++b)=jQ a+jQ b:=by
 induction a with
 |nil=>simp [jQ] |cons x r ih=>rw [ae0,jQ,jQ,ih];omega
theorem C4(a b:List KE):oZ (a++b)=max (oZ a) (oZ b):=by
 induction a with
 |nil=>simp [oZ] |cons x r ih=>rw [ae0,oZ,oZ,ih];omega
theorem wM(a b:List KE):eF (a++b)=(eF a&&eF b):=by
 induction a with
 |nil=>simp [eF] |cons x r ih=>rw [ae0,eF,eF,ih,Bool.and_assoc]
theorem L8{a:List KE}{x:KE}{room deep:Int}(ha:mF a room deep):mF (a++[x]) room deep↔fits x (room-jQ a) deep:=by
 obtain ⟨h1,h2,h3⟩:=ha;unfold mF fits;rw [wM,vQ,C4,h1,ab3];simp only [eF,jQ,oZ,al1];constructor
 ·rintro ⟨g1,g2,g3⟩;exact ⟨g1,by omega,by omega⟩
 ·rintro ⟨g1,g2,g3⟩;exact ⟨g1,by omega,by omega⟩
theorem L9{l:List KE}{room deep:Int}(h:mF l room deep)(i:Nat):mF (l.take i) room deep:=by obtain ⟨h1,h2,h3⟩:=h;rw [<-List.take_append_drop i l] at h1 h2 h3;rw [wM,aa1] at h1;rw [vQ] at h2;rw [C4] at h3;exact ⟨h1.1,by omega,by omega⟩
theorem szl_le: ∀{l:List KE} {x:KE},x∈l->sz x<=jQ l
 | [],_,h=>by cases h |y::r,x,h=>by
  rw [jQ];rcases ab0.1 h with rfl|h
  ·omega
  ·have:=szl_le h;omega
theorem sW: ∀{l:List KE},oY l-> ∀x,x∈l->iZ x
 | [],_,x,h=>by cases h |y::r,hw,x,h=>by
  rw [oY] at hw;rcases ab0.1 h with rfl|h
  ·exact hw.1
  ·exact sW hw.2 x h
theorem wfK_l{e:KE}(h:iZ e):oY e.l:=by obtain ⟨k,o,t,n,v,l⟩:=e;rw [iZ] at h;exact h.2
theorem fW{l:List KE}{i:Nat}{x:KE}(h:l[i]? =some x):(bB l)[i]? =some (eE x):=by rw [pD];exact aR h
abbrev eB(e:KE):AV:= .ag [aU e.kind,aU e.oper,aU e.to,aL e.n,AI e.v, .sl 6 (bB e.l) none]
abbrev cT(b:Nat):AV:= .v (.pointer (some ⟨b,0,none⟩))
def rZ(b1 b2:Nat):AV:= .fn 136 [] [cT b1,cT b2]
abbrev visKX(e:KE)(left deep:Int):Int->AV:=fun _=>AB (decide (fits e left (33-deep)))
abbrev visKL(b1 b2:Nat):Int->List aF:=fun i=>[.box b1 (AI i), .box b2 (rZ b1 b2)]
abbrev visKP(e:KE)(left deep:Int):Int->Prop:=fun i=>fits e left (33-deep)->i=left-sz e
def XE(b1 b2:Nat)(x:KE)(left deep:Int):Prop:=gM prog a9 136 [eB x,AI deep,cT b1,cT b2] [.box b1 (AI left), .box b2 (rZ b1 b2)] (visKX x left deep) (visKL b1 b2) (visKP x left deep)
theorem cloK_p(b1 b2 b3:Nat)(x:KE)(left deep:Int)(hd:IntKind.i64.wrap (deep+1)=deep+1)(hcb:XE b1 b2 x left (deep+1)):
 gM prog a9 139 [eB x,cT b2,cT b3] [.box b1 (AI left), .box b2 (rZ b1 b2), .box b3 (AI deep)] (fun _:Int=>AB (!decide (fits x left (33-(deep+1))))) (fun i=>[.box b1 (AI i), .box b2 (rZ b1 b2), .box b3 (AI deep)]) (visKP x left (deep+1)):=by
 unfold gM;refine lI.of (S:=tt) (fn:=f139) (n:=11) dN func139 T T T T fun w0 h0 F hgs=>?_
 (refine b_ fun bx=>?_;refine y_ ?_)
 refine A.ad 8 T (x':=AI (deep+1)) (aM hd) ?_;refine A.e T hcb .refl (List.perm_middle (a:=_) (l₁:=[_,_]) (l₂:=[_])).symm fun lf hlf=>?_;refine y_ ?_;refine A.az (Λ':=[.box b1 _, .box b2 _, .box b3 _]) T T T kK ⟨lf, .refl,rfl,hlf⟩
abbrev idxKP(l:List KE)(left D:Int):Int×Int->Prop:=fun p=>(p.1= -1\/0<=p.1)/\(p.1= -1↔mF l left D)/\(p.1= -1->p.2=left-jQ l)
theorem idxK_p(b1 b2 b3:Nat)(l:List KE)(left deep:Int)(hd:IntKind.i64.wrap (deep+1)=deep+1)(hl:l.length<=2)(h0:0<=left)(h33:0<=33-(deep+1))
 (hcb: ∀x,x∈l-> ∀lf,0<=lf->lf<=left->XE b1 b2 x lf (deep+1)):
 gM prog a9 145 [.sl 6 (bB l) none, .fn 139 [] [cT b2,cT b3]] [.box b1 (AI left), .box b2 (rZ b1 b2), .box b3 (AI deep)]
  (fun p:Int×Int=>AI p.1) (fun p=>[.box b1 (AI p.2), .box b2 (rZ b1 b2), .box b3 (AI deep)]) (idxKP l left (33-(deep+1))):=by
 unfold gM;refine lI.of (S:=tt) (fn:=f145) (n:=19) dN func145 T T T T fun w0 h0 F hgs=>?_;refine y_ ?_;refine A.ad 7 T (x':=AI (l.length:Nat)) (aM (by rw [bF])) ?_;refine A.au (Λ':=[.box b1 (AI (left-(jQ (l.take 0):Nat))), .box b2 (rZ b1 b2), .box b3 (AI deep)]) (by simp [jQ]) ?_;refine A.ay [0,1,7,8] T ?_
 refine A.ar (ι:=Nat×Int) (fun p=>(⟨[(0, .sl 6 (bB l) none),(1, .fn 139 [] [cT b2,cT b3]),(7,AI (l.length:Nat)),(8,AI (p.1:Nat))],[]⟩,[.box b1 (AI p.2), .box b2 (rZ b1 b2), .box b3 (AI deep)]))
  (fun p=>p.1<=l.length/\mF (l.take p.1) left (33-(deep+1))/\p.2=left-(jQ (l.take p.1):Nat)) (fun p=>l.length-p.1) (0,left-(jQ (l.take 0):Nat)) ⟨ac0 _,⟨by simp [eF],by simp [jQ];omega,by simp [oZ];omega⟩,rfl⟩ T fun p hi ih=>?_
 obtain ⟨i,lf⟩:=p;obtain ⟨hi1,hi2,hi3⟩:=hi;simp only at hi1 hi2 hi3;have hsz2:=hi2.2.1;refine y_ ?_;refine k_ (fun hc=>?_) fun hc=>?_
 ·simp at hc;refine ac7 (dC (l:=l) (i:=i) (by omega)) fun x hx=>?_;have hxm:=aa2 hx;have htk:l.take (i+1)=l.take i++[x]:=by rw [ac6,hx];rfl
  have hsn:=L8 (x:=x) hi2;rw [<-htk,<-hi3] at hsn;have hcx:=cloK_p b1 b2 b3 x lf deep hd (hcb x hxm lf (by omega) (by omega));refine y_ ?_;refine i_ T (fW hx) (aJ x) ?_;refine A.e T hcx .refl (by exact List.Perm.refl _) fun lf2 hlf2=>?_
  by_cases hfx:fits x lf (33-(deep+1))
  ·refine e_ 16 T (x':=AB false) (aA (by simp [hfx])) ?_;refine vI 8 i ?_;refine u_ (ih (i+1,lf2) ⟨by show i+1<=_;omega,hsn.2 hfx,?_⟩ (by show _-(i+1)<_-i;omega));show lf2=left-(jQ (l.take (i+1)):Nat);rw [hlf2 hfx,htk,vQ,hi3];simp [jQ];omega
  ·have hnf: ¬mF l left (33-(deep+1)):=fun hf=>hfx (hsn.1 (L9 hf (i+1)));refine e_ 16 T (x':=AB true) (aA (by simp [hfx])) ?_;refine A.az (Λ':=[.box b1 _, .box b2 _, .box b3 _]) T T T kK ⟨((i:Int),lf2), .refl,rfl, .inr (by simp only;omega),⟨fun h=>by simp only at h;omega,fun h=>absurd h hnf⟩,fun h=>by simp only at h;omega⟩
 ·simp at hc;have hil:i=l.length:=by omega
  rw [hil,ac4] at hi2 hi3;refine y_ ?_;refine A.az (Λ':=[.box b1 _, .box b2 _, .box b3 _]) T T T kK ⟨((-1:Int),lf), .refl,rfl, .inl T,⟨fun _=>hi2,fun _=>rfl⟩,fun _=>hi3⟩
theorem hasK_p(b1 b2 b3:Nat)(l:List KE)(left deep:Int)(hd:IntKind.i64.wrap (deep+1)=deep+1)(hl:l.length<=2)(h0:0<=left)(h33:0<=33-(deep+1))
 (hcb: ∀x,x∈l-> ∀lf,0<=lf->lf<=left->XE b1 b2 x lf (deep+1)):
 gM prog a9 138 [.sl 6 (bB l) none, .fn 139 [] [cT b2,cT b3]] [.box b1 (AI left), .box b2 (rZ b1 b2), .box b3 (AI deep)]
  (fun p:Int×Int=>AB (decide (0<=p.1))) (fun p=>[.box b1 (AI p.2), .box b2 (rZ b1 b2), .box b3 (AI deep)]) (idxKP l left (33-(deep+1))):=by
 have hi:=idxK_p b1 b2 b3 l left deep hd hl h0 h33 hcb;unfold gM;refine lI.of (S:=tt) (fn:=f138) (n:=9) dN func138 T T T T fun w0 h0 F hgs=>?_;refine y_ ?_;refine A.e T hi .refl (by exact List.Perm.refl _) fun p hp=>?_;refine y_ ?_;refine A.az (Λ':=[.box b1 _, .box b2 _, .box b3 _]) T T T kK ⟨p, .refl,rfl,hp⟩
theorem visK_p(b1 b2:Nat): ∀(N:Nat) (e:KE) (left deep:Int),sz e<=N->iZ e->0<=left->left<=256->1<=deep->deep<=33->XE b1 b2 e left deep
 |0,e,left,deep,hn,_,_,_,_,_=>by have:=gH e;omega |N+1,e,left,deep,hn,hw,r0,r1,d0,d1=>by
  have hw1:IntKind.i64.wrap (left-1)=left-1:=fZ _ (by omega);have hw2:IntKind.i64.wrap (deep+1)=deep+1:=fZ _ (by omega);have hp:=Y5 e hw;rw [aJ] at hp;unfold XE gM
  by_cases hz:left=0
  ·have hnf: ¬fits e left (33-deep):=gV (by omega);refine lI.of (S:=tt) (fn:=f136) (n:=25) dN func136 T T T T fun w0 h0 F hgs=>?_
   (refine b_ fun bx=>?_;refine b_ fun bx=>?_;refine y_ ?_)
   refine A.ad 10 T (x':=AB true) (aA (by rw [hw1];simp;omega)) ?_;refine e_ 11 T (x':=AB true) (aA (by rw [hw1];simp;omega)) ?_;(refine A.az (Λ':=[.box b1 _, .box b2 _]) T T T kK ⟨_,Sb.eq (aA ?_),rfl,?_⟩;exact (decide_eq_false hnf).symm;exact fun h=>absurd h hnf)
  by_cases hd33:deep=33
  ·have hnf: ¬fits e left (33-deep):=gV (by omega);refine lI.of (S:=tt) (fn:=f136) (n:=25) dN func136 T T T T fun w0 h0 F hgs=>?_
   (refine b_ fun bx=>?_;refine b_ fun bx=>?_;refine y_ ?_)
   refine e_ 11 T (x':=AB false) (aA (by rw [hw1];simp;omega)) ?_;refine e_ 15 T (x':=AB true) (aA (by simp;omega)) ?_;(refine A.az (Λ':=[.box b1 _, .box b2 _]) T T T kK ⟨_,Sb.eq (aA ?_),rfl,?_⟩;exact (decide_eq_false hnf).symm;exact fun h=>absurd h hnf)
  by_cases hs:aY e=true
  case neg=>
   have hs:aY e=false:=by simpa using hs
   have hnf: ¬fits e left (33-deep):=gV (by simp [hs]);rw [hs] at hp;refine lI.of (S:=tt) (fn:=f136) (n:=25) dN func136 T T T T fun w0 h0 F hgs=>?_
   (refine b_ fun bx=>?_;refine b_ fun bx=>?_;refine y_ ?_)
   refine e_ 11 T (x':=AB false) (aA (by rw [hw1];simp;omega)) ?_;refine e_ 15 T (x':=AB false) (aA (by simp;omega)) ?_;refine c_ hp ?_;(refine A.az (Λ':=[.box b1 _, .box b2 _]) T T T kK ⟨_,Sb.eq (aA ?_),rfl,?_⟩;exact (decide_eq_false hnf).symm;exact fun h=>absurd h hnf)
  rw [hs] at hp;have hfl:=fits_l (e:=e) (room:=left) (deep:=33-deep) (by omega) (by omega) hs;rw [show 33-deep-1=33-(deep+1) by omega] at hfl;have hll:e.l.length<=2:=by rcases oH hs with ⟨k,o,t,n,v,rfl⟩|⟨k,o,t,n,v,a,rfl⟩|⟨k,o,t,n,v,a,b,rfl⟩<;>simp
  have hse:=sz_eq e;have hhas:=fun b3=>hasK_p b1 b2 b3 e.l (left-1) deep hw2 hll (by omega) (by omega) fun x hx lf l0 l1=>visK_p b1 b2 N x lf (deep+1) (by have:=szl_le hx;omega) (sW (wfK_l hw) x hx) l0 (by omega) (by omega) (by omega);refine lI.of (S:=tt) (fn:=f136) (n:=25) dN func136 T T T T fun w0 h0 F hgs=>?_
  (refine b_ fun bx=>?_;refine b_ fun bx=>?_;refine y_ ?_)
  refine e_ 11 T (x':=AB false) (aA (by rw [hw1];simp;omega)) ?_;refine e_ 15 T (x':=AB false) (aA (by simp;omega)) ?_;refine c_ hp ?_;refine A.au (Λ':=[.box _ (AI deep), .box _ (eB e), .box b1 (AI (left-1)), .box b2 (rZ b1 b2)]) (by rw [hw1]) ?_;refine A.e (Λ2:=[.box _ (eB e)]) T (hhas _) .refl (af6 (l₁:=[_,_]) (l₂:=[_,_])) fun p hpp=>?_;refine A.ad 23 T (x':=AB (decide (¬fits e left (33-deep)))) (aA ?_) ?_
  ·rw [ab8];simp only [dT,hfl,<-hpp.2.1];have:=hpp.1;constructor
   ·intro h;omega
   ·intro h;omega
  refine y_ ?_;refine A.az (Λ':=[.box b1 _, .box b2 _]) T T T kK ⟨p.2,Sb.eq (aA (by simp)),rfl,fun h=>?_⟩;have:=hpp.2.2 (hpp.2.1.2 (hfl.1 h));omega
theorem ZU(e:KE)(hw:iZ e):Pure prog a9 124 [eE e] (AB (decide (valid e))):=by
 have hp:=fun b1 b2=>visK_p b1 b2 (sz e) e 256 1 (aa6 _) hw (by decide) (by decide) (by decide) (by decide);rw [aJ];refine P_ func124 9 fun _ _ _ _=>?_
 (refine b_ fun bx=>?_;refine b_ fun bx=>?_;refine b_ fun bx=>?_;refine y_ ?_)
 refine A.e T (hp _ _) .refl (List.Perm.swap _ _ _) fun lf _=>?_;exact rK
abbrev iC(n:Int):AV:= .v (.int .u64 n)
theorem a7{a b:Int}(h:a=b):iC a=iC b:=by rw [h]
def kS(a b c:Bool):Int:=(if a then 2 else 0)+(if b then 4 else 0)+(if c then 8 else 0)
abbrev kF(f:FK):Int:=kS (f 1) (f 2) (f 3)
theorem fC(a b c:Bool):bitsOf .and .u64 18446744073709551615 (kS a b c)=kS a b c:=by cases a<;>cases b<;>cases c<;>kernel_rfl
theorem oU(a b c a' b' c':Bool):bitsOf .and .u64 (kS a b c) (kS a' b' c')=kS (a&&a') (b&&b') (c&&c'):=by cases a<;>cases b<;>cases c<;>cases a'<;>cases b'<;>cases c'<;>kernel_rfl
def hasB(n k:Int):Bool:=bitsOf .and .u64 (J7 .shr .u64 n k) 1==1
theorem MH(a b c:Bool):hasB (kS a b c) 1=a:=by cases a<;>cases b<;>cases c<;>kernel_rfl
theorem has_2(a b c:Bool):hasB (kS a b c) 2=b:=by cases a<;>cases b<;>cases c<;>kernel_rfl
theorem SJ(a b c:Bool):hasB (kS a b c) 3=c:=by cases a<;>cases b<;>cases c<;>kernel_rfl
theorem ZR(a b c:Bool):(kS a b c !=0)=(a||b||c):=by cases a<;>cases b<;>cases c<;>rfl
theorem kS_6(a b c:Bool):(bitsOf .and .u64 (kS a b c) 6 !=0)=(a||b):=by cases a<;>cases b<;>cases c<;>kernel_rfl
def W4(l:List Int):Int:=l.foldl (fun s k=>bitsOf .or .u64 s (J7 .shl .u64 1 k)) 0
theorem AG(n k:Int)(hk:0<=k/\k<64):Pure prog a9 126 [iC n,aU k] (AB (hasB n k)):=by refine P_ func126 10 fun _ _ _ _=>?_;refine y_ ?_;refine A.shift T T T T T T (by omega) ?_;exact rK
theorem M3(l:List Int)(hl: ∀k,k∈l->0<=k/\k<64)(hb:l.length<=10):Pure prog a9 141 [.sl 1 (l.map aU) none] (iC (W4 l)):=by
 refine P_ func141 17 fun _ _ _ _=>?_;refine y_ ?_;refine A.ad 6 T (x':=AI (l.length:Nat)) (aM (by rw [aa0])) ?_;refine A.ay [2,5,6,7] T ?_;refine A.ar (ι:=Nat×Int) (fun p=>(⟨[(2,iC p.2),(5, .sl 1 (l.map aU) none),(6,AI (l.length:Nat)),(7,AI (p.1:Nat))],[]⟩,[])) (fun p=>p.1<=l.length/\(l.drop p.1).foldl (fun s k=>bitsOf .or .u64 s (J7 .shl .u64 1 k)) p.2=W4 l) (fun p=>l.length-p.1) (0,0) ⟨by simp,rfl⟩ T fun p hi ih=>?_;obtain ⟨i,s⟩:=p;simp only at hi ih⊢;refine y_ ?_;refine k_ (fun hc=>?_) fun hc=>?_
 ·simp at hc;refine ac7 (dC (l:=l) (i:=i) (by omega)) fun k hk=>?_;have hkb:=hl k (aa2 hk);have h1:=hi.2;rw [bS hk,List.foldl_cons] at h1;refine y_ ?_;refine i_ T (aR hk) T ?_;refine A.shift T T T T T T (by omega) ?_;refine y_ ?_;refine vI 7 i ?_;refine u_ (ih (i+1,bitsOf .or .u64 s (J7 .shl .u64 1 k)) ⟨by simp only;omega,h1⟩ (by simp only;omega))
 ·simp at hc;have hil:i=l.length:=by omega
  have h1:=hi.2;rw [hil,ad2,List.foldl_nil] at h1;refine y_ ?_;refine R_ ?_;rw [h1];exact .refl
abbrev EX(b:Bool)(k:Int):FK:=fun j=>b&&j==k
theorem iN(b:Bool)(k:Int)(hk:1<=k/\k<=3):Pure prog a9 140 [AB b,aU k] (iC (kF (EX b k))):=by
 have ho:=M3 [k] (fun x hx=>by rw [List.mem_singleton.1 hx];omega) (by simp);cases b with
 |false=>
  refine P_ func140 9 fun _ _ _ _=>?_;exact rK
 |true=>
  have he:W4 [k]=kF (EX true k):=by
   have:k=1\/k=2\/k=3:=by omega
   rcases this with rfl|rfl|rfl
   ·exact (show W4 [1]=kF (EX true 1) by kernel_rfl)
   ·exact (show W4 [2]=kF (EX true 2) by kernel_rfl)
   ·exact (show W4 [3]=kF (EX true 3) by kernel_rfl)
  rw [he] at ho;refine P_ func140 9 fun _ _ _ _=>?_;refine t_ fun bl=>?_;exact lR ho
theorem shr_0(n:Int)(d:Nat)(hd:d<32):(J7 .shr .i32 n (d:Int)==0)=decide (0<=n/\n<2^d):=by
 simp only [J7,show IntKind.i32.bits=32 from rfl,ad9,ai3 (Nat.le_of_lt hd)];have h2:(0:Int)<2^d:=at0 (by omega);rw [aj4 _ (as0 h2),ab8];simp only [beq_iff_eq,dT];constructor
 ·intro h;have h3:=Int.emod_add_mul_ediv n (2^d);rw [h] at h3;have h4:=Int.emod_nonneg n (Int.ne_of_gt h2);have h5:=Int.emod_lt_of_pos n h2;omega
 ·rintro ⟨h3,h4⟩;exact Int.ediv_eq_zero_of_lt h3 h4
def oV(n:Int):FK:=fun k=>k==1||(k==2&&decide (0<=n)&&decide (n<=255))||(k==3&&(n==0||n==1))
theorem VI(n:Int):Pure prog a9 142 [aL n] (iC (kF (oV n))):=by
 have o3:=M3 [1,2,3] (by decide) (by decide);have o2:=M3 [1,2] (by decide) (by decide);have o1:=M3 [1] (by decide) (by decide);have e1:=shr_0 n 1 (by decide);have e8:=shr_0 n 8 (by decide)
 by_cases h1:0<=n/\n<2
 ·have hk:W4 [1,2,3]=kF (oV n):=by
   have:n=0\/n=1:=by omega
   rcases this with rfl|rfl
   ·exact (show W4 [1,2,3]=kF (oV 0) by kernel_rfl)
   ·exact (show W4 [1,2,3]=kF (oV 1) by kernel_rfl)
  rw [hk] at o3;refine P_ func142 17 fun _ _ _ _=>?_;refine y_ ?_;refine A.shift T T T T T T (by omega) ?_;refine y_ ?_;refine A.ad 3 T (x':=AB true) (aA (e1.trans (decide_eq_true h1))) ?_;refine t_ fun bl=>?_;exact lR o3
 by_cases h2:0<=n/\n<256
 ·have hk:W4 [1,2]=kF (oV n):=by
   have:oV n 3=false:=by simp [oV];omega
   have h3:oV n 2=true:=by simp [oV];omega
   show _=kS (oV n 1) (oV n 2) (oV n 3);rw [this,h3];kernel_rfl
  rw [hk] at o2;refine P_ func142 17 fun _ _ _ _=>?_;refine y_ ?_;refine A.shift T T T T T T (by omega) ?_;refine y_ ?_;refine e_ 3 T (x':=AB false) (aA (e1.trans (decide_eq_false (fun h=>h1 h)))) ?_;refine A.shift T T T T T T (by omega) ?_;refine y_ ?_;refine A.ad 9 T (x':=AB true) (aA (e8.trans (decide_eq_true h2))) ?_;refine t_ fun bl=>?_;exact lR o2
 ·have hk:W4 [1]=kF (oV n):=by
   have:oV n 3=false:=by simp [oV];omega
   have h3:oV n 2=false:=by simp [oV];omega
   show _=kS (oV n 1) (oV n 2) (oV n 3);rw [this,h3];kernel_rfl
  rw [hk] at o1;refine P_ func142 17 fun _ _ _ _=>?_;refine y_ ?_;refine A.shift T T T T T T (by omega) ?_;refine y_ ?_;refine e_ 3 T (x':=AB false) (aA (e1.trans (decide_eq_false (fun h=>h1 h)))) ?_;refine A.shift T T T T T T (by omega) ?_;refine y_ ?_;refine A.ad 9 T (x':=AB false) (aA (e8.trans (decide_eq_false (fun h=>h2 h)))) ?_;refine t_ fun bl=>?_;exact lR o1
abbrev H5(ch:List Int):AV:= .sl 1 (ch.map aU) none
abbrev XZ(l:List KV)(ch:List Int)(x:Nat->AV)(lf:Int):AV:= .ag [nR l,H5 ch,x 0,x 1,x 2,x 3,x 4,x 5,x 6,x 7,x 8,AI lf]
abbrev EW(l:List KV)(ch:List Int)(x:Nat->AV)(lf:Int):AV:= .pe 12 (XZ l ch x lf)
def mD(l:List KV):Prop:= ∀y,y∈l->1<=y.kind/\y.kind<=3
theorem j8{f g:FK}(h: ∀k,f k=g k):kF f=kF g:=by rw [show f=g from funext h]
theorem SU:kF (fun _=>false)=0:=rfl
theorem XN(a b:Int):(a==b)=(b==a):=by rw [ab8];simp;exact eq_comm
theorem of12:W4 [1,2]=6:=by kernel_rfl
theorem tD(l:List KV)(ch:List Int)(x:Nat->AV)(lf:Int)(hl:l.length<=281474976710656)(hv:mD l): ∀(N:Nat) (e:KE),ht e<=N->fine e=true->Pure prog a9 125 [EW l ch x lf,eE e] (iC (kF (aC l e)))
 |0,e,hn,_=>by rw [ht_eq] at hn;omega |N+1,e,hn,hf=>by
  have hlen:((l.map rF).length:Int)=l.length:=by rw [aa0]
  rcases dQ hf with ⟨n,rfl⟩|⟨v,h1,h2,rfl⟩|⟨v,a,h1,h2,h3,rfl⟩|⟨o,a,h1,h2,h3,rfl⟩|⟨o,a,b,h1,h2,h3,h4,rfl⟩|⟨t,a,h1,h2,h3,rfl⟩
  ·have hk:=VI n;simp only [eE,bB];refine P_ func125 160 fun _ _ _ _=>?_
   (refine b_ fun bx=>?_;refine y_ ?_)
   refine A.bh ?_;refine y_ ?_;refine c_ hk ?_;refine R_ ?_;refine Sb.eq (a7 (j8 fun k=>?_));simp [oV,aC,dV,iU]
  ·simp only [eE,bB]
   by_cases hvl:v<l.length
   ·refine ac7 (FG h1 hvl) fun y hy=>?_;have hyk:=hv y (aa2 hy);have hw:=iN (y.dim==0) y.kind hyk;refine P_ func125 160 fun _ _ _ _=>?_
    (refine b_ fun bx=>?_;refine y_ ?_)
    refine A.bh ?_;refine y_ ?_;refine d_ 8 [0,1,2,3,4,5,6,7] [] ?_;refine z_ ?_;refine e_ 49 T (x':=AB true) (aA (by rw [hlen];simp [hvl])) ?_;refine d_ 22 [0,1,2,3,4,5,6,7,8,9,10,11,12,13,14,15,16,17,18,19,20,21] [] ?_;refine WA.x T h1 (aR hy) T T ?_;refine w_ ?_;refine WA.x T h1 (aR hy) T T ?_;refine w_ ?_;refine WA.nil (l:=[]) T ?_;refine c_ hw ?_;refine R_ ?_;refine Sb.eq (a7 (j8 fun k=>?_));simp [EX,aC,dV,iU,hy,XN k]
   ·refine P_ func125 160 fun _ _ _ _=>?_
    (refine b_ fun bx=>?_;refine y_ ?_)
    refine A.bh ?_;refine y_ ?_;refine d_ 8 [0,1,2,3,4,5,6,7] [] ?_;refine z_ ?_;refine e_ 49 T (x':=AB false) (aA (by rw [hlen];simp;omega)) ?_;refine R_ ?_;refine Sb.eq (a7 ?_);rw [<-SU];exact j8 fun k=>by simp [aC,dV,iU,A6 (l:=l) (i:=v) (by omega)]
  ·rw [ht,oZ,oZ] at hn;have ea:=aJ a;have iha:=tD l ch x lf hl hv N a (by omega) h3;rw [ea] at iha;simp only [eE,bB]
   by_cases hvl:v<l.length
   ·refine ac7 (FG h1 hvl) fun y hy=>?_;have hyk:=hv y (aa2 hy)
    by_cases hd:0<y.dim
    ·have hw:=iN (aC l a 1) y.kind hyk;have hh:=AG (kF (aC l a)) 1 (by decide);rw [MH] at hh;refine P_ func125 160 fun _ _ _ _=>?_
     (refine b_ fun bx=>?_;refine y_ ?_)
     refine A.bh ?_;refine y_ ?_;refine j_ T T ea ?_
     (refine b_ fun bx=>?_;refine y_ ?_)
     refine n_ iha ?_;refine t_ fun bl=>?_;refine A.br T T T T T T T T T T T T T T (by show (0+1)*1<=_;decide) fun z=>?_;refine y_ ?_;refine A.ad 27 T (x':=AI 0) T ?_;refine i_ T T T ?_;refine A.ad 6 T (x':=iC (kF (aC l a))) (a7 (fC _ _ _)) ?_;refine A.again ?_;refine y_ ?_;refine d_ 8 [0,1,2,3,4,5,6,7] [] ?_;refine z_ ?_;refine e_ 83 T (x':=AB true) (aA (by rw [hlen];simp [hvl])) ?_;refine d_ 26 [0,1,2,3,4,5,6,7,8,9,10,11,12,13,16,17,18,19,20,21,22,23,24,25,14,15] [(14,AB (aC l a 1))] ?_;refine WA.x T h1 (aR hy) T T ?_;refine w_ ?_;refine uS 96 T (x':=AB true) (aA (by simpa using hd)) ?_;refine WA.x T h1 (aR hy) T T ?_;refine w_ ?_;refine lS hh ?_;refine WA.nil (l:=[]) T ?_;refine c_ hw ?_;refine R_ ?_;refine Sb.eq (a7 (j8 fun k=>?_));simp [EX,aC,dV,iU,hy,XN k,hd];exact ap6 _ _
    ·have hw:=iN false y.kind hyk;refine P_ func125 160 fun _ _ _ _=>?_
     (refine b_ fun bx=>?_;refine y_ ?_)
     refine A.bh ?_;refine y_ ?_;refine j_ T T ea ?_
     (refine b_ fun bx=>?_;refine y_ ?_)
     refine n_ iha ?_;refine t_ fun bl=>?_;refine A.br T T T T T T T T T T T T T T (by show (0+1)*1<=_;decide) fun z=>?_;refine y_ ?_;refine A.ad 27 T (x':=AI 0) T ?_;refine i_ T T T ?_;refine A.ad 6 T (x':=iC (kF (aC l a))) (a7 (fC _ _ _)) ?_;refine A.again ?_;refine y_ ?_;refine d_ 8 [0,1,2,3,4,5,6,7] [] ?_;refine z_ ?_;refine e_ 83 T (x':=AB true) (aA (by rw [hlen];simp [hvl])) ?_;refine d_ 26 [0,1,2,3,4,5,6,7,8,9,10,11,12,13,16,17,18,19,20,21,22,23,24,25,14,15] [(14,AB false)] ?_;refine WA.x T h1 (aR hy) T T ?_;refine w_ ?_;refine uS 96 T (x':=AB false) (aA (by simpa using hd)) ?_;refine WA.x T h1 (aR hy) T T ?_;refine w_ ?_;refine WA.nil (l:=[]) T ?_;refine c_ hw ?_;refine R_ ?_;refine Sb.eq (a7 (j8 fun k=>?_));simp [EX,aC,dV,iU,hy,hd]
   ·refine P_ func125 160 fun _ _ _ _=>?_
    (refine b_ fun bx=>?_;refine y_ ?_)
    refine A.bh ?_;refine y_ ?_;refine j_ T T ea ?_
    (refine b_ fun bx=>?_;refine y_ ?_)
    refine n_ iha ?_;refine t_ fun bl=>?_;refine A.br T T T T T T T T T T T T T T (by show (0+1)*1<=_;decide) fun z=>?_;refine y_ ?_;refine A.ad 27 T (x':=AI 0) T ?_;refine i_ T T T ?_;refine A.ad 6 T (x':=iC (kF (aC l a))) (a7 (fC _ _ _)) ?_;refine A.again ?_;refine y_ ?_;refine d_ 8 [0,1,2,3,4,5,6,7] [] ?_;refine z_ ?_;refine e_ 83 T (x':=AB false) (aA (by rw [hlen];simp;omega)) ?_;refine R_ ?_;refine Sb.eq (a7 ?_);rw [<-SU];exact j8 fun k=>by simp [aC,dV,iU,A6 (l:=l) (i:=v) (by omega)]
  ·rw [ht,oZ,oZ] at hn;have ea:=aJ a;have iha:=tD l ch x lf hl hv N a (by omega) h3;rw [ea] at iha;simp only [eE,bB]
   by_cases ho:o=26
   ·subst ho;have hw:=iN (aC l a 3) 3 (by decide);have hh:=AG (kF (aC l a)) 3 (by decide);rw [SJ] at hh;refine P_ func125 160 fun _ _ _ _=>?_
    (refine b_ fun bx=>?_;refine y_ ?_)
    refine A.bh ?_;refine y_ ?_;refine j_ T T ea ?_
    (refine b_ fun bx=>?_;refine y_ ?_)
    refine n_ iha ?_;refine t_ fun bl=>?_;refine A.br T T T T T T T T T T T T T T (by show (0+1)*1<=_;decide) fun z=>?_;refine y_ ?_;refine A.ad 27 T (x':=AI 0) T ?_;refine i_ T T T ?_;refine A.ad 6 T (x':=iC (kF (aC l a))) (a7 (fC _ _ _)) ?_;refine A.again ?_;refine y_ ?_;refine n_ hh ?_;refine c_ hw ?_;refine R_ ?_;refine Sb.eq (a7 (j8 fun k=>?_));simp [EX,aC,dV,iU];exact ap6 _ _
   ·have hw:=iN (aC l a 1) 1 (by decide);have hh:=AG (kF (aC l a)) 1 (by decide);rw [MH] at hh;refine P_ func125 160 fun _ _ _ _=>?_
    (refine b_ fun bx=>?_;refine y_ ?_)
    refine A.bh ?_;refine y_ ?_;refine j_ T T ea ?_
    (refine b_ fun bx=>?_;refine y_ ?_)
    refine n_ iha ?_;refine t_ fun bl=>?_;refine A.br T T T T T T T T T T T T T T (by show (0+1)*1<=_;decide) fun z=>?_;refine y_ ?_;refine A.ad 27 T (x':=AI 0) T ?_;refine i_ T T T ?_;refine A.ad 6 T (x':=iC (kF (aC l a))) (a7 (fC _ _ _)) ?_;refine A.again ?_;(repeat (first|first|refine A.s T ?_|refine A.r T T ?_|refine A.w T T ?_|refine A.p T ?_|refine A.b T fun bx=>?_|refine A.t T fun bl=>?_|refine A.cond T (fun h=>(by simp at h;omega)) (fun _=>?_)|first|refine A.step T ?_|refine A.v T T ?_));refine n_ hh ?_;refine c_ hw ?_;refine R_ ?_;refine Sb.eq (a7 (j8 fun k=>?_));simp [EX,aC,dV,iU,ho];exact ap6 _ _
  ·rw [ht,oZ,oZ,oZ] at hn;have ea:=aJ a;have eb:=aJ b;have iha:=tD l ch x lf hl hv N a (by omega) h3;have ihb:=tD l ch x lf hl hv N b (by omega) h4;rw [ea] at iha;rw [eb] at ihb;simp only [eE,bB]
   by_cases o14:o=14
   ·subst o14;have hw:=iN ((aC l a 1&&aC l b 1)||(aC l a 2&&aC l b 2)||(aC l a 3&&aC l b 3)) 3 (by decide);refine P_ func125 160 fun _ _ _ _=>?_
    (refine b_ fun bx=>?_;refine y_ ?_)
    refine A.bh ?_;refine y_ ?_;refine j_ T T ea ?_
    (refine b_ fun bx=>?_;refine y_ ?_)
    refine n_ iha ?_;refine t_ fun bl=>?_;refine A.br T T T T T T T T T T T T T T (by show (0+1)*1<=_;decide) fun z=>?_;refine y_ ?_;refine A.ad 27 T (x':=AI 0) T ?_;refine i_ T T T ?_;refine A.ad 6 T (x':=iC (kF (aC l a))) (a7 (fC _ _ _)) ?_;refine A.again ?_;refine y_ ?_;refine j_ T T eb ?_
    (refine b_ fun bx=>?_;refine y_ ?_)
    refine n_ ihb ?_;refine t_ fun bl=>?_;refine A.append T T T T T T T T T T T T T T (by show (1+1)*1<=_;decide) fun z'=>?_;refine y_ ?_;refine A.ad 27 T (x':=AI 1) T ?_;refine i_ T T T ?_;refine A.ad 6 T (x':=iC (kS (aC l a 1&&aC l b 1) (aC l a 2&&aC l b 2) (aC l a 3&&aC l b 3))) (a7 (oU _ _ _ _ _ _)) ?_;refine A.again ?_;refine y_ ?_;refine A.ad 128 T (x':=AB ((aC l a 1&&aC l b 1)||(aC l a 2&&aC l b 2)||(aC l a 3&&aC l b 3))) (aA (ZR _ _ _)) ?_;refine c_ hw ?_;refine R_ ?_;refine Sb.eq (a7 (j8 fun k=>?_));simp only [EX,aC,dV,iU];by_cases hk:k=3<;>simp [hk]
   by_cases o15:o=15
   ·subst o15;have hw:=iN ((aC l a 1&&aC l b 1)||(aC l a 2&&aC l b 2)||(aC l a 3&&aC l b 3)) 3 (by decide);refine P_ func125 160 fun _ _ _ _=>?_
    (refine b_ fun bx=>?_;refine y_ ?_)
    refine A.bh ?_;refine y_ ?_;refine j_ T T ea ?_
    (refine b_ fun bx=>?_;refine y_ ?_)
    refine n_ iha ?_;refine t_ fun bl=>?_;refine A.br T T T T T T T T T T T T T T (by show (0+1)*1<=_;decide) fun z=>?_;refine y_ ?_;refine A.ad 27 T (x':=AI 0) T ?_;refine i_ T T T ?_;refine A.ad 6 T (x':=iC (kF (aC l a))) (a7 (fC _ _ _)) ?_;refine A.again ?_;refine y_ ?_;refine j_ T T eb ?_
    (refine b_ fun bx=>?_;refine y_ ?_)
    refine n_ ihb ?_;refine t_ fun bl=>?_;refine A.append T T T T T T T T T T T T T T (by show (1+1)*1<=_;decide) fun z'=>?_;refine y_ ?_;refine A.ad 27 T (x':=AI 1) T ?_;refine i_ T T T ?_;refine A.ad 6 T (x':=iC (kS (aC l a 1&&aC l b 1) (aC l a 2&&aC l b 2) (aC l a 3&&aC l b 3))) (a7 (oU _ _ _ _ _ _)) ?_;refine A.again ?_;refine y_ ?_;refine A.ad 128 T (x':=AB ((aC l a 1&&aC l b 1)||(aC l a 2&&aC l b 2)||(aC l a 3&&aC l b 3))) (aA (ZR _ _ _)) ?_;refine c_ hw ?_;refine R_ ?_;refine Sb.eq (a7 (j8 fun k=>?_));simp only [EX,aC,dV,iU];by_cases hk:k=3<;>simp [hk]
   by_cases o16:o=16
   ·subst o16;have hw:=iN ((aC l a 1&&aC l b 1)||(aC l a 2&&aC l b 2)) 3 (by decide);have ho2:=M3 [1,2] (by decide) (by decide);rw [of12] at ho2;refine P_ func125 160 fun _ _ _ _=>?_
    (refine b_ fun bx=>?_;refine y_ ?_)
    refine A.bh ?_;refine y_ ?_;refine j_ T T ea ?_
    (refine b_ fun bx=>?_;refine y_ ?_)
    refine n_ iha ?_;refine t_ fun bl=>?_;refine A.br T T T T T T T T T T T T T T (by show (0+1)*1<=_;decide) fun z=>?_;refine y_ ?_;refine A.ad 27 T (x':=AI 0) T ?_;refine i_ T T T ?_;refine A.ad 6 T (x':=iC (kF (aC l a))) (a7 (fC _ _ _)) ?_;refine A.again ?_;refine y_ ?_;refine j_ T T eb ?_
    (refine b_ fun bx=>?_;refine y_ ?_)
    refine n_ ihb ?_;refine t_ fun bl=>?_;refine A.append T T T T T T T T T T T T T T (by show (1+1)*1<=_;decide) fun z'=>?_;refine y_ ?_;refine A.ad 27 T (x':=AI 1) T ?_;refine i_ T T T ?_;refine A.ad 6 T (x':=iC (kS (aC l a 1&&aC l b 1) (aC l a 2&&aC l b 2) (aC l a 3&&aC l b 3))) (a7 (oU _ _ _ _ _ _)) ?_;refine A.again ?_;refine t_ fun bl=>?_;refine c_ ho2 ?_;refine A.ad 140 T (x':=AB ((aC l a 1&&aC l b 1)||(aC l a 2&&aC l b 2))) (aA (kS_6 _ _ _)) ?_;refine c_ hw ?_;refine R_ ?_;refine Sb.eq (a7 (j8 fun k=>?_));simp only [EX,aC,dV,iU];by_cases hk:k=3<;>simp [hk]
   by_cases o17:o=17
   ·subst o17;have hw:=iN ((aC l a 1&&aC l b 1)||(aC l a 2&&aC l b 2)) 3 (by decide);have ho2:=M3 [1,2] (by decide) (by decide);rw [of12] at ho2;refine P_ func125 160 fun _ _ _ _=>?_
    (refine b_ fun bx=>?_;refine y_ ?_)
    refine A.bh ?_;refine y_ ?_;refine j_ T T ea ?_
    (refine b_ fun bx=>?_;refine y_ ?_)
    refine n_ iha ?_;refine t_ fun bl=>?_;refine A.br T T T T T T T T T T T T T T (by show (0+1)*1<=_;decide) fun z=>?_;refine y_ ?_;refine A.ad 27 T (x':=AI 0) T ?_;refine i_ T T T ?_;refine A.ad 6 T (x':=iC (kF (aC l a))) (a7 (fC _ _ _)) ?_;refine A.again ?_;refine y_ ?_;refine j_ T T eb ?_
    (refine b_ fun bx=>?_;refine y_ ?_)
    refine n_ ihb ?_;refine t_ fun bl=>?_;refine A.append T T T T T T T T T T T T T T (by show (1+1)*1<=_;decide) fun z'=>?_;refine y_ ?_;refine A.ad 27 T (x':=AI 1) T ?_;refine i_ T T T ?_;refine A.ad 6 T (x':=iC (kS (aC l a 1&&aC l b 1) (aC l a 2&&aC l b 2) (aC l a 3&&aC l b 3))) (a7 (oU _ _ _ _ _ _)) ?_;refine A.again ?_;refine t_ fun bl=>?_;refine c_ ho2 ?_;refine A.ad 140 T (x':=AB ((aC l a 1&&aC l b 1)||(aC l a 2&&aC l b 2))) (aA (kS_6 _ _ _)) ?_;refine c_ hw ?_;refine R_ ?_;refine Sb.eq (a7 (j8 fun k=>?_));simp only [EX,aC,dV,iU];by_cases hk:k=3<;>simp [hk]
   by_cases o18:o=18
   ·subst o18;have hw:=iN ((aC l a 1&&aC l b 1)||(aC l a 2&&aC l b 2)) 3 (by decide);have ho2:=M3 [1,2] (by decide) (by decide);rw [of12] at ho2;refine P_ func125 160 fun _ _ _ _=>?_
    (refine b_ fun bx=>?_;refine y_ ?_)
    refine A.bh ?_;refine y_ ?_;refine j_ T T ea ?_
    (refine b_ fun bx=>?_;refine y_ ?_)
    refine n_ iha ?_;refine t_ fun bl=>?_;refine A.br T T T T T T T T T T T T T T (by show (0+1)*1<=_;decide) fun z=>?_;refine y_ ?_;refine A.ad 27 T (x':=AI 0) T ?_;refine i_ T T T ?_;refine A.ad 6 T (x':=iC (kF (aC l a))) (a7 (fC _ _ _)) ?_;refine A.again ?_;refine y_ ?_;refine j_ T T eb ?_
    (refine b_ fun bx=>?_;refine y_ ?_)
    refine n_ ihb ?_;refine t_ fun bl=>?_;refine A.append T T T T T T T T T T T T T T (by show (1+1)*1<=_;decide) fun z'=>?_;refine y_ ?_;refine A.ad 27 T (x':=AI 1) T ?_;refine i_ T T T ?_;refine A.ad 6 T (x':=iC (kS (aC l a 1&&aC l b 1) (aC l a 2&&aC l b 2) (aC l a 3&&aC l b 3))) (a7 (oU _ _ _ _ _ _)) ?_;refine A.again ?_;refine t_ fun bl=>?_;refine c_ ho2 ?_;refine A.ad 140 T (x':=AB ((aC l a 1&&aC l b 1)||(aC l a 2&&aC l b 2))) (aA (kS_6 _ _ _)) ?_;refine c_ hw ?_;refine R_ ?_;refine Sb.eq (a7 (j8 fun k=>?_));simp only [EX,aC,dV,iU];by_cases hk:k=3<;>simp [hk]
   by_cases o19:o=19
   ·subst o19;have hw:=iN ((aC l a 1&&aC l b 1)||(aC l a 2&&aC l b 2)) 3 (by decide);have ho2:=M3 [1,2] (by decide) (by decide);rw [of12] at ho2;refine P_ func125 160 fun _ _ _ _=>?_
    (refine b_ fun bx=>?_;refine y_ ?_)
    refine A.bh ?_;refine y_ ?_;refine j_ T T ea ?_
    (refine b_ fun bx=>?_;refine y_ ?_)
    refine n_ iha ?_;refine t_ fun bl=>?_;refine A.br T T T T T T T T T T T T T T (by show (0+1)*1<=_;decide) fun z=>?_;refine y_ ?_;refine A.ad 27 T (x':=AI 0) T ?_;refine i_ T T T ?_;refine A.ad 6 T (x':=iC (kF (aC l a))) (a7 (fC _ _ _)) ?_;refine A.again ?_;refine y_ ?_;refine j_ T T eb ?_
    (refine b_ fun bx=>?_;refine y_ ?_)
    refine n_ ihb ?_;refine t_ fun bl=>?_;refine A.append T T T T T T T T T T T T T T (by show (1+1)*1<=_;decide) fun z'=>?_;refine y_ ?_;refine A.ad 27 T (x':=AI 1) T ?_;refine i_ T T T ?_;refine A.ad 6 T (x':=iC (kS (aC l a 1&&aC l b 1) (aC l a 2&&aC l b 2) (aC l a 3&&aC l b 3))) (a7 (oU _ _ _ _ _ _)) ?_;refine A.again ?_;refine t_ fun bl=>?_;refine c_ ho2 ?_;refine A.ad 140 T (x':=AB ((aC l a 1&&aC l b 1)||(aC l a 2&&aC l b 2))) (aA (kS_6 _ _ _)) ?_;refine c_ hw ?_;refine R_ ?_;refine Sb.eq (a7 (j8 fun k=>?_));simp only [EX,aC,dV,iU];by_cases hk:k=3<;>simp [hk]
   by_cases o20:o=20
   ·subst o20;have hw:=iN (aC l a 3&&aC l b 3) 3 (by decide);have hh:=AG (kS (aC l a 1&&aC l b 1) (aC l a 2&&aC l b 2) (aC l a 3&&aC l b 3)) 3 (by decide);rw [SJ] at hh;refine P_ func125 160 fun _ _ _ _=>?_
    (refine b_ fun bx=>?_;refine y_ ?_)
    refine A.bh ?_;refine y_ ?_;refine j_ T T ea ?_
    (refine b_ fun bx=>?_;refine y_ ?_)
    refine n_ iha ?_;refine t_ fun bl=>?_;refine A.br T T T T T T T T T T T T T T (by show (0+1)*1<=_;decide) fun z=>?_;refine y_ ?_;refine A.ad 27 T (x':=AI 0) T ?_;refine i_ T T T ?_;refine A.ad 6 T (x':=iC (kF (aC l a))) (a7 (fC _ _ _)) ?_;refine A.again ?_;refine y_ ?_;refine j_ T T eb ?_
    (refine b_ fun bx=>?_;refine y_ ?_)
    refine n_ ihb ?_;refine t_ fun bl=>?_;refine A.append T T T T T T T T T T T T T T (by show (1+1)*1<=_;decide) fun z'=>?_;refine y_ ?_;refine A.ad 27 T (x':=AI 1) T ?_;refine i_ T T T ?_;refine A.ad 6 T (x':=iC (kS (aC l a 1&&aC l b 1) (aC l a 2&&aC l b 2) (aC l a 3&&aC l b 3))) (a7 (oU _ _ _ _ _ _)) ?_;refine A.again ?_;refine y_ ?_;refine n_ hh ?_;refine c_ hw ?_;refine R_ ?_;refine Sb.eq (a7 (j8 fun k=>?_));simp only [EX,aC,dV,iU];by_cases hk:k=3<;>simp [hk]
   by_cases o21:o=21
   ·subst o21;have hw:=iN (aC l a 3&&aC l b 3) 3 (by decide);have hh:=AG (kS (aC l a 1&&aC l b 1) (aC l a 2&&aC l b 2) (aC l a 3&&aC l b 3)) 3 (by decide);rw [SJ] at hh;refine P_ func125 160 fun _ _ _ _=>?_
    (refine b_ fun bx=>?_;refine y_ ?_)
    refine A.bh ?_;refine y_ ?_;refine j_ T T ea ?_
    (refine b_ fun bx=>?_;refine y_ ?_)
    refine n_ iha ?_;refine t_ fun bl=>?_;refine A.br T T T T T T T T T T T T T T (by show (0+1)*1<=_;decide) fun z=>?_;refine y_ ?_;refine A.ad 27 T (x':=AI 0) T ?_;refine i_ T T T ?_;refine A.ad 6 T (x':=iC (kF (aC l a))) (a7 (fC _ _ _)) ?_;refine A.again ?_;refine y_ ?_;refine j_ T T eb ?_
    (refine b_ fun bx=>?_;refine y_ ?_)
    refine n_ ihb ?_;refine t_ fun bl=>?_;refine A.append T T T T T T T T T T T T T T (by show (1+1)*1<=_;decide) fun z'=>?_;refine y_ ?_;refine A.ad 27 T (x':=AI 1) T ?_;refine i_ T T T ?_;refine A.ad 6 T (x':=iC (kS (aC l a 1&&aC l b 1) (aC l a 2&&aC l b 2) (aC l a 3&&aC l b 3))) (a7 (oU _ _ _ _ _ _)) ?_;refine A.again ?_;refine y_ ?_;refine n_ hh ?_;refine c_ hw ?_;refine R_ ?_;refine Sb.eq (a7 (j8 fun k=>?_));simp only [EX,aC,dV,iU];by_cases hk:k=3<;>simp [hk]
   by_cases o22:o=22
   ·subst o22;have hw:=iN (aC l a 1&&aC l b 1) 3 (by decide);have hh:=AG (kS (aC l a 1&&aC l b 1) (aC l a 2&&aC l b 2) (aC l a 3&&aC l b 3)) 1 (by decide);rw [MH] at hh;refine P_ func125 160 fun _ _ _ _=>?_
    (refine b_ fun bx=>?_;refine y_ ?_)
    refine A.bh ?_;refine y_ ?_;refine j_ T T ea ?_
    (refine b_ fun bx=>?_;refine y_ ?_)
    refine n_ iha ?_;refine t_ fun bl=>?_;refine A.br T T T T T T T T T T T T T T (by show (0+1)*1<=_;decide) fun z=>?_;refine y_ ?_;refine A.ad 27 T (x':=AI 0) T ?_;refine i_ T T T ?_;refine A.ad 6 T (x':=iC (kF (aC l a))) (a7 (fC _ _ _)) ?_;refine A.again ?_;refine y_ ?_;refine j_ T T eb ?_
    (refine b_ fun bx=>?_;refine y_ ?_)
    refine n_ ihb ?_;refine t_ fun bl=>?_;refine A.append T T T T T T T T T T T T T T (by show (1+1)*1<=_;decide) fun z'=>?_;refine y_ ?_;refine A.ad 27 T (x':=AI 1) T ?_;refine i_ T T T ?_;refine A.ad 6 T (x':=iC (kS (aC l a 1&&aC l b 1) (aC l a 2&&aC l b 2) (aC l a 3&&aC l b 3))) (a7 (oU _ _ _ _ _ _)) ?_;refine A.again ?_;refine y_ ?_;refine n_ hh ?_;refine c_ hw ?_;refine R_ ?_;refine Sb.eq (a7 (j8 fun k=>?_));simp only [EX,aC,dV,iU];by_cases hk:k=3<;>simp [hk]
   have hw:=iN (aC l a 1&&aC l b 1) 1 (by decide);have hh:=AG (kS (aC l a 1&&aC l b 1) (aC l a 2&&aC l b 2) (aC l a 3&&aC l b 3)) 1 (by decide);rw [MH] at hh;have ho13:o<=13:=by omega
   refine P_ func125 160 fun _ _ _ _=>?_
   (refine b_ fun bx=>?_;refine y_ ?_)
   refine A.bh ?_;refine y_ ?_;refine j_ T T ea ?_
   (refine b_ fun bx=>?_;refine y_ ?_)
   refine n_ iha ?_;refine t_ fun bl=>?_;refine A.br T T T T T T T T T T T T T T (by show (0+1)*1<=_;decide) fun z=>?_;refine y_ ?_;refine A.ad 27 T (x':=AI 0) T ?_;refine i_ T T T ?_;refine A.ad 6 T (x':=iC (kF (aC l a))) (a7 (fC _ _ _)) ?_;refine A.again ?_;refine y_ ?_;refine j_ T T eb ?_
   (refine b_ fun bx=>?_;refine y_ ?_)
   refine n_ ihb ?_;refine t_ fun bl=>?_;refine A.append T T T T T T T T T T T T T T (by show (1+1)*1<=_;decide) fun z'=>?_;refine y_ ?_;refine A.ad 27 T (x':=AI 1) T ?_;refine i_ T T T ?_;refine A.ad 6 T (x':=iC (kS (aC l a 1&&aC l b 1) (aC l a 2&&aC l b 2) (aC l a 3&&aC l b 3))) (a7 (oU _ _ _ _ _ _)) ?_;refine A.again ?_;(repeat (first|first|refine A.s T ?_|refine A.r T T ?_|refine A.w T T ?_|refine A.p T ?_|refine A.b T fun bx=>?_|refine A.t T fun bl=>?_|refine A.cond T (fun h=>(by simp at h;omega)) (fun _=>?_)|first|refine A.step T ?_|refine A.v T T ?_));refine n_ hh ?_;refine c_ hw ?_;refine R_ ?_;refine Sb.eq (a7 (j8 fun k=>?_));simp only [EX,aC,dV,iU,iT ho13];simp;exact ap6 _ _
  ·rw [ht,oZ,oZ] at hn;have ea:=aJ a;have iha:=tD l ch x lf hl hv N a (by omega) h3;rw [ea] at iha;simp only [eE,bB];have hw:=iN (aC l a 1||aC l a 2||aC l a 3) t ⟨h1,h2⟩;refine P_ func125 160 fun _ _ _ _=>?_
   (refine b_ fun bx=>?_;refine y_ ?_)
   refine A.bh ?_;refine y_ ?_;refine j_ T T ea ?_
   (refine b_ fun bx=>?_;refine y_ ?_)
   refine n_ iha ?_;refine t_ fun bl=>?_;refine A.br T T T T T T T T T T T T T T (by show (0+1)*1<=_;decide) fun z=>?_;refine y_ ?_;refine A.ad 27 T (x':=AI 0) T ?_;refine i_ T T T ?_;refine A.ad 6 T (x':=iC (kF (aC l a))) (a7 (fC _ _ _)) ?_;refine A.again ?_;refine y_ ?_;refine d_ 7 [0,1,2,3,4,5,6] [] ?_;refine rM T T T ?_;refine WA.ad 117 T (x':=AB (aC l a 1||aC l a 2||aC l a 3)) (aA (ZR _ _ _)) ?_;refine WA.nil (l:=[]) T ?_;refine c_ hw ?_;refine R_ ?_;refine Sb.eq (a7 (j8 fun k=>?_));simp [EX,aC,dV,iU,XN k];exact ap6 _ _
theorem SX(l:List KV)(ch:List Int)(x:Nat->AV)(lf:Int)(hl:l.length<=281474976710656)(hv:mD l)(e:KE)(hw:iZ e)(kind:Int)(hk:1<=kind/\kind<=3):Pure prog a9 111 [EW l ch x lf,eE e,aU kind] (AB (decide (valid e)&&aC l e kind)):=by
 have hva:=ZU e hw;rw [aJ] at hva⊢
 by_cases hve:valid e
 ·have hkd:=tD l ch x lf hl hv (ht e) e (aa6 _) hve.1;have hh:=AG (kF (aC l e)) kind (by omega);have he:hasB (kF (aC l e)) kind=aC l e kind:=by
   have:kind=1\/kind=2\/kind=3:=by omega
   rcases this with rfl|rfl|rfl
   ·exact MH _ _ _
   ·exact has_2 _ _ _
   ·exact SJ _ _ _
  rw [he] at hh;rw [aJ] at hkd;rw [decide_eq_true hve] at hva⊢;refine P_ func111 16 fun _ _ _ _=>?_
  (refine b_ fun bx=>?_;refine y_ ?_)
  refine c_ hva ?_;refine c_ hkd ?_;exact lR hh
 ·rw [decide_eq_false hve] at hva⊢;refine P_ func111 16 fun _ _ _ _=>?_
  (refine b_ fun bx=>?_;refine y_ ?_)
  exact lR hva
structure PL where
 v:Int
 ix:List KE
mutual
inductive PR where
 |mk (kind c v item:Int) (to:List PL) (e:List KE) (gs:List GD) (l:List PR)
inductive GD where
 |mk (kind:Int) (cond:KE) (c item:Int) (to:PL) (time:KE) (body:List PR)
end
abbrev PR.kind:PR->Int|⟨k,_,_,_,_,_,_,_⟩=>k
abbrev PR.c:PR->Int|⟨_,c,_,_,_,_,_,_⟩=>c
abbrev PR.v:PR->Int|⟨_,_,v,_,_,_,_,_⟩=>v
abbrev PR.item:PR->Int|⟨_,_,_,i,_,_,_,_⟩=>i
abbrev PR.to:PR->List PL|⟨_,_,_,_,t,_,_,_⟩=>t
abbrev PR.e:PR->List KE|⟨_,_,_,_,_,e,_,_⟩=>e
abbrev PR.gs:PR->List GD|⟨_,_,_,_,_,_,g,_⟩=>g
abbrev PR.l:PR->List PR|⟨_,_,_,_,_,_,_,l⟩=>l
abbrev GD.kind:GD->Int|⟨k,_,_,_,_,_,_⟩=>k
abbrev GD.cond:GD->KE|⟨_,e,_,_,_,_,_⟩=>e
abbrev GD.c:GD->Int|⟨_,_,c,_,_,_,_⟩=>c
abbrev GD.item:GD->Int|⟨_,_,_,i,_,_,_⟩=>i
abbrev GD.to:GD->PL|⟨_,_,_,_,t,_,_⟩=>t
abbrev GD.time:GD->KE|⟨_,_,_,_,_,t,_⟩=>t
abbrev GD.body:GD->List PR|⟨_,_,_,_,_,_,b⟩=>b
abbrev dU(p:PL):AV:= .ag [AI p.v, .sl 6 (bB p.ix) none]
abbrev iK(l:List PL):AV:= .sl 2 (l.map dU) none
abbrev c8(l:List KE):AV:= .sl 6 (bB l) none
mutual
def yR:PR->AV
 |⟨k,c,v,i,to,e,gs,l⟩=> .ag [aU k,AI c,AI v,aU i,iK to,c8 e, .sl 18 (eV gs) none, .sl 8 (bC l) none]
def bC:List PR->List AV
 | []=>[] |p::r=>yR p::bC r
def YJ:GD->AV
 |⟨k,e,c,i,to,t,b⟩=> .ag [aU k,aU e.kind,aU e.oper,aU e.to,aL e.n,AI e.v,c8 e.l,AI c,aU i,AI to.v,c8 to.ix,aU t.kind,aU t.oper,aU t.to,aL t.n,AI t.v,c8 t.l, .sl 8 (bC b) none]
def eV:List GD->List AV
 | []=>[] |g::r=>YJ g::eV r
end
abbrev iQ(l:List PR):AV:= .sl 8 (bC l) none
abbrev rH(l:List GD):AV:= .sl 18 (eV l) none
abbrev aB(p:PR):AV:= .ag [aU p.kind,AI p.c,AI p.v,aU p.item,iK p.to,c8 p.e,rH p.gs,iQ p.l]
abbrev aZ(g:GD):AV:= .ag [aU g.kind,aU g.cond.kind,aU g.cond.oper,aU g.cond.to,aL g.cond.n,AI g.cond.v,c8 g.cond.l,AI g.c,aU g.item,AI g.to.v,c8 g.to.ix,aU g.time.kind,aU g.time.oper,aU g.time.to,aL g.time.n,AI g.time.v,c8 g.time.l,iQ g.body]
theorem bP(p:PR):yR p=aB p:=by obtain ⟨k,c,v,i,to,e,gs,l⟩:=p;rw [yR]
theorem jX(g:GD):YJ g=aZ g:=by obtain ⟨k,e,c,i,to,t,b⟩:=g;rw [YJ]
theorem mZ(l:List PR):bC l=l.map yR:=by
 induction l with
 |nil=>rw [bC];rfl |cons x r ih=>rw [bC,ih];rfl
theorem s9(l:List GD):eV l=l.map YJ:=by
 induction l with
 |nil=>rw [eV];rfl |cons x r ih=>rw [eV,ih];rfl
theorem aW(l:List PR):(bC l).length=l.length:=by rw [mZ,aa0]
theorem dD(l:List GD):(eV l).length=l.length:=by rw [s9,aa0]
theorem cF{l:List PR}{i:Nat}{x:PR}(h:l[i]? =some x):(bC l)[i]? =some (yR x):=by rw [mZ];exact aR h
theorem jY{l:List GD}{i:Nat}{x:GD}(h:l[i]? =some x):(eV l)[i]? =some (YJ x):=by rw [s9];exact aR h
def pV(p:PL):Prop:=oY p.ix
mutual
def zS:PR->Prop
 |⟨k,c,v,i,to,e,gs,l⟩=>((∀t,t∈to->pV t)/\oY e/\to.length<=281474976710656/\gs.length<=281474976710656/\l.length<=281474976710656)/\yB gs/\vS l
def vS:List PR->Prop
 | []=>True |p::r=>zS p/\vS r
def wfG:GD->Prop
 |⟨k,e,c,i,to,t,b⟩=>(iZ e/\iZ t/\pV to)/\vS b
def yB:List GD->Prop
 | []=>True |g::r=>wfG g/\yB r
end
theorem EU: ∀{l:List PR},vS l-> ∀x,x∈l->zS x
 | [],_,x,h=>by cases h |y::r,hw,x,h=>by
  rw [vS] at hw;rcases ab0.1 h with rfl|h
  ·exact hw.1
  ·exact EU hw.2 x h
theorem OI: ∀{l:List GD},yB l-> ∀x,x∈l->wfG x
 | [],_,x,h=>by cases h |y::r,hw,x,h=>by
  rw [yB] at hw;rcases ab0.1 h with rfl|h
  ·exact hw.1
  ·exact OI hw.2 x h
structure WfR(p:PR):Prop where
 to: ∀t,t∈p.to->pV t
 e: ∀x,x∈p.e->iZ x
 tol:p.to.length<=281474976710656
 gl:p.gs.length<=281474976710656
 ll:p.l.length<=281474976710656
 g: ∀g,g∈p.gs->wfG g
 l: ∀x,x∈p.l->zS x
theorem oM{p:PR}(h:zS p):WfR p:=by obtain ⟨k,c,v,i,to,e,gs,l⟩:=p;rw [zS] at h;exact ⟨h.1.1,sW h.1.2.1,h.1.2.2.1,h.1.2.2.2.1,h.1.2.2.2.2,OI h.2.1,EU h.2.2⟩
structure WfG(g:GD):Prop where
 cond:iZ g.cond
 time:iZ g.time
 to:pV g.to
 body: ∀x,x∈g.body->zS x
theorem BZ{g:GD}(h:wfG g):WfG g:=by obtain ⟨k,e,c,i,to,t,b⟩:=g;rw [wfG] at h;exact ⟨h.1.1,h.1.2.1,h.1.2.2,EU h.2⟩
def kM(l:List KV)(e:KE)(k:Int):Bool:=decide (valid e)&&aC l e k
def oS(l:List KV)(es:List KE)(k:Int):Bool:=match es with
 |e::_=>kM l e k | []=>false
def dR(l:List KV)(p:PL)(k:Int):Bool:=if p.v<0\/(l.length:Int)<=p.v then false else match l[p.v.toNat]? with
 |some x=>x.kind==k&&(if x.dim=0 then p.ix.length==0 else p.ix.length==1&&oS l p.ix 1) |none=>false
def jW(n:Nat)(ch item no:Int):Bool:=decide (0<=ch)&&decide (ch<n)&&(ch !=no)&&nI item&&(decide (1<ch)||item==1)
def gD(l:List KV)(n:Nat)(ch item:Int)(to:PL):Bool:=jW n ch item 1&&dR l to item
def zeroE(e:KE):Bool:=e.kind==0&&e.oper==0&&e.to==0&&e.n==0&&e.v==0&&decide (e.l.length<=0)
def oD(g:GD)(input timed:Bool):Bool:=(input||(g.c==0&&g.item==0&&g.to.v==0&&g.to.ix.length==0))&&(timed||zeroE g.time)
def cH(l:List KV)(n:Nat)(g:GD)(choice:Bool):Bool:=(g.body.length==1)&&kM l g.cond 3&&((g.kind==1)==choice)&&
 (if g.kind=1\/g.kind=2 then oD g false false else if g.kind=3 then oD g true false&&gD l n g.c g.item g.to
  else if g.kind=4 then oD g false true&&kM l g.time 1 else false)
def inB(n:Nat)(a b:Int):Bool:=decide (a<=(n:Int))&&decide ((n:Int)<=b)
def aN(p:PR)(ch v:Bool)(t1 t2 e1 e2 g1 g2 l1 l2:Int):Bool:=(ch||(p.c==0&&p.item==0))&&(v||p.v==0)&&inB p.to.length t1 t2&&inB p.e.length e1 e2&&inB p.gs.length g1 g2&&inB p.l.length l1 l2
def eK(l:List KV)(t:PL)(e:KE):Bool:=if t.v<0\/(l.length:Int)<=t.v then false else match l[t.v.toNat]? with
 |some x=>dR l t x.kind&&kM l e x.kind |none=>false
def to1(f:PL->Bool)(ts:List PL):Bool:=match ts with
 |t::_=>f t | []=>false
def aS(l:List KV)(n:Nat)(p:PR):Bool:=
 if p.kind=1\/p.kind=2 then aN p false false 0 0 0 0 0 0 0 0
 else if p.kind=3 then aN p false true 0 0 0 0 0 0 0 0&&decide (0<=p.v)&&decide (p.v<l.length)
 else if p.kind=4 then aN p false false 1 8 1 8 0 0 0 0&&(p.to.length==p.e.length)&&(p.to.zip p.e).all fun te=>eK l te.1 te.2
 else if p.kind=5 then aN p true false 1 1 0 0 0 0 0 0&&to1 (gD l n p.c p.item) p.to
 else if p.kind=6 then aN p true false 0 0 1 1 0 0 0 0&&jW n p.c p.item 0&&oS l p.e p.item
 else if p.kind=7 then aN p false false 1 1 0 0 0 0 0 0&&to1 (fun t=>dR l t 1) p.to
 else if p.kind=8 then aN p false false 0 0 1 1 0 0 0 0&&oS l p.e 1
 else if p.kind=9 then aN p false false 0 0 0 0 0 0 0 2048
 else if p.kind=10 then aN p false false 0 0 0 0 0 0 0 16
 else if p.kind=11 then aN p false false 0 0 0 0 0 0 2 2
 else if p.kind=12\/p.kind=14\/p.kind=15 then aN p false false 0 0 0 0 0 16 0 0&&p.gs.all fun g=>cH l n g (p.kind==12)
 else if p.kind=13 then aN p false false 0 0 1 1 0 0 1 1&&oS l p.e 3
 else false
abbrev kI(a b:Int):AV:= .ag [AI a,AI b]
theorem xO(n:Nat)(a b:Int):Pure prog a9 123 [AI (n:Int),kI a b] (AB (inB n a b)):=by
 refine P_ func123 15 fun _ _ _ _=>?_
 (refine b_ fun bx=>?_;refine y_ ?_)
 refine A.dk T T T T T T T T (by decide) (by decide) ?_;refine y_ ?_
 ((fail_if_success (refine A.lit? T ?_));refine A.gS T (fun hc=>?_) (fun hc=>?_))
 ·refine y_ ?_;refine A.dk T T T T T T T T (by decide) (by decide) ?_;refine y_ ?_;refine R_ ?_;refine Sb.eq (aA ?_);rw [inB,hc];rfl
 ·refine y_ ?_;refine R_ ?_;refine Sb.eq (aA ?_);rw [inB,hc];rfl
theorem jB(p:PR)(ch v:Bool)(t1 t2 e1 e2 g1 g2 l1 l2:Int):Pure prog a9 109 [aB p,AB ch,AB v,kI t1 t2,kI e1 e2,kI g1 g2,kI l1 l2] (AB (aN p ch v t1 t2 e1 e2 g1 g2 l1 l2)):=by
 have s1:=xO p.to.length t1 t2;have s2:=xO p.e.length e1 e2;have s3:=xO p.gs.length g1 g2;have s4:=xO p.l.length l1 l2;have n1:((p.to.map dU).length:Int)=p.to.length:=by rw [aa0]
 have n2:((bB p.e).length:Int)=p.e.length:=by rw [bF]
 have n3:((eV p.gs).length:Int)=p.gs.length:=by rw [dD]
 have n4:((bC p.l).length:Int)=p.l.length:=by rw [aW]
 rw [<-n1] at s1;rw [<-n2] at s2;rw [<-n3] at s3;rw [<-n4] at s4;unfold aN;generalize inB p.to.length t1 t2=b1 at s1⊢;generalize inB p.e.length e1 e2=b2 at s2⊢;generalize inB p.gs.length g1 g2=b3 at s3⊢;generalize inB p.l.length l1 l2=b4 at s4⊢;cases ch<;>cases v
 all_goals refine P_ func109 67 fun _ _ _ _=>?_
 all_goals (repeat' first|first|refine A.s T ?_|refine A.r T T ?_|refine A.w T T ?_|refine A.p T ?_|refine A.b T fun bx=>?_|refine A.t T fun bl=>?_|refine A.c T s1 .refl ?_|refine A.c T s2 .refl ?_|refine A.c T s3 .refl ?_|refine A.c T s4 .refl ?_|((fail_if_success (refine A.lit? T ?_));refine A.gS T (fun hc=>?_) (fun hc=>?_))|((fail_if_success (refine A.cv? T ?_));refine A.gm T (fun hc=>?_) (fun hc=>?_)))
 (all_goals (refine R_ ?_;refine Sb.eq (aA ?_)))
 all_goals simp_all
theorem XW(l:List KV)(ch:List Int)(x:Nat->AV)(lf:Int)(c item no:Int):Pure prog a9 113 [EW l ch x lf,AI c,aU item,AI no] (AB (jW ch.length c item no)):=by
 have hp:=I4 item;have hn:((ch.map aU).length:Int)=ch.length:=by rw [aa0]
 unfold jW;generalize nI item=b at hp⊢;refine P_ func113 38 fun _ _ _ _=>?_;(repeat' first|first|refine A.s T ?_|refine A.r T T ?_|refine A.w T T ?_|refine A.p T ?_|refine A.b T fun bx=>?_|refine A.t T fun bl=>?_|refine A.c T hp .refl ?_|((fail_if_success (refine A.lit? T ?_));refine A.gS T (fun hc=>?_) (fun hc=>?_))|((fail_if_success (refine A.cv? T ?_));refine A.gm T (fun hc=>?_) (fun hc=>?_)))
 (all_goals (refine R_ ?_;refine Sb.eq (aA ?_)))
 all_goals (rw [ab8];simp_all)
 all_goals (try intros)
 all_goals omega
theorem JM(l:List KV)(ch:List Int)(x:Nat->AV)(lf:Int)(hl:l.length<=281474976710656)(hv:mD l)(p:PL)(hw:pV p)(k:Int):Pure prog a9 110 [EW l ch x lf,dU p,aU k] (AB (dR l p k)):=by
 have hlen:((l.map rF).length:Int)=l.length:=by rw [aa0]
 have hxl:((bB p.ix).length:Int)=p.ix.length:=by rw [bF]
 by_cases hneg:p.v<0
 ·refine P_ func110 62 fun _ _ _ _=>?_
  (refine b_ fun bx=>?_;refine y_ ?_)
  refine d_ 26 [0,1,2,3,4,5,6,7,8,9,10,11,12,13,14,15,16,17,18,19,20,21,22,23,24,25] [] ?_;refine uS 10 T (x':=AB true) (aA (by simpa using hneg)) ?_;refine z_ ?_;refine R_ ?_;refine Sb.eq (aA ?_);rw [dR,iT (.inl hneg)]
 by_cases h1:(l.length:Int)<=p.v
 ·refine P_ func110 62 fun _ _ _ _=>?_
  (refine b_ fun bx=>?_;refine y_ ?_)
  refine d_ 26 [0,1,2,3,4,5,6,7,8,9,10,11,12,13,14,15,16,17,18,19,20,21,22,23,24,25] [] ?_;refine uS 10 T (x':=AB false) (aA (by simp;omega)) ?_;refine uS 21 T (x':=AB true) (aA (by rw [hlen];simpa using h1)) ?_;refine z_ ?_;refine R_ ?_;refine Sb.eq (aA ?_);rw [dR,iT (.inr h1)]
 refine ac7 (FG (l:=l) (i:=p.v) (by omega) (by omega)) fun y hy=>?_;have hyk:=hv y (aa2 hy);have hpb:dR l p k=(y.kind==k&&(if y.dim=0 then p.ix.length==0 else p.ix.length==1&&oS l p.ix 1)):=by rw [dR,iF (by omega),hy]
 rw [hpb];clear hpb;have hv0:(0:Int)<=p.v:=by omega
 by_cases hk:y.kind=k
 case neg=>
  refine P_ func110 62 fun _ _ _ _=>?_
  (refine b_ fun bx=>?_;refine y_ ?_)
  refine d_ 26 [0,1,2,3,4,5,6,7,8,9,10,11,12,13,14,15,16,17,18,19,20,21,22,23,24,25] [] ?_;refine uS 10 T (x':=AB false) (aA (by simp;omega)) ?_;refine uS 21 T (x':=AB false) (aA (by rw [hlen];simp;omega)) ?_;refine WA.x T hv0 (aR hy) T T ?_;refine w_ ?_;refine z_ ?_;refine e_ 34 T (x':=AB true) (aA (by simpa using hk)) ?_;refine R_ ?_;refine Sb.eq (aA ?_);simp [hk]
 subst hk
 by_cases hd:y.dim=0
 ·refine P_ func110 62 fun _ _ _ _=>?_
  (refine b_ fun bx=>?_;refine y_ ?_)
  refine d_ 26 [0,1,2,3,4,5,6,7,8,9,10,11,12,13,14,15,16,17,18,19,20,21,22,23,24,25] [] ?_;refine uS 10 T (x':=AB false) (aA (by simp;omega)) ?_;refine uS 21 T (x':=AB false) (aA (by rw [hlen];simp;omega)) ?_;refine WA.x T hv0 (aR hy) T T ?_;refine w_ ?_;refine z_ ?_;refine e_ 34 T (x':=AB false) (aA (by simp)) ?_;refine d_ 7 [0,1,2,3,4,5,6] [] ?_;refine WA.nil (l:=[]) T ?_;refine A.x T hv0 (aR hy) T T ?_;refine y_ ?_;refine e_ 45 T (x':=AB true) (aA (by simpa using hd)) ?_;refine R_ ?_;refine Sb.eq (aA ?_);rw [hxl,iT hd,ab8];simp
 ·have hfin: ∀e,p.ix=[e]->Pure prog a9 111 [EW l ch x lf,eE e,aU 1] (AB (oS l p.ix 1)):=fun e he=>by
   have:=SX l ch x lf hl hv e (sW hw e (by rw [he];exact aa4 ..)) 1 (by decide);rw [he];exact this
  by_cases hx1:p.ix.length=1
  ·obtain ⟨e,he⟩: ∃e,p.ix=[e]:=by
    match h:p.ix,hx1 with
    | [e],_=>exact ⟨e,rfl⟩
   have hf:=hfin e he;rw [aJ] at hf;generalize hfb:oS l p.ix 1=fb at hf⊢;refine P_ func110 62 fun _ _ _ _=>?_
   (refine b_ fun bx=>?_;refine y_ ?_)
   refine d_ 26 [0,1,2,3,4,5,6,7,8,9,10,11,12,13,14,15,16,17,18,19,20,21,22,23,24,25] [] ?_;refine uS 10 T (x':=AB false) (aA (by simp;omega)) ?_;refine uS 21 T (x':=AB false) (aA (by rw [hlen];simp;omega)) ?_;refine WA.x T hv0 (aR hy) T T ?_;refine w_ ?_;refine z_ ?_;refine e_ 34 T (x':=AB false) (aA (by simp)) ?_;refine d_ 7 [0,1,2,3,4,5,6] [] ?_;refine WA.nil (l:=[]) T ?_;refine A.x T hv0 (aR hy) T T ?_;refine y_ ?_;refine e_ 45 T (x':=AB false) (aA (by simpa using hd)) ?_;refine e_ 54 T (x':=AB true) (aA (by rw [hxl];simp [hx1])) ?_;refine i_ T (show (bB p.ix)[(0:Int).toNat]? =some (eE e) from fW (by rw [he];rfl)) (aJ e) ?_;refine c_ hf ?_;refine R_ ?_;refine Sb.eq (aA ?_);rw [iF hd,hx1];simp
  ·refine P_ func110 62 fun _ _ _ _=>?_
   (refine b_ fun bx=>?_;refine y_ ?_)
   refine d_ 26 [0,1,2,3,4,5,6,7,8,9,10,11,12,13,14,15,16,17,18,19,20,21,22,23,24,25] [] ?_;refine uS 10 T (x':=AB false) (aA (by simp;omega)) ?_;refine uS 21 T (x':=AB false) (aA (by rw [hlen];simp;omega)) ?_;refine WA.x T hv0 (aR hy) T T ?_;refine w_ ?_;refine z_ ?_;refine e_ 34 T (x':=AB false) (aA (by simp)) ?_;refine d_ 7 [0,1,2,3,4,5,6] [] ?_;refine WA.nil (l:=[]) T ?_;refine A.x T hv0 (aR hy) T T ?_;refine y_ ?_;refine e_ 45 T (x':=AB false) (aA (by simpa using hd)) ?_;refine e_ 54 T (x':=AB false) (aA (by rw [hxl];simp;omega)) ?_;refine R_ ?_;refine Sb.eq (aA ?_);rw [iF hd];simp [hx1]
theorem SQ(l:List KV)(ch:List Int)(x:Nat->AV)(lf:Int)(hl:l.length<=281474976710656)(hv:mD l)(c item:Int)(to:PL)(hw:pV to):Pure prog a9 112 [EW l ch x lf,AI c,aU item,dU to] (AB (gD l ch.length c item to)):=by
 have hc:=XW l ch x lf c item 1;have hp:=JM l ch x lf hl hv to hw item;unfold gD;generalize jW ch.length c item 1=b1 at hc⊢;generalize dR l to item=b2 at hp⊢;cases b1
 all_goals refine P_ func112 19 fun _ _ _ _=>?_
 all_goals (repeat' first|first|refine A.s T ?_|refine A.r T T ?_|refine A.w T T ?_|refine A.p T ?_|refine A.b T fun bx=>?_|refine A.t T fun bl=>?_|refine A.c T hc .refl ?_|refine A.c T hp .refl ?_)
 (all_goals (refine R_ ?_;refine Sb.eq (aA ?_)))
 all_goals simp_all
theorem zF(g:GD)(input timed:Bool):Pure prog a9 128 [aZ g,AB input,AB timed] (AB (oD g input timed)):=by
 have n1:((bB g.time.l).length:Int)=g.time.l.length:=by rw [bF]
 have n2:((bB g.to.ix).length:Int)=g.to.ix.length:=by rw [bF]
 have hn:decide (g.time.l.length<=0)= !decide (0<((bB g.time.l).length:Int)):=by rw [n1,ab8];simp
 have hm:(g.to.ix.length==0)=(((bB g.to.ix).length:Int)==0):=by rw [n2,ab8];simp
 unfold oD zeroE;rw [hn,hm];cases input<;>cases timed
 all_goals refine P_ func128 71 fun _ _ _ _=>?_
 all_goals (repeat' first|first|refine A.s T ?_|refine A.r T T ?_|refine A.w T T ?_|refine A.p T ?_|refine A.b T fun bx=>?_|refine A.t T fun bl=>?_|((fail_if_success (refine A.lit? T ?_));refine A.gS T (fun hc=>?_) (fun hc=>?_))|((fail_if_success (refine A.cv? T ?_));refine A.gm T (fun hc=>?_) (fun hc=>?_)))
 (all_goals (refine R_ ?_;refine Sb.eq (aA ?_)))
 all_goals simp_all
theorem idxG_p(f:FuncId)(c:List AV)(p:GD->Bool)(l:List GD)(hcb: ∀g,g∈l->Pure prog a9 f (aZ g::c) (AB (p g)))(hb:l.length<=281474976710656):
 Pure prog a9 127 [rH l, .fn f [] c] (AI (mU p l 0)):=by
 refine P_ func127 19 fun _ _ _ _=>?_;refine y_ ?_;refine A.ad 7 T (x':=AI (l.length:Nat)) (aM (by rw [dD])) ?_;refine A.ay [0,1,7,8] T ?_;refine A.ar (ι:=Nat) (fun i=>(⟨[(0,rH l),(1, .fn f [] c),(7,AI (l.length:Nat)),(8,AI (i:Int))],[]⟩,[])) (fun i=>i<=l.length/\mU p l 0=mU p (l.drop i) i) (fun i=>l.length-i) 0 ⟨by omega,rfl⟩ T fun i hi ih=>?_;refine y_ ?_;refine k_ (fun hc=>?_) fun hc=>?_
 ·simp at hc;refine aX hc fun x hx=>?_;have hx1:=hcb x (aa2 hx);refine y_ ?_;refine i_ T (jY hx) (jX x) ?_;refine A.c T hx1 fO.refl ?_;have h1:=hi.2;rw [bS hx,mU] at h1;cases hp:p x with
  |true=>
   rw [hp] at h1;refine y_ ?_;refine R_ ?_;rw [h1];exact .refl
  |false=>
   rw [hp] at h1;refine y_ ?_;refine vI 8 i ?_;refine u_ (ih (i+1) ⟨by omega,h1⟩ (by omega))
 ·simp at hc;have:i=l.length:=by omega
  subst this;refine y_ ?_;refine R_ ?_;rw [hi.2,ad2];exact .refl
theorem hasG_p(f:FuncId)(c:List AV)(p:GD->Bool)(l:List GD)(hcb: ∀g,g∈l->Pure prog a9 f (aZ g::c) (AB (p g)))(hb:l.length<=281474976710656):
 Pure prog a9 114 [rH l, .fn f [] c] (AB (l.any p)):=by
 refine P_ func114 9 fun _ _ _ _=>?_;refine y_ ?_;refine c_ (idxG_p f c p l hcb hb) ?_;refine R_ ?_;refine Sb.eq (aA ?_);exact nC p l 0
theorem yX(l:List KV)(ch:List Int)(x:Nat->AV)(lf:Int)(hl:l.length<=281474976710656)(hv:mD l)(e:KE)(hw:iZ e)(kind:Int)(hk:1<=kind/\kind<=3):Pure prog a9 111 [EW l ch x lf,eB e,aU kind] (AB (kM l e kind)):=by have:=SX l ch x lf hl hv e hw kind hk;rw [aJ] at this;exact this
theorem guard_p(l:List KV)(ch:List Int)(x:Nat->AV)(lf:Int)(hl:l.length<=281474976710656)(hv:mD l)(g:GD)(hw:WfG g)(choice:Bool):Pure prog a9 116 [EW l ch x lf,aZ g,AB choice] (AB (cH l ch.length g choice)):=by
 have hfc:=yX l ch x lf hl hv g.cond hw.cond 3 (by decide);have hft:=yX l ch x lf hl hv g.time hw.time 1 (by decide);have hin:=SQ l ch x lf hl hv g.c g.item g.to hw.to;have p1:=zF g false false;have p2:=zF g true false;have p3:=zF g false true;have hbl:(g.body.length==1)= !(((bC g.body).length:Int) !=1):=by rw [aW,ab8];simp;omega
 unfold cH;rw [hbl];generalize kM l g.cond 3=b1 at hfc⊢;generalize kM l g.time 1=b2 at hft⊢;generalize gD l ch.length g.c g.item g.to=b3 at hin⊢;generalize oD g false false=q1 at p1⊢;generalize oD g true false=q2 at p2⊢;generalize oD g false true=q3 at p3⊢;clear hw hl hv;obtain ⟨k,e,c,i,to,t,b⟩:=g
 by_cases k1:k=1
 ·subst k1;clear hft hin p2 p3;simp only [true_or,if_true];cases choice
  all_goals refine P_ func116 56 fun _ _ _ _=>?_
  all_goals (repeat' first|first|refine A.s T ?_|refine A.r T T ?_|refine A.w T T ?_|refine A.p T ?_|refine A.b T fun bx=>?_|refine A.t T fun bl=>?_|refine A.c T hfc .refl ?_|refine A.c T p1 .refl ?_|((fail_if_success (refine A.lit? T ?_));refine A.gS T (fun hc=>?_) (fun hc=>?_))|((fail_if_success (refine A.cv? T ?_));refine A.gm T (fun hc=>?_) (fun hc=>?_)))
  (all_goals (refine R_ ?_;refine Sb.eq (aA ?_)))
  all_goals simp_all [GD.kind]
 by_cases k2:k=2
 ·subst k2;clear hft hin p2 p3;simp only [or_true,if_true];cases choice
  all_goals refine P_ func116 56 fun _ _ _ _=>?_
  all_goals (repeat' first|first|refine A.s T ?_|refine A.r T T ?_|refine A.w T T ?_|refine A.p T ?_|refine A.b T fun bx=>?_|refine A.t T fun bl=>?_|refine A.c T hfc .refl ?_|refine A.c T p1 .refl ?_|((fail_if_success (refine A.lit? T ?_));refine A.gS T (fun hc=>?_) (fun hc=>?_))|((fail_if_success (refine A.cv? T ?_));refine A.gm T (fun hc=>?_) (fun hc=>?_)))
  (all_goals (refine R_ ?_;refine Sb.eq (aA ?_)))
  all_goals simp_all [GD.kind]
 rw [iF (fun h=>h.elim k1 k2)]
 by_cases k3:k=3
 ·subst k3;clear hft p1 p3;rw [iT T];cases choice
  all_goals refine P_ func116 56 fun _ _ _ _=>?_
  all_goals (repeat' first|first|refine A.s T ?_|refine A.r T T ?_|refine A.w T T ?_|refine A.p T ?_|refine A.b T fun bx=>?_|refine A.t T fun bl=>?_|refine A.c T hfc .refl ?_|refine A.c T hin .refl ?_|refine A.c T p2 .refl ?_|((fail_if_success (refine A.lit? T ?_));refine A.gS T (fun hc=>?_) (fun hc=>?_))|((fail_if_success (refine A.cv? T ?_));refine A.gm T (fun hc=>?_) (fun hc=>?_)))
  (all_goals (refine R_ ?_;refine Sb.eq (aA ?_)))
  all_goals simp_all [GD.kind]
 rw [iF k3]
 by_cases k4:k=4
 ·subst k4;clear hin p1 p2;rw [iT T];cases choice
  all_goals refine P_ func116 56 fun _ _ _ _=>?_
  all_goals (repeat' first|first|refine A.s T ?_|refine A.r T T ?_|refine A.w T T ?_|refine A.p T ?_|refine A.b T fun bx=>?_|refine A.t T fun bl=>?_|refine A.c T hfc .refl ?_|refine A.c T hft .refl ?_|refine A.c T p3 .refl ?_|((fail_if_success (refine A.lit? T ?_));refine A.gS T (fun hc=>?_) (fun hc=>?_))|((fail_if_success (refine A.cv? T ?_));refine A.gm T (fun hc=>?_) (fun hc=>?_)))
  (all_goals (refine R_ ?_;refine Sb.eq (aA ?_)))
  all_goals simp_all [GD.kind]
 rw [iF k4,Bool.and_false];clear hft hin p1 p2 p3;refine P_ func116 56 fun _ _ _ _=>?_;(repeat' first|first|refine A.s T ?_|refine A.r T T ?_|refine A.w T T ?_|refine A.p T ?_|refine A.b T fun bx=>?_|refine A.t T fun bl=>?_|refine A.c T hfc .refl ?_|refine A.cond T (fun h=>(by simp [GD.kind] at h;omega)) (fun _=>?_)|((fail_if_success (refine A.lit? T ?_));refine A.gS T (fun hc=>?_) (fun hc=>?_))|((fail_if_success (refine A.cv? T ?_));refine A.gm T (fun hc=>?_) (fun hc=>?_)))
 (all_goals (refine R_ ?_;refine Sb.eq (aA ?_)))
 all_goals rfl
section
variable(l:List KV)(ch:List Int)
variable(hl:l.length<=281474976710656)(hv:mD l)
def i6(f:FuncId)(p:PR):Prop:= ∀(x:Nat->AV) (lf:Int),Pure prog a9 f [EW l ch x lf,aB p] (AB (aS l ch.length p))
theorem VS(p:PR)(hk:p.kind=1\/p.kind=2):i6 l ch 90 p:=fun x lf=>by
 have hs:=jB p false false 0 0 0 0 0 0 0 0;have he:aS l ch.length p=aN p false false 0 0 0 0 0 0 0 0:=by rw [aS,iT hk]
 rw [he];refine P_ func90 11 fun _ _ _ _=>?_
 (refine b_ fun bx=>?_;refine y_ ?_);exact lR hs
theorem seq_p(p:PR)(hk:p.kind=9):i6 l ch 97 p:=fun x lf=>by
 have hs:=jB p false false 0 0 0 0 0 0 0 2048;have he:aS l ch.length p=aN p false false 0 0 0 0 0 0 0 2048:=by simp [aS,hk]
 rw [he];refine P_ func97 11 fun _ _ _ _=>?_
 (refine b_ fun bx=>?_;refine y_ ?_);exact lR hs
theorem par_p(p:PR)(hk:p.kind=10):i6 l ch 98 p:=fun x lf=>by
 have hs:=jB p false false 0 0 0 0 0 0 0 16;have he:aS l ch.length p=aN p false false 0 0 0 0 0 0 0 16:=by simp [aS,hk]
 rw [he];refine P_ func98 11 fun _ _ _ _=>?_
 (refine b_ fun bx=>?_;refine y_ ?_);exact lR hs
theorem pri_p(p:PR)(hk:p.kind=11):i6 l ch 99 p:=fun x lf=>by
 have hs:=jB p false false 0 0 0 0 0 0 2 2;have he:aS l ch.length p=aN p false false 0 0 0 0 0 0 2 2:=by simp [aS,hk]
 rw [he];refine P_ func99 11 fun _ _ _ _=>?_
 (refine b_ fun bx=>?_;refine y_ ?_);exact lR hs
theorem clear_p(p:PR)(hk:p.kind=3):i6 l ch 91 p:=fun x lf=>by
 have hs:=jB p false true 0 0 0 0 0 0 0 0;have hlen:((l.map rF).length:Int)=l.length:=by rw [aa0]
 have he:aS l ch.length p=(aN p false true 0 0 0 0 0 0 0 0&&decide (0<=p.v)&&decide (p.v<((l.map rF).length:Int))):=by rw [hlen];simp [aS,hk]
 rw [he];generalize aN p false true 0 0 0 0 0 0 0 0=b at hs⊢;refine P_ func91 27 fun _ _ _ _=>?_
 (refine b_ fun bx=>?_;refine y_ ?_)
 refine d_ 20 [0,1,2,3,4,5,6,7,8,9,10,11,12,13,14,15,16,17,18,19] [(5,AB b)] ?_;refine lS hs ?_;refine WA.gS T (fun hc=>?_) (fun hc=>?_)
 ·refine w_ ?_;refine WA.gS T (fun hd=>?_) (fun hd=>?_)
  ·refine w_ ?_;refine z_ ?_;refine R_ ?_;refine Sb.eq (aA ?_);have hd:decide (0<=p.v)=true:=hd;rw [hc,hd];rfl
  ·refine w_ ?_;refine z_ ?_;refine R_ ?_;refine Sb.eq (aA ?_);have hd:decide (0<=p.v)=false:=hd;rw [hc,hd];rfl
 ·refine w_ ?_;refine z_ ?_;refine R_ ?_;refine Sb.eq (aA ?_);rw [hc];rfl
theorem rng11{n:Nat}(h:inB n 1 1=true):n=1:=by simp only [inB,aa1,dT] at h;omega
theorem NQ{p:PR}{c v:Bool}{e1 e2 g1 g2 l1 l2:Int}(h:aN p c v 1 1 e1 e2 g1 g2 l1 l2=true): ∃t,p.to=[t]:=by
 simp only [aN,aa1] at h;have:=rng11 h.1.1.1.2
 match hh:p.to,this with
 | [t],_=>exact ⟨t,rfl⟩
theorem JW{p:PR}{c v:Bool}{t1 t2 g1 g2 l1 l2:Int}(h:aN p c v t1 t2 1 1 g1 g2 l1 l2=true): ∃t,p.e=[t]:=by
 simp only [aN,aa1] at h;have:=rng11 h.1.1.2
 match hh:p.e,this with
 | [t],_=>exact ⟨t,rfl⟩
include hl hv
theorem in16_p(p:PR)(hw:WfR p)(hk:p.kind=5):i6 l ch 93 p:=fun x lf=>by
 have hs:=jB p true false 1 1 0 0 0 0 0 0;have he:aS l ch.length p=(aN p true false 1 1 0 0 0 0 0 0&&to1 (gD l ch.length p.c p.item) p.to):=by simp [aS,hk]
 rw [he];cases hb:aN p true false 1 1 0 0 0 0 0 0 with
 |false=>
  rw [hb] at hs;refine P_ func93 23 fun _ _ _ _=>?_
  (refine b_ fun bx=>?_;refine y_ ?_)
  refine d_ 16 [0,1,2,3,4,5,6,7,8,9,10,11,12,13,14,15] [(5,AB false)] ?_;refine lS hs ?_;refine z_ ?_;exact r_
 |true=>
  rw [hb] at hs;obtain ⟨t,ht⟩:=NQ hb;have hin:=SQ l ch x lf hl hv p.c p.item t (hw.to t (by rw [ht];exact aa4 ..));have h1:to1 (gD l ch.length p.c p.item) p.to=gD l ch.length p.c p.item t:=by rw [ht];rfl
  rw [h1];refine P_ func93 23 fun _ _ _ _=>?_
  (refine b_ fun bx=>?_;refine y_ ?_)
  refine d_ 16 [0,1,2,3,4,5,6,7,8,9,10,11,12,13,14,15] [(5,AB true)] ?_;refine lS hs ?_;refine rM T (show (p.to.map dU)[(0:Int).toNat]? =some (dU t) from aR (by rw [ht];rfl)) T ?_;refine WA.nil (l:=[]) T ?_;exact lR hin
omit hl hv in
theorem out_a(p:PR)(x:Nat->AV)(lf:Int)(hs:Pure prog a9 109 [aB p,AB true,AB false,kI 0 0,kI 1 1,kI 0 0,kI 0 0] (AB false)):Pure prog a9 94 [EW l ch x lf,aB p] (AB false):=by
 refine P_ func94 29 fun _ _ _ _=>?_
 (refine b_ fun bx=>?_;refine y_ ?_)
 refine d_ 22 [0,1,2,3,4,5,6,7,8,9,10,11,12,13,14,15,16,17,18,19,20,21] [(5,AB false),(12,AB false)] ?_;refine lS hs ?_;refine z_ ?_;exact r_
omit hl hv in
theorem out_b(p:PR)(x:Nat->AV)(lf:Int)(hs:Pure prog a9 109 [aB p,AB true,AB false,kI 0 0,kI 1 1,kI 0 0,kI 0 0] (AB true))(hch:Pure prog a9 113 [EW l ch x lf,AI p.c,aU p.item,AI 0] (AB false)):
 Pure prog a9 94 [EW l ch x lf,aB p] (AB false):=by
 refine P_ func94 29 fun _ _ _ _=>?_
 (refine b_ fun bx=>?_;refine y_ ?_)
 refine d_ 22 [0,1,2,3,4,5,6,7,8,9,10,11,12,13,14,15,16,17,18,19,20,21] [(5,AB true),(12,AB false)] ?_;refine lS hs ?_;refine lS hch ?_;refine z_ ?_;exact r_
omit hl hv in
theorem out_c(p:PR)(x:Nat->AV)(lf:Int)(e:KE)(bf:Bool)(he:(bB p.e)[(0:Int).toNat]? =some (eE e))(hs:Pure prog a9 109 [aB p,AB true,AB false,kI 0 0,kI 1 1,kI 0 0,kI 0 0] (AB true))(hch:Pure prog a9 113 [EW l ch x lf,AI p.c,aU p.item,AI 0] (AB true))
 (hf:Pure prog a9 111 [EW l ch x lf,eB e,aU p.item] (AB bf)):Pure prog a9 94 [EW l ch x lf,aB p] (AB bf):=by
 refine P_ func94 29 fun _ _ _ _=>?_
 (refine b_ fun bx=>?_;refine y_ ?_)
 refine d_ 22 [0,1,2,3,4,5,6,7,8,9,10,11,12,13,14,15,16,17,18,19,20,21] [(5,AB true),(12,AB true)] ?_;refine lS hs ?_;refine lS hch ?_;refine rM T he (aJ e) ?_;refine WA.nil (l:=[]) T ?_;exact lR hf
theorem out16_p(p:PR)(hw:WfR p)(hk:p.kind=6):i6 l ch 94 p:=fun x lf=>by
 have hs:=jB p true false 0 0 1 1 0 0 0 0;have he:aS l ch.length p=(aN p true false 0 0 1 1 0 0 0 0&&jW ch.length p.c p.item 0&&oS l p.e p.item):=by simp [aS,hk]
 rw [he];cases hb:aN p true false 0 0 1 1 0 0 0 0 with
 |false=>rw [hb] at hs;exact out_a l ch p x lf hs |true=>
 rw [hb] at hs;obtain ⟨e,ht⟩:=JW hb;have hch:=XW l ch x lf p.c p.item 0;have h1:oS l p.e p.item=kM l e p.item:=by rw [ht];rfl
 rw [h1];cases hc:jW ch.length p.c p.item 0 with
 |false=>rw [hc] at hch;exact out_b l ch p x lf hs hch |true=>
  rw [hc] at hch;have hpi:1<=p.item/\p.item<=3:=by simp only [jW,nI,aa1,dT] at hc;omega
  have hf:=yX l ch x lf hl hv e (hw.e e (by rw [ht];exact aa4 ..)) p.item hpi;rw [Bool.and_self,ab3];exact out_c l ch p x lf e _ (fW (by rw [ht];rfl)) hs hch hf
theorem time16_p(p:PR)(hw:WfR p)(hk:p.kind=7):i6 l ch 95 p:=fun x lf=>by
 have hs:=jB p false false 1 1 0 0 0 0 0 0;have he:aS l ch.length p=(aN p false false 1 1 0 0 0 0 0 0&&to1 (fun t=>dR l t 1) p.to):=by simp [aS,hk]
 rw [he];cases hb:aN p false false 1 1 0 0 0 0 0 0 with
 |false=>
  rw [hb] at hs;refine P_ func95 19 fun _ _ _ _=>?_
  (refine b_ fun bx=>?_;refine y_ ?_);exact lR hs
 |true=>
  rw [hb] at hs;obtain ⟨t,ht⟩:=NQ hb;have hin:=JM l ch x lf hl hv t (hw.to t (by rw [ht];exact aa4 ..)) 1;have h1:to1 (fun t=>dR l t 1) p.to=dR l t 1:=by rw [ht];rfl
  rw [h1];refine P_ func95 19 fun _ _ _ _=>?_
  (refine b_ fun bx=>?_;refine y_ ?_);refine c_ hs ?_
  refine i_ T (show (p.to.map dU)[(0:Int).toNat]? =some (dU t) from aR (by rw [ht];rfl)) T ?_;exact lR hin
theorem UG(p:PR)(hw:WfR p)(hk:p.kind=8):i6 l ch 96 p:=fun x lf=>by
 have hs:=jB p false false 0 0 1 1 0 0 0 0;have he:aS l ch.length p=(aN p false false 0 0 1 1 0 0 0 0&&oS l p.e 1):=by simp [aS,hk]
 rw [he];cases hb:aN p false false 0 0 1 1 0 0 0 0 with
 |false=>
  rw [hb] at hs;refine P_ func96 19 fun _ _ _ _=>?_
  (refine b_ fun bx=>?_;refine y_ ?_);exact lR hs
 |true=>
  rw [hb] at hs;obtain ⟨e,ht⟩:=JW hb;have hin:=yX l ch x lf hl hv e (hw.e e (by rw [ht];exact aa4 ..)) 1 (by decide);have h1:oS l p.e 1=kM l e 1:=by rw [ht];rfl
  rw [h1];refine P_ func96 19 fun _ _ _ _=>?_
  (refine b_ fun bx=>?_;refine y_ ?_);refine c_ hs ?_
  refine i_ T (show (bB p.e)[(0:Int).toNat]? =some (eE e) from fW (by rw [ht];rfl)) (aJ e) ?_;exact lR hin
theorem Z0(p:PR)(hw:WfR p)(hk:p.kind=13):i6 l ch 101 p:=fun x lf=>by
 have hs:=jB p false false 0 0 1 1 0 0 1 1;have he:aS l ch.length p=(aN p false false 0 0 1 1 0 0 1 1&&oS l p.e 3):=by simp [aS,hk]
 rw [he];cases hb:aN p false false 0 0 1 1 0 0 1 1 with
 |false=>
  rw [hb] at hs;refine P_ func101 19 fun _ _ _ _=>?_
  (refine b_ fun bx=>?_;refine y_ ?_);exact lR hs
 |true=>
  rw [hb] at hs;obtain ⟨e,ht⟩:=JW hb;have hin:=yX l ch x lf hl hv e (hw.e e (by rw [ht];exact aa4 ..)) 3 (by decide);have h1:oS l p.e 3=kM l e 3:=by rw [ht];rfl
  rw [h1];refine P_ func101 19 fun _ _ _ _=>?_
  (refine b_ fun bx=>?_;refine y_ ?_);refine c_ hs ?_
  refine i_ T (show (bB p.e)[(0:Int).toNat]? =some (eE e) from fW (by rw [ht];rfl)) (aJ e) ?_;exact lR hin
theorem UR(x:Nat->AV)(lf:Int)(p:PR)(g:GD)(hw:WfG g):Pure prog a9 115 [aZ g, .pe 1 (EW l ch x lf), .pe 8 (aB p)] (AB (!cH l ch.length g (p.kind==12))):=by
 have hg:=guard_p l ch x lf hl hv g hw (p.kind==12);refine P_ func115 12 fun _ _ _ _=>?_
 (refine b_ fun bx=>?_;refine y_ ?_);exact lR hg
theorem PA(p:PR)(hw:WfR p)(hk:p.kind=12\/p.kind=14\/p.kind=15):i6 l ch 100 p:=fun x lf=>by
 have hs:=jB p false false 0 0 0 0 0 16 0 0;have he:aS l ch.length p=(aN p false false 0 0 0 0 0 16 0 0&& !p.gs.any fun g=> !cH l ch.length g (p.kind==12)):=by rw [List.not_any_eq_all_not];rcases hk with hk|hk|hk<;>simp [aS,hk]
 rw [he];have hg:=hasG_p 115 [.pe 1 (EW l ch x lf), .pe 8 (aB p)] (fun g=> !cH l ch.length g (p.kind==12)) p.gs (fun g hgm=>UR l ch hl hv x lf p g (BZ (hw.g g hgm))) hw.gl;cases hb:aN p false false 0 0 0 0 0 16 0 0 with
 |false=>
  rw [hb] at hs;refine P_ func100 17 fun _ _ _ _=>?_
  (refine b_ fun bx=>?_;refine b_ fun bx=>?_;refine y_ ?_);exact lR hs
 |true=>
  rw [hb] at hs;refine P_ func100 17 fun _ _ _ _=>?_
  (refine b_ fun bx=>?_;refine b_ fun bx=>?_;refine y_ ?_);refine n_ hs ?_
  refine A.freeze 2 (sz:=1) T T T ?_;refine A.freeze 3 (sz:=8) T T T ?_;refine y_ ?_;exact lR hg
end
end Go.Proofs.YtkbolbpojpmicaaGreatDoor
