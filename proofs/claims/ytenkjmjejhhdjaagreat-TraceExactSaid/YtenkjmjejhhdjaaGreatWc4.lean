/-
  Texts TpT Q0 Q16a Q14a Q14b Q14c Q14d Q14v Q17a Q17e Q17f Q0i Q17g Q17b Q16b Q16c Q16d. Conditions: as each theorem says.
-/
import Derived.Test.YtenkjmjejhhdjaaGreatWc1
import Derived.Test.YtenkjmjejhhdjaaGreatChecked
import Derived.Test.YtenkjmjejhhdjaaGreatWc3
import Derived.Test.YtenkjmjejhhdjaaGreatWc2
set_option linter.unusedVariables false
set_option linter.unusedSimpArgs false
set_option maxRecDepth 100000
set_option maxHeartbeats 4000000
open Go.Proofs.Tryz
open List renaming length_map→aa0,length_append→aa1,mem_of_getElem?→aa2,getElem?_eq_getElem→aa7,getElem?_eq_some_iff→aa8,getElem?_map→ab5,mem_cons→ab6,take_length→ac4,take_add_one→ac9,cons_append→ad4,length_replicate→ag6,drop_length→ai3,perm_append_comm→ai8,map_set→an0
open Bool renaming and_eq_true→aa3,true_and→ac2,eq_iff_iff→ac8,and_true→am1,not_false→aq9,not_not→au8
open Nat renaming zero_le→aa4,le_refl→ab3,le_trans→ae9,min_eq_left→ah6,sub_self→ak3,testBit_eq_decide_div_mod_eq→an5
open Exists renaming elim→ab4
open Int renaming toNat_natCast→ac7,fdiv_eq_ediv_of_nonneg→ah8,pow_pos→ao3,tmod_eq_emod_of_nonneg→ap7,le_of_lt→aq4,natAbs_eq→au6,pow_succ→au9
open Go.IntKind renaming bits→ak8,wrap→aq5,signed→ar0
open Prod renaming snd→al4
namespace Go.Proofs.YtenkjmjejhhdjaaGreat
open Go Go.Tp
abbrev fE:Value:= .slice none 0 0
abbrev oG:Value:= .int .u8 0
abbrev fV:Value:= .int .i64 0
abbrev dS(n:String)(t o:Nat)(p:String)(b:Nat):Field:=⟨n,t,o,false, "",p,b⟩
abbrev dB(a b:Array Nat):TI:=⟨.func a b false,1,8,[.nilFunc],false⟩
theorem tk_{P:Program}{t:Nat}{d:TypeDesc}{sz bt:Nat}{zs:List Value}{ag:Bool}(hu:P.underlying t=some d:=by kernel_rfl)(hi:(P.info? t).map (fun i=>(i.zero.map fun z=>z.cells.toList,i.size,i.bytes))=some (some zs,sz,bt):=by kernel_rfl)(ha:MV d=ag:=by exact rfl)(hl:Nat.beq zs.length sz=true:=by exact rfl):TI.Ok P t ⟨d,sz,bt,zs,ag⟩:=TI.jm hu hi ha hl
def ty2:TI:=⟨(.int IntKind.i64),1,8,[fV],false⟩
def ty3:TI:=⟨(.int IntKind.i64),1,8,[fV],false⟩
def ty4:TI:=⟨TypeDesc.bool,1,1,[(Value.bool false)],false⟩
def ty5:TI:=⟨(.int IntKind.u8),1,1,[oG],false⟩
def ty9:TI:=⟨TypeDesc.string,1,16,[(Value.string {data:= #[]})],false⟩
def ty12:TI:=⟨(.int IntKind.u64),1,8,[(Value.int IntKind.u64 0)],false⟩
def ty13:TI:=⟨(.struct #[dS "msg" 9 0 "runtime" 0,dS "addr" 12 1 "runtime" 16]),2,24,[(Value.string {data:= #[]}),(Value.int IntKind.u64 0)],true⟩
def ty20:TI:=⟨(.interface #[]),1,16,[Value.nilIface],false⟩
def ty21:TI:=⟨(.int IntKind.i32),1,4,[(Value.int IntKind.i32 0)],false⟩
def ty22:TI:=⟨(.slice 86),1,24,[fE],false⟩
def ty23:TI:=⟨(.slice 87),1,24,[fE],false⟩
def ty24:TI:=⟨(.int IntKind.u8),1,1,[oG],false⟩
def ty25:TI:=⟨(.int IntKind.u8),1,1,[oG],false⟩
def ty26:TI:=⟨(.slice 82),1,24,[fE],false⟩
def ty27:TI:=⟨(.slice 80),1,24,[fE],false⟩
def ty28:TI:=⟨(.slice 84),1,24,[fE],false⟩
def ty29:TI:=⟨(.slice 31),1,24,[fE],false⟩
def ty30:TI:=⟨(.struct #[dS "Kind" 24 0 "" 0,dS "C" 3 1 "" 8,dS "V" 3 2 "" 16,dS "Item" 25 3 "" 24,dS "To" 26 4 "" 32,dS "E" 27 5 "" 56,dS "Guards" 28 6 "" 80,dS "L" 29 7 "" 104]),8,128,[oG,fV,fV,oG,fE,fE,fE,fE],true⟩
def ty31:TI:=⟨(.struct #[dS "Kind" 24 0 "" 0,dS "C" 3 1 "" 8,dS "V" 3 2 "" 16,dS "Item" 25 3 "" 24,dS "To" 26 4 "" 32,dS "E" 27 5 "" 56,dS "Guards" 28 6 "" 80,dS "L" 29 7 "" 104]),8,128,[oG,fV,fV,oG,fE,fE,fE,fE],true⟩
def ty32:TI:=⟨(.slice 3),1,24,[fE],false⟩
def ty33:TI:=⟨(.struct #[dS "Vars" 22 0 "" 0,dS "Chans" 23 1 "" 24,dS "Root" 31 2 "" 48,dS "Procs" 32 10 "" 176]),11,200,[fE,fE,oG,fV,fV,oG,fE,fE,fE,fE,fE],true⟩
def ty34:TI:=⟨(.struct #[dS "Vars" 22 0 "" 0,dS "Chans" 23 1 "" 24,dS "Root" 31 2 "" 48,dS "Procs" 32 10 "" 176]),11,200,[fE,fE,oG,fV,fV,oG,fE,fE,fE,fE,fE],true⟩
def ty35:TI:=⟨(.slice 54),1,24,[fE],false⟩
def ty38:TI:=⟨(.int IntKind.i64),1,8,[fV],false⟩
def ty43:TI:=⟨(.slice 55),1,24,[fE],false⟩
def ty53:TI:=⟨(.struct #[dS "C" 3 0 "" 0,dS "V" 21 1 "" 8]),2,16,[fV,(Value.int IntKind.i32 0)],true⟩
def ty54:TI:=⟨(.struct #[dS "C" 3 0 "" 0,dS "V" 21 1 "" 8]),2,16,[fV,(Value.int IntKind.i32 0)],true⟩
def ty55:TI:=⟨(.slice 56),1,24,[fE],false⟩
def ty56:TI:=⟨(.slice 21),1,24,[fE],false⟩
def ty57:TI:=⟨(.slice 68),1,24,[fE],false⟩
def ty58:TI:=⟨(.map 9 3),1,8,[(Value.map none)],false⟩
def ty59:TI:=⟨(.struct #[dS "reach" 3 0 "transputer/trace" 0,dS "ends" 57 1 "transputer/trace" 8,dS "keys" 58 2 "transputer/trace" 32,dS "missing" 4 3 "transputer/trace" 40]),4,48,[fV,fE,(Value.map none),(Value.bool false)],true⟩
def YX:TI:=⟨(.struct #[dS "reach" 3 0 "transputer/trace" 0,dS "ends" 57 1 "transputer/trace" 8,dS "keys" 58 2 "transputer/trace" 32,dS "missing" 4 3 "transputer/trace" 40]),4,48,[fV,fE,(Value.map none),(Value.bool false)],true⟩
def ty63:TI:=⟨(.slice 73),1,24,[fE],false⟩
def ty64:TI:=⟨(.struct #[dS "Reach" 3 0 "" 0,dS "Ends" 63 1 "" 8,dS "Missing" 4 2 "" 32]),3,40,[fV,fE,(Value.bool false)],true⟩
def ty65:TI:=⟨(.struct #[dS "Reach" 3 0 "" 0,dS "Ends" 63 1 "" 8,dS "Missing" 4 2 "" 32]),3,40,[fV,fE,(Value.bool false)],true⟩
def ty67:TI:=⟨(.struct #[dS "n" 3 0 "transputer/trace" 0,dS "s" 55 1 "transputer/trace" 8]),2,32,[fV,fE],true⟩
def ty68:TI:=⟨(.struct #[dS "n" 3 0 "transputer/trace" 0,dS "s" 55 1 "transputer/trace" 8]),2,32,[fV,fE],true⟩
def ty72:TI:=⟨(.struct #[dS "N" 3 0 "" 0,dS "S" 55 1 "" 8]),2,32,[fV,fE],true⟩
def ty73:TI:=⟨(.struct #[dS "N" 3 0 "" 0,dS "S" 55 1 "" 8]),2,32,[fV,fE],true⟩
def ty76:TI:=⟨(.int IntKind.u8),1,1,[oG],false⟩
def ty77:TI:=⟨(.int IntKind.u8),1,1,[oG],false⟩
def ty78:TI:=⟨(.int IntKind.u8),1,1,[oG],false⟩
def ty79:TI:=⟨(.struct #[dS "Kind" 77 0 "" 0,dS "Oper" 78 1 "" 1,dS "To" 25 2 "" 2,dS "N" 21 3 "" 4,dS "V" 3 4 "" 8,dS "L" 27 5 "" 16]),6,40,[oG,oG,oG,(Value.int IntKind.i32 0),fV,fE],true⟩
def ty80:TI:=⟨(.struct #[dS "Kind" 77 0 "" 0,dS "Oper" 78 1 "" 1,dS "To" 25 2 "" 2,dS "N" 21 3 "" 4,dS "V" 3 4 "" 8,dS "L" 27 5 "" 16]),6,40,[oG,oG,oG,(Value.int IntKind.i32 0),fV,fE],true⟩
def ty81:TI:=⟨(.struct #[dS "V" 3 0 "" 0,dS "Index" 27 1 "" 8]),2,32,[fV,fE],true⟩
def ty82:TI:=⟨(.struct #[dS "V" 3 0 "" 0,dS "Index" 27 1 "" 8]),2,32,[fV,fE],true⟩
def ty83:TI:=⟨(.struct #[dS "Kind" 76 0 "" 0,dS "Cond" 80 1 "" 8,dS "C" 3 7 "" 48,dS "Item" 25 8 "" 56,dS "To" 82 9 "" 64,dS "Time" 80 11 "" 96,dS "Body" 29 17 "" 136]),18,160,[oG,oG,oG,oG,(Value.int IntKind.i32 0),fV,fE,fV,oG,fV,fE,oG,oG,oG,(Value.int IntKind.i32 0),fV,fE,fE],true⟩
def ty84:TI:=⟨(.struct #[dS "Kind" 76 0 "" 0,dS "Cond" 80 1 "" 8,dS "C" 3 7 "" 48,dS "Item" 25 8 "" 56,dS "To" 82 9 "" 64,dS "Time" 80 11 "" 96,dS "Body" 29 17 "" 136]),18,160,[oG,oG,oG,oG,(Value.int IntKind.i32 0),fV,fE,fV,oG,fV,fE,oG,oG,oG,(Value.int IntKind.i32 0),fV,fE,fE],true⟩
def ty85:TI:=⟨(.struct #[dS "Kind" 25 0 "" 0,dS "Dim" 3 1 "" 8]),2,16,[oG,fV],true⟩
def ty86:TI:=⟨(.struct #[dS "Kind" 25 0 "" 0,dS "Dim" 3 1 "" 8]),2,16,[oG,fV],true⟩
def ty87:TI:=⟨(.int IntKind.u8),1,1,[oG],false⟩
def ty89:TI:=⟨(.struct #[dS "t" 35 0 "transputer/trace" 0,dS "open" 32 1 "transputer/trace" 24,dS "fuel" 3 2 "transputer/trace" 48]),3,56,[fE,fE,fV],true⟩
def ty90:TI:=⟨(.struct #[dS "t" 35 0 "transputer/trace" 0,dS "open" 32 1 "transputer/trace" 24,dS "fuel" 3 2 "transputer/trace" 48]),3,56,[fE,fE,fV],true⟩
def ty99:TI:=⟨(.int IntKind.u64),1,8,[(Value.int IntKind.u64 0)],false⟩
def ty103:TI:=⟨(.pointer 105),1,8,[(Value.pointer none)],false⟩
def ty104:TI:=⟨(.struct #[{name:= "Kernel",type:=34,offset:=0,embedded:=true,tag:= "",pkgPath:= "",byteOffset:=0},dS "left" 3 11 "transputer/kernel" 200]),12,208,[fE,fE,oG,fV,fV,oG,fE,fE,fE,fE,fE,fV],true⟩
def ty105:TI:=⟨(.struct #[{name:= "Kernel",type:=34,offset:=0,embedded:=true,tag:= "",pkgPath:= "",byteOffset:=0},dS "left" 3 11 "transputer/kernel" 200]),12,208,[fE,fE,oG,fV,fV,oG,fE,fE,fE,fE,fE,fV],true⟩
def ty127:TI:=⟨(.int IntKind.i64),1,8,[fV],false⟩
def ty135:TI:=⟨(.int IntKind.u32),1,4,[(Value.int IntKind.u32 0)],false⟩
def ty137:TI:=⟨(.int IntKind.u64),1,8,[(Value.int IntKind.u64 0)],false⟩
def ty140:TI:=⟨(.struct #[dS "k" 34 0 "transputer/transputerref16" 0,dS "deep" 3 11 "transputer/transputerref16" 200,dS "high" 4 12 "transputer/transputerref16" 208]),13,216,[fE,fE,oG,fV,fV,oG,fE,fE,fE,fE,fE,fV,(Value.bool false)],true⟩
def ty141:TI:=⟨(.struct #[dS "k" 34 0 "transputer/transputerref16" 0,dS "deep" 3 11 "transputer/transputerref16" 200,dS "high" 4 12 "transputer/transputerref16" 208]),13,216,[fE,fE,oG,fV,fV,oG,fE,fE,fE,fE,fE,fV,(Value.bool false)],true⟩
def ty148:TI:=⟨(.pointer 60),1,8,[(Value.pointer none)],false⟩
def ty152:TI:=⟨(.slice 32),1,24,[fE],false⟩
def ty154:TI:=⟨(.slice 158),1,24,[fE],false⟩
def ty156:TI:=⟨(.map 3 43),1,8,[(Value.map none)],false⟩
def ty157:TI:=⟨(.struct #[dS "chans" 32 0 "transputer/trace" 0,dS "at" 156 1 "transputer/trace" 24,dS "reach" 3 2 "transputer/trace" 32,dS "n" 3 3 "transputer/trace" 40]),4,48,[fE,(Value.map none),fV,fV],true⟩
def YW:TI:=⟨(.struct #[dS "chans" 32 0 "transputer/trace" 0,dS "at" 156 1 "transputer/trace" 24,dS "reach" 3 2 "transputer/trace" 32,dS "n" 3 3 "transputer/trace" 40]),4,48,[fE,(Value.map none),fV,fV],true⟩
def ty164:TI:=⟨(.slice 166),1,24,[fE],false⟩
def ty165:TI:=⟨(.struct #[dS "Chans" 32 0 "" 0,dS "R" 65 1 "" 24]),4,64,[fE,fV,fE,(Value.bool false)],true⟩
def ty166:TI:=⟨(.struct #[dS "Chans" 32 0 "" 0,dS "R" 65 1 "" 24]),4,64,[fE,fV,fE,(Value.bool false)],true⟩
def ty167:TI:=⟨(.slice 43),1,24,[fE],false⟩
def ty171:TI:=⟨(.int IntKind.u64),1,8,[(Value.int IntKind.u64 0)],false⟩
def ty175:TI:=⟨(.pointer 3),1,8,[(Value.pointer none)],false⟩
def ty179:TI:=⟨(.map 24 88),1,8,[(Value.map none)],false⟩
def ty195:TI:=⟨(.pointer 171),1,8,[(Value.pointer none)],false⟩
def ty198:TI:=⟨(.array 2 3),2,16,[fV,fV],true⟩
def ty199:TI:=⟨(.struct #[dS "c" 4 0 "transputer/transputerref16" 0,dS "v" 4 1 "transputer/transputerref16" 1,dS "item" 4 2 "transputer/transputerref16" 2,dS "to" 198 3 "transputer/transputerref16" 8,dS "e" 198 5 "transputer/transputerref16" 24,dS "guards" 198 7 "transputer/transputerref16" 40,dS "seq" 198 9 "transputer/transputerref16" 56]),11,72,[(Value.bool false),(Value.bool false),(Value.bool false),fV,fV,fV,fV,fV,fV,fV,fV],true⟩
def ty200:TI:=⟨(.struct #[dS "c" 4 0 "transputer/transputerref16" 0,dS "v" 4 1 "transputer/transputerref16" 1,dS "item" 4 2 "transputer/transputerref16" 2,dS "to" 198 3 "transputer/transputerref16" 8,dS "e" 198 5 "transputer/transputerref16" 24,dS "guards" 198 7 "transputer/transputerref16" 40,dS "seq" 198 9 "transputer/transputerref16" 56]),11,72,[(Value.bool false),(Value.bool false),(Value.bool false),fV,fV,fV,fV,fV,fV,fV,fV],true⟩
def ty217:TI:=⟨(.slice 5),1,24,[fE],false⟩
def ty227:TI:=⟨(.int IntKind.u64),1,8,[(Value.int IntKind.u64 0)],false⟩
def ty243:TI:=⟨(.slice 227),1,24,[fE],false⟩
def ty244:TI:=⟨(.func #[252] #[227] true),1,8,[Value.nilFunc],false⟩
def ty252:TI:=⟨(.slice 25),1,24,[fE],false⟩
def ty263:TI:=⟨(.pointer 5),1,8,[(Value.pointer none)],false⟩
def tt:TT:=(.node 133 (dB #[43,3,3,3,71] #[3,4]) (.node 72 ty72 (.node 41 ⟨(.tuple #[4,3]),1,0,[(Value.tuple #[(Value.bool false),fV])],false⟩ (.node 26 ty26 (.node 12 ty12 (.node 3 ty3 (.node 1 (dB #[] #[]) (.node 0 ⟨(.tuple #[]),1,0,[(Value.tuple #[])],false⟩ .leaf .leaf) (.node 2 ty2 .leaf .leaf)) (.node 5 ty5 (.node 4 ty4 .leaf .leaf) (.node 9 ty9 .leaf .leaf))) (.node 22 ty22 (.node 20 ty20 (.node 13 ty13 .leaf .leaf) (.node 21 ty21 .leaf .leaf)) (.node 24 ty24 (.node 23 ty23 .leaf .leaf) (.node 25 ty25 .leaf .leaf)))) (.node 34 ty34 (.node 30 ty30 (.node 28 ty28 (.node 27 ty27 .leaf .leaf) (.node 29 ty29 .leaf .leaf)) (.node 32 ty32 (.node 31 ty31 .leaf .leaf) (.node 33 ty33 .leaf .leaf))) (.node 38 ty38 (.node 36 (dB #[34,35,3] #[4]) (.node 35 ty35 .leaf .leaf) (.node 37 (dB #[] #[4]) .leaf .leaf)) (.node 40 (dB #[34,35,3] #[4,38]) (.node 39 ⟨(.tuple #[4,38]),1,0,[(Value.tuple #[(Value.bool false),fV])],false⟩ .leaf .leaf) .leaf)))) (.node 57 ty57 (.node 49 (dB #[34,35,3] #[3]) (.node 45 (dB #[34,35,3] #[43,38]) (.node 43 ty43 (.node 42 (dB #[34,35,3] #[4,3]) .leaf .leaf) (.node 44 ⟨(.tuple #[43,38]),1,0,[(Value.tuple #[fE,fV])],false⟩ .leaf .leaf)) (.node 47 (dB #[34,35,3] #[43,3]) (.node 46 ⟨(.tuple #[43,3]),1,0,[(Value.tuple #[fE,fV])],false⟩ .leaf .leaf) (.node 48 (dB #[43,43] #[4]) .leaf .leaf))) (.node 53 ty53 (.node 51 (dB #[31,3] #[3]) (.node 50 (dB #[31] #[3]) .leaf .leaf) (.node 52 (dB #[] #[34]) .leaf .leaf)) (.node 55 ty55 (.node 54 ty54 .leaf .leaf) (.node 56 ty56 .leaf .leaf)))) (.node 65 ty65 (.node 61 ⟨(.tuple #[60,38]),1,0,[(Value.tuple #[(Value.agg #[fV,fE,(Value.map none),(Value.bool false)]),fV])],false⟩ (.node 59 ty59 (.node 58 ty58 .leaf .leaf) (.node 60 YX .leaf .leaf)) (.node 63 ty63 (.node 62 (dB #[34,35,3] #[60,38]) .leaf .leaf) (.node 64 ty64 .leaf .leaf))) (.node 69 (dB #[55,3,3,21] #[55]) (.node 67 ty67 (.node 66 (dB #[34,35,3] #[65]) .leaf .leaf) (.node 68 ty68 .leaf .leaf)) (.node 71 (dB #[55,55] #[3]) (.node 70 (dB #[43,71] #[]) .leaf .leaf) .leaf))))) (.node 103 ty103 (.node 88 (dB #[31] #[4]) (.node 80 ty80 (.node 76 ty76 (.node 74 (dB #[55,55] #[4]) (.node 73 ty73 .leaf .leaf) (.node 75 (dB #[34] #[4]) .leaf .leaf)) (.node 78 ty78 (.node 77 ty77 .leaf .leaf) (.node 79 ty79 .leaf .leaf))) (.node 84 ty84 (.node 82 ty82 (.node 81 ty81 .leaf .leaf) (.node 83 ty83 .leaf .leaf)) (.node 86 ty86 (.node 85 ty85 .leaf .leaf) (.node 87 ty87 .leaf .leaf)))) (.node 96 (dB #[55,3,3] #[21,4]) (.node 92 (dB #[34] #[55]) (.node 90 ty90 (.node 89 ty89 .leaf .leaf) (.node 91 (dB #[31,55] #[60]) .leaf .leaf)) (.node 94 (dB #[56] #[56]) (.node 93 (dB #[31,55,35,32,3] #[65]) .leaf .leaf) (.node 95 ⟨(.tuple #[21,4]),1,0,[(Value.tuple #[(Value.int IntKind.i32 0),(Value.bool false)])],false⟩ .leaf .leaf))) (.node 100 (dB #[56,56] #[3]) (.node 98 (dB #[99] #[3]) (.node 97 (dB #[43,3,3,3,71] #[]) .leaf .leaf) (.node 99 ty99 .leaf .leaf)) (.node 102 (dB #[25] #[4]) (.node 101 (dB #[32,3] #[4]) .leaf .leaf) .leaf)))) (.node 118 (dB #[55] #[65]) (.node 111 (dB #[3,60] #[]) (.node 107 (dB #[55] #[60]) (.node 105 ty105 (.node 104 ty104 .leaf .leaf) (.node 106 (dB #[31,3,4] #[4]) .leaf .leaf)) (.node 109 (dB #[31,55] #[55,4]) (.node 108 ⟨(.tuple #[55,4]),1,0,[(Value.tuple #[fE,(Value.bool false)])],false⟩ .leaf .leaf) (.node 110 (dB #[3,25,82,55] #[55,4]) .leaf .leaf))) (.node 115 (dB #[151] #[]) (.node 113 (dB #[29,55] #[60]) (.node 112 (dB #[55,80] #[21,4]) .leaf .leaf) (.node 114 (dB #[151] #[]) .leaf .leaf)) (.node 117 (dB #[22] #[4]) (.node 116 (dB #[31,55] #[115]) .leaf .leaf) .leaf))) (.node 126 (dB #[43,3,3,71] #[]) (.node 122 (dB #[3,65] #[65]) (.node 120 (dB #[31,55] #[65]) (.node 119 (dB #[55,3] #[55]) .leaf .leaf) (.node 121 (dB #[3,25,82,55,35,32] #[55,4]) .leaf .leaf)) (.node 124 (dB #[] #[65]) (.node 123 (dB #[29,55,35,32,3] #[65]) .leaf .leaf) (.node 125 (dB #[86] #[3]) .leaf .leaf))) (.node 130 (dB #[43,3,3,71] #[4]) (.node 128 ⟨(.tuple #[3,127]),1,0,[(Value.tuple #[fV,fV])],false⟩ (.node 127 ty127 .leaf .leaf) (.node 129 (dB #[43,3,3,71] #[3,127]) .leaf .leaf)) (.node 132 ⟨(.tuple #[3,4]),1,0,[(Value.tuple #[fV,(Value.bool false)])],false⟩ (.node 131 (dB #[43,3,3,3,71] #[3]) .leaf .leaf) .leaf)))))) (.node 195 ty195 (.node 164 ty164 (.node 149 (dB #[80] #[4]) (.node 141 ty141 (.node 137 ty137 (.node 135 ty135 (.node 134 (dB #[135] #[3]) .leaf .leaf) (.node 136 (dB #[137] #[3]) .leaf .leaf)) (.node 139 (dB #[141,31,3] #[3]) (.node 138 (dB #[21,21] #[3]) .leaf .leaf) (.node 140 ty140 .leaf .leaf))) (.node 145 ⟨(.tuple #[3,3,4]),1,0,[(Value.tuple #[fV,fV,(Value.bool false)])],false⟩ (.node 143 (dB #[24] #[88]) (.node 142 (dB #[32,3] #[3]) .leaf .leaf) (.node 144 (dB #[68] #[]) .leaf .leaf)) (.node 147 (dB #[25,21] #[4]) (.node 146 (dB #[55,82] #[3,3,4]) .leaf .leaf) (.node 148 ty148 .leaf .leaf)))) (.node 157 ty157 (.node 153 (dB #[31] #[32]) (.node 151 (dB #[3,60] #[4]) (.node 150 (dB #[3] #[90]) .leaf .leaf) (.node 152 ty152 .leaf .leaf)) (.node 155 (dB #[35,32] #[35]) (.node 154 ty154 .leaf .leaf) (.node 156 ty156 .leaf .leaf))) (.node 161 (dB #[22,162] #[4]) (.node 159 (dB #[154,3,55] #[]) (.node 158 YW .leaf .leaf) (.node 160 (dB #[154,3] #[4]) .leaf .leaf)) (.node 163 (dB #[65,65] #[65]) (.node 162 (dB #[86] #[4]) .leaf .leaf) .leaf)))) (.node 180 (dB #[] #[9]) (.node 172 (dB #[3] #[99]) (.node 168 (dB #[164,3,32] #[167]) (.node 166 ty166 (.node 165 ty165 .leaf .leaf) (.node 167 ty167 .leaf .leaf)) (.node 170 (dB #[55,43] #[55]) (.node 169 (dB #[63,73] #[63]) .leaf .leaf) (.node 171 ty171 .leaf .leaf))) (.node 176 (dB #[43,3,3,3,175,71] #[3]) (.node 174 (dB #[43,3,175,71] #[3]) (.node 173 (dB #[] #[137]) .leaf .leaf) (.node 175 ty175 .leaf .leaf)) (.node 178 (dB #[34,31] #[4]) (.node 177 (dB #[21] #[4]) .leaf .leaf) (.node 179 ty179 .leaf .leaf)))) (.node 188 (dB #[3,55] #[]) (.node 184 (dB #[31,185] #[]) (.node 182 (dB #[21,4] #[21,4]) (.node 181 (dB #[80,3] #[4]) .leaf .leaf) (.node 183 (dB #[78,21,21] #[21,4]) .leaf .leaf)) (.node 186 (dB #[32] #[]) (.node 185 (dB #[3] #[]) .leaf .leaf) (.node 187 (dB #[32] #[32]) .leaf .leaf))) (.node 192 (dB #[80,3,3] #[3]) (.node 190 (dB #[22,162] #[3]) (.node 189 (dB #[55,55,55] #[55]) .leaf .leaf) (.node 191 (dB #[55,3,2] #[21,4]) .leaf .leaf)) (.node 194 (dB #[32,3] #[32]) (.node 193 (dB #[25,21] #[21,4]) .leaf .leaf) .leaf))))) (.node 226 (dB #[21,21] #[4]) (.node 211 (dB #[80,25] #[4]) (.node 203 (dB #[3,198] #[4]) (.node 199 ty199 (.node 197 (dB #[43,3,3,175,71] #[3,3]) (.node 196 ⟨(.tuple #[3,3]),1,0,[(Value.tuple #[fV,fV])],false⟩ .leaf .leaf) (.node 198 ty198 .leaf .leaf)) (.node 201 ⟨(.tuple #[200,4]),1,0,[(Value.tuple #[(Value.agg #[(Value.bool false),(Value.bool false),(Value.bool false),fV,fV,fV,fV,fV,fV,fV,fV]),(Value.bool false)])],false⟩ (.node 200 ty200 .leaf .leaf) (.node 202 (dB #[24] #[200,4]) .leaf .leaf))) (.node 207 (dB #[34,3,25,80] #[4]) (.node 205 (dB #[22,80,25] #[4]) (.node 204 (dB #[22,82,25] #[4]) .leaf .leaf) (.node 206 (dB #[34,3,25,82] #[4]) .leaf .leaf)) (.node 209 (dB #[31,4,4,198,198,198,198] #[4]) (.node 208 (dB #[34,24,84] #[4]) .leaf .leaf) (.node 210 (dB #[82,25] #[4]) .leaf .leaf)))) (.node 219 (dB #[78] #[218]) (.node 215 (dB #[84,4] #[4]) (.node 213 (dB #[3,25,3] #[4]) (.node 212 (dB #[3,25,82] #[4]) .leaf .leaf) (.node 214 (dB #[28,216] #[4]) .leaf .leaf)) (.node 217 ty217 (.node 216 (dB #[84] #[4]) .leaf .leaf) (.node 218 (dB #[21,21] #[21]) .leaf .leaf))) (.node 223 (dB #[2] #[21]) (.node 221 (dB #[2] #[21,4]) (.node 220 (dB #[32,3,3,3] #[]) .leaf .leaf) (.node 222 (dB #[21,21] #[21,4]) .leaf .leaf)) (.node 225 (dB #[4] #[21,4]) (.node 224 (dB #[78,21,21] #[21]) .leaf .leaf) .leaf)))) (.node 241 (dB #[78,2,2] #[2]) (.node 234 (dB #[32,3,3] #[3,127]) (.node 230 (dB #[84,4,4] #[4]) (.node 228 (dB #[80] #[227]) (.node 227 ty227 .leaf .leaf) (.node 229 (dB #[28,216] #[3]) .leaf .leaf)) (.node 232 (dB #[4] #[21]) (.node 231 (dB #[78] #[226]) .leaf .leaf) (.node 233 (dB #[32,3,3] #[]) .leaf .leaf))) (.node 238 (dB #[32,3,3,3] #[3,4]) (.node 236 (dB #[3,3] #[4]) (.node 235 (dB #[32,3,3] #[4]) .leaf .leaf) (.node 237 (dB #[32,3,3,3] #[3]) .leaf .leaf)) (.node 240 (dB #[21] #[2]) (.node 239 (dB #[2] #[4]) .leaf .leaf) .leaf))) (.node 249 (dB #[32,3,3,3,175] #[3]) (.node 245 (dB #[4,25] #[227]) (.node 243 ty243 (.node 242 (dB #[27,149] #[4]) .leaf .leaf) (.node 244 ty244 .leaf .leaf)) (.node 247 (dB #[137] #[21,4]) (.node 246 (dB #[21] #[227]) .leaf .leaf) (.node 248 (dB #[32,3,175] #[3]) .leaf .leaf))) (.node 253 (dB #[32,3,3,175] #[3,3]) (.node 251 (dB #[27,149] #[3]) (.node 250 (dB #[3] #[4]) .leaf .leaf) (.node 252 ty252 .leaf .leaf)) (.node 263 ty263 (.node 259 (dB #[] #[3]) .leaf .leaf) .leaf)))))))
theorem dE:tt.Ok prog:=by repeat (first|exact trivial|exact tk_|refine ⟨?_,?_,?_⟩)
theorem P_{gs:Ua}{f:FuncId}{fn:Func}{args:List AV}{x:AV}{c:Code}(hfn:prog.funcs[f]? =some fn)(n:Nat)(hv: ∀w0 h0 F (hgs:mI h0 gs),A ⟨prog,tt,w0,f,fn,n,dE,hfn,h0,F,gs,hgs,fun y Λ'=>Sb y x∧Λ'=[],[],none⟩ [.code c] ⟨uA 0 args,[]⟩ [])(hb:fn.body=some c:=by exact rfl)(hnm:(fn.name== "runtime.NumGoroutine")=false:=by exact rfl)(hn:fn.ntmps=n:=by exact rfl)(hl:Nat.ble (sD args) n=true:=by exact rfl):Pure prog gs f args x:=p_ dE hfn n hv hb hnm hn hl
abbrev aU:Ua:=[]
abbrev aN(n:Int):AV:= .v (.int .i32 n)
abbrev AI(n:Int):AV:= .v (.int .i64 n)
abbrev cC(n:Int):AV:= .v (.int .u8 n)
abbrev AB(b:Bool):AV:= .v (.bool b)
abbrev jT(x:Option Int):AV:= .tp [aN (x.getD 0),AB x.isSome]
theorem Sb.eq{x y:AV}(h:x=y):Sb x y:=by subst h;exact .refl
theorem mV{a b:Int}(h:a=b):aN a=aN b:=by rw [h]
theorem aL{a b:Int}(h:a=b):AI a=AI b:=by rw [h]
theorem aA{a b:Bool}(h:a=b):AB a=AB b:=by rw [h]
theorem gE{a b:Bool}(h:a=true↔b=true):AB a=AB b:=by rw [ac8.2 h]
theorem aC{α β:Type}{f:α->β}{l:List α}{i:Nat}{x:α}(h:l[i]? =some x):(l.map f)[i]? =some (f x):=by rw [ab5,h];rfl
theorem pU{α:Type}{l:List α}{i:Int}(h0:0<=i)(h1:i<l.length): ∃x,l[i.toNat]? =some x:=⟨l[i.toNat]'(by omega),aa7 _⟩
theorem bT{α:Type}{l:List α}{i:Nat}(h1:i<l.length): ∃x,l[i]? =some x:=⟨l[i]'h1,aa7 _⟩
theorem oQ{α:Type}{l:List α}{i:Int}(h1:(l.length:Int)<=i):l[i.toNat]? =none:=List.getElem?_eq_none (by omega)
def kD(n:Int):Int:=IntKind.i32.wrap n
theorem gH(n:Int):IntKind.i32.wrap n=(n+2147483648) % 4294967296-2147483648:=IntKind.wrap_i32 n
theorem wu32_eq(n:Int):IntKind.u32.wrap n=n % 4294967296:=by simp [aq5,ar0,ak8]
theorem Q5(n:Int):IntKind.u64.wrap n=n % 18446744073709551616:=by simp [aq5,ar0,ak8]
theorem ED{n:Int}(h:i32 n):IntKind.i32.wrap n=n:=wr32 n h
theorem mR{n:Int}(h:i64 n):IntKind.i64.wrap n=n:=fR n h
theorem dR{n:Int}(h:i32 n):IntKind.i64.wrap n=n:=fR n (by unfold i32 at h;omega)
theorem pO(n:Int):i32 (IntKind.i32.wrap n):=by unfold i32;rw [gH];omega
theorem qR(i:Nat)(h:i<4611686018427387904):AV.v (.int .i64 (IntKind.i64.wrap ((i:Int)+1)))=AI ((i+1:Nat):Int):=by rw [fR _ (by omega)];rfl
theorem aX{α:Type}{l:List α}{i:Nat}{P:Prop}(h:i<l.length)(k: ∀x,l[i]? =some x→P):P:=k _ (aa7 h)
theorem vI{K:AC}{k:List It}{E:aO}{Λ:List aH}(t i:Nat){x:AV}(n:A K k ⟨(t,AI ((i+1:Nat):Int))::E.us,E.cs⟩ Λ)(hx:cF E.us t=some x:=by exact rfl)(hs:x=AI ((i+1:Nat):Int):=by exact qR _ (by first|omega|(dsimp only;omega))):A K k E Λ:=A.aa t hx hs n
mutual
def dK:KE->AV
 |⟨k,o,t,n,v,l⟩=> .ag [cC k,cC o,cC t,aN n,AI v, .sl 6 (bK l) none]
def bK:List KE->List AV
 | []=>[] |e::r=>dK e::bK r
end
theorem aK(e:KE):dK e= .ag [cC e.kind,cC e.oper,cC e.to,aN e.n,AI e.v, .sl 6 (bK e.l) none]:=by obtain ⟨k,o,t,n,v,l⟩:=e;rw [dK]
theorem xZ(l:List KE):bK l=l.map dK:=by
 induction l with
 |nil=>rw [bK];rfl |cons x r ih=>rw [bK,ih];rfl
mutual
def l5:KE->Prop
 |⟨k,o,t,n,v,l⟩=>(u8 k/\u8 o/\u8 t/\i32 n/\i64 v)/\nJ l
def nJ:List KE->Prop
 | []=>True |e::r=>l5 e/\nJ r
end
def cH(e:KE):Bool:=
 if e.kind=1 then e.oper==0&&e.to==0&&e.v==0&&e.l.length==0
 else if e.kind=2 then e.oper==0&&e.to==0&&e.n==0&&decide (0<=e.v)&&decide (e.v<=255)&&e.l.length==0
 else if e.kind=3 then e.oper==0&&e.to==0&&e.n==0&&decide (0<=e.v)&&decide (e.v<=255)&&e.l.length==1
 else if e.kind=4 then decide (23<=e.oper)&&decide (e.oper<=26)&&e.to==0&&e.n==0&&e.v==0&&e.l.length==1
 else if e.kind=5 then decide (1<=e.oper)&&decide (e.oper<=22)&&e.to==0&&e.n==0&&e.v==0&&e.l.length==2
 else if e.kind=6 then e.oper==0&&decide (1<=e.to)&&decide (e.to<=3)&&e.n==0&&e.v==0&&e.l.length==1
 else false
mutual
def sz:KE->Nat
 |⟨_,_,_,_,_,l⟩=>1+oJ l
def oJ:List KE->Nat
 | []=>0 |e::r=>sz e+oJ r
end
mutual
def ht:KE->Nat
 |⟨_,_,_,_,_,l⟩=>1+fN l
def fN:List KE->Nat
 | []=>0 |e::r=>max (ht e) (fN r)
end
mutual
def mM:KE->Bool
 |⟨k,o,t,n,v,l⟩=>cH ⟨k,o,t,n,v,l⟩&&kV l
def kV:List KE->Bool
 | []=>true |e::r=>mM e&&kV r
end
theorem sR{e:KE}(h:cH e=true):(∃k o t n v,e=⟨k,o,t,n,v,[]⟩)\/(∃k o t n v a,e=⟨k,o,t,n,v,[a]⟩)\/(∃k o t n v a b,e=⟨k,o,t,n,v,[a,b]⟩):=by
 obtain ⟨k,o,t,n,v,l⟩:=e
 match l with
 | []=>exact .inl ⟨k,o,t,n,v,rfl⟩ | [a]=>exact .inr (.inl ⟨k,o,t,n,v,a,rfl⟩)
 | [a,b]=>exact .inr (.inr ⟨k,o,t,n,v,a,b,rfl⟩) |a::b::c::r=>
  simp only [cH,KE.kind,KE.oper,KE.to,KE.n,KE.v,KE.l,List.length_cons] at h;exfalso;revert h;(repeat' split)<;>simp<;>omega
theorem NX{e:KE}(h:cH e=true):(∃n,e=⟨1,0,0,n,0,[]⟩)\/(∃v,0<=v/\v<=255/\e=⟨2,0,0,0,v,[]⟩)\/(∃v a,0<=v/\v<=255/\e=⟨3,0,0,0,v,[a]⟩)\/
 (∃o a,23<=o/\o<=26/\e=⟨4,o,0,0,0,[a]⟩)\/(∃o a b,1<=o/\o<=22/\e=⟨5,o,0,0,0,[a,b]⟩)\/(∃t a,1<=t/\t<=3/\e=⟨6,0,t,0,0,[a]⟩):=by
 obtain ⟨k,o,t,n,v,l⟩:=e;have h1:=h;simp only [cH,KE.kind,KE.oper,KE.to,KE.n,KE.v,KE.l] at h1;have l0:l.length=0->l=[]:=fun h=>List.length_eq_zero_iff.1 h;have l1:l.length=1-> ∃a,l=[a]:=fun h=>by
  match l,h with
  | [a],_=>exact ⟨a,rfl⟩
 have l2:l.length=2-> ∃a b,l=[a,b]:=fun h=>by
  match l,h with
  | [a,b],_=>exact ⟨a,b,rfl⟩
 split at h1
 ·subst_vars;simp at h1;obtain ⟨⟨⟨rfl,rfl⟩,rfl⟩,rfl⟩:=h1;exact .inl ⟨n,rfl⟩
 split at h1
 ·subst_vars;simp at h1;obtain ⟨⟨⟨⟨⟨rfl,rfl⟩,rfl⟩,h3⟩,h4⟩,rfl⟩:=h1;exact .inr (.inl ⟨v,h3,h4,rfl⟩)
 split at h1
 ·subst_vars;simp at h1;obtain ⟨⟨⟨⟨⟨rfl,rfl⟩,rfl⟩,h3⟩,h4⟩,hl⟩:=h1;obtain ⟨a,rfl⟩:=l1 hl;exact .inr (.inr (.inl ⟨v,a,h3,h4,rfl⟩))
 split at h1
 ·subst_vars;simp at h1;obtain ⟨⟨⟨⟨⟨h3,h4⟩,rfl⟩,rfl⟩,rfl⟩,hl⟩:=h1;obtain ⟨a,rfl⟩:=l1 hl;exact .inr (.inr (.inr (.inl ⟨o,a,h3,h4,rfl⟩)))
 split at h1
 ·subst_vars;simp at h1;obtain ⟨⟨⟨⟨⟨h3,h4⟩,rfl⟩,rfl⟩,rfl⟩,hl⟩:=h1;obtain ⟨a,b,rfl⟩:=l2 hl;exact .inr (.inr (.inr (.inr (.inl ⟨o,a,b,h3,h4,rfl⟩))))
 split at h1
 ·subst_vars;simp at h1;obtain ⟨⟨⟨⟨⟨rfl,h3⟩,h4⟩,rfl⟩,rfl⟩,hl⟩:=h1;obtain ⟨a,rfl⟩:=l1 hl;exact .inr (.inr (.inr (.inr (.inr ⟨t,a,h3,h4,rfl⟩))))
 ·cases h1
theorem CC{e:KE}(h:mM e=true):cH e=true:=by obtain ⟨k,o,t,n,v,l⟩:=e;simp only [mM,aa3] at h;exact h.1
theorem lR{e:KE}(h:mM e=true):(∃n,e=⟨1,0,0,n,0,[]⟩)\/(∃v,0<=v/\v<=255/\e=⟨2,0,0,0,v,[]⟩)\/(∃v a,0<=v/\v<=255/\mM a=true/\e=⟨3,0,0,0,v,[a]⟩)\/
 (∃o a,23<=o/\o<=26/\mM a=true/\e=⟨4,o,0,0,0,[a]⟩)\/(∃o a b,1<=o/\o<=22/\mM a=true/\mM b=true/\e=⟨5,o,0,0,0,[a,b]⟩)\/(∃t a,1<=t/\t<=3/\mM a=true/\e=⟨6,0,t,0,0,[a]⟩):=by
 rcases NX (CC h) with ⟨n,rfl⟩|⟨v,h1,h2,rfl⟩|⟨v,a,h1,h2,rfl⟩|⟨o,a,h1,h2,rfl⟩|⟨o,a,b,h1,h2,rfl⟩|⟨t,a,h1,h2,rfl⟩
 ·exact .inl ⟨n,rfl⟩
 ·exact .inr (.inl ⟨v,h1,h2,rfl⟩)
 ·simp [mM,kV] at h;exact .inr (.inr (.inl ⟨v,a,h1,h2,h.2,rfl⟩))
 ·simp [mM,kV] at h;exact .inr (.inr (.inr (.inl ⟨o,a,h1,h2,h.2,rfl⟩)))
 ·simp [mM,kV] at h;exact .inr (.inr (.inr (.inr (.inl ⟨o,a,b,h1,h2,h.2.1,h.2.2,rfl⟩))))
 ·simp [mM,kV] at h;exact .inr (.inr (.inr (.inr (.inr ⟨t,a,h1,h2,h.2,rfl⟩))))
theorem iL(e:KE):1<=sz e:=by obtain ⟨k,o,t,n,v,l⟩:=e;simp only [sz];omega
theorem ht_pos(e:KE):1<=ht e:=by obtain ⟨k,o,t,n,v,l⟩:=e;simp only [ht];omega
def fits(e:KE)(room deep:Int):Prop:=mM e=true/\(sz e:Int)<=room/\(ht e:Int)<=deep
instance (e:KE) (room deep:Int):Decidable (fits e room deep):=by unfold fits;infer_instance
abbrev valid(e:KE):Prop:=fits e 256 32
theorem nU{e:KE}{r d:Int}(h:r<1\/d<1\/cH e=false): ¬fits e r d:=by
 rintro ⟨h1,h2,h3⟩;have:=iL e;have:=ht_pos e;rcases h with h|h|h
 ·omega
 ·omega
 ·rw [CC h1] at h;cases h
theorem fits0{k o t n v:Int}{room deep:Int}(hs:cH ⟨k,o,t,n,v,[]⟩=true):fits ⟨k,o,t,n,v,[]⟩ room deep↔1<=room/\1<=deep:=by simp only [fits,mM,kV,hs,sz,oJ,ht,fN,ac2,true_and];omega
theorem fits1{k o t n v:Int}{a:KE}{room deep:Int}(hs:cH ⟨k,o,t,n,v,[a]⟩=true):fits ⟨k,o,t,n,v,[a]⟩ room deep↔fits a (room-1) (deep-1):=by
 simp only [fits,mM,kV,hs,sz,oJ,ht,fN,ac2,am1];constructor
 ·rintro ⟨h1,h2,h3⟩;exact ⟨h1,by omega,by omega⟩
 ·rintro ⟨h1,h2,h3⟩;exact ⟨h1,by omega,by omega⟩
theorem fits2{k o t n v:Int}{a b:KE}{room deep:Int}(hs:cH ⟨k,o,t,n,v,[a,b]⟩=true):fits ⟨k,o,t,n,v,[a,b]⟩ room deep↔fits a (room-1) (deep-1)/\fits b (room-(1+sz a)) (deep-1):=by
 simp only [fits,mM,kV,hs,sz,oJ,ht,fN,ac2,am1,aa3];have:=iL b;constructor
 ·rintro ⟨h1,h2,h3⟩;exact ⟨⟨h1.1,by omega,by omega⟩,⟨h1.2,by omega,by omega⟩⟩
 ·rintro ⟨⟨h1,h2,h3⟩,⟨h4,h5,h6⟩⟩;exact ⟨⟨h1,h4⟩,by omega,by omega⟩
theorem xM{k o t n v:Int}{a:KE}(h:l5 ⟨k,o,t,n,v,[a]⟩):l5 a:=by simp only [l5,nJ] at h;exact h.2.1
theorem xO{k o t n v:Int}{a b:KE}(h:l5 ⟨k,o,t,n,v,[a,b]⟩):l5 a/\l5 b:=by simp only [l5,nJ] at h;exact ⟨h.2.1,h.2.2.1⟩
theorem V4(e:KE):ht e=1+fN e.l:=by obtain ⟨k,o,t,n,v,l⟩:=e;rw [ht]
def pF(n:Int):Bool:=decide (-2147483648<=n)&&decide (n<2147483648)
theorem w32_fit(n:Int):(IntKind.i32.wrap n==n)=pF n:=by rw [ac8];simp [pF];rw [gH];omega
def rX(n:Int):Option Int:=if pF n then some n else none
theorem DN(t:Int)(ht:i64 t):Pure prog aU 230 [AI t] (.tp [aN (kD t),AB (!pF t)]):=by refine P_ func230 11 fun _ _ _ _=>?_;refine y_ ?_;refine q_ ?_;refine Sb.eq ?_;have h1:IntKind.i64.wrap (IntKind.i32.wrap t)=IntKind.i32.wrap t:=dR (pO t);rw [h1,<-w32_fit];rfl
theorem wadd_p(a b:Int)(ha:i32 a)(hb:i32 b):Pure prog aU 195 [aN a,aN b] (.tp [aN (kD (a+b)),AB (!pF (a+b))]):=by
 have h:i64 (a+b):=by unfold i32 at ha hb;unfold i64;omega
 refine P_ func195 14 fun _ _ _ _=>?_;refine y_ ?_;refine A.aa 10 T (x':=AI (a+b)) (by rw [dR ha,dR hb,mR h]) ?_;refine c_ (DN _ h) ?_;refine q_ ?_;exact .refl
theorem ZC(a b:Int)(ha:i32 a)(hb:i32 b):Pure prog aU 196 [aN a,aN b] (.tp [aN (kD (a-b)),AB (!pF (a-b))]):=by
 have h:i64 (a-b):=by unfold i32 at ha hb;unfold i64;omega
 refine P_ func196 14 fun _ _ _ _=>?_;refine y_ ?_;refine A.aa 10 T (x':=AI (a-b)) (by rw [dR ha,dR hb,mR h]) ?_;refine c_ (DN _ h) ?_;refine q_ ?_;exact .refl
theorem yO{a b:Int}(ha:i32 a)(hb:i32 b):i64 (a*b):=by
 unfold i32 at ha hb;unfold i64;have h1:a.natAbs<=2147483648:=by omega
 have h2:b.natAbs<=2147483648:=by omega
 have h3:(a*b).natAbs<=2147483648*2147483648:=by rw [Int.natAbs_mul];exact Nat.mul_le_mul h1 h2
 omega
theorem wmul_p(a b:Int)(ha:i32 a)(hb:i32 b):Pure prog aU 197 [aN a,aN b] (.tp [aN (kD (a*b)),AB (!pF (a*b))]):=by have h:i64 (a*b):=yO ha hb;refine P_ func197 14 fun _ _ _ _=>?_;refine y_ ?_;refine A.aa 10 T (x':=AI (a*b)) (by rw [dR ha,dR hb,mR h]) ?_;refine c_ (DN _ h) ?_;refine q_ ?_;exact .refl
def nS(a b:Int):Bool:=b==0||(a== -2147483648&&b== -1)
def xY(a b:Int):Int:=if nS a b then 0 else a.tdiv b
theorem IF{a b:Int}(ha:i32 a)(hb:nS a b=false):i32 (a.tdiv b):=by
 unfold i32 at ha⊢;simp [nS] at hb;have h1:(a.tdiv b).natAbs<=a.natAbs:=by rw [Int.natAbs_tdiv];exact Nat.div_le_self _ _
 by_cases h:a= -2147483648
 ·subst h;have hb1:b≠ -1:=hb.2 T
  by_cases h2:b=1
  ·subst h2;decide
  ·have:(Int.tdiv (-2147483648) b).natAbs<=1073741824:=by
    rw [Int.natAbs_tdiv];have:2<=b.natAbs:=by omega
    calc (Int.natAbs (-2147483648)) / b.natAbs<=2147483648 / 2:=Nat.div_le_div (by decide) this (by decide)
     _=1073741824:=by decide
   omega
 ·omega
theorem wdiv_p(a b:Int)(ha:i32 a)(hb:i32 b):Pure prog aU 198 [aN a,aN b] (.tp [aN (xY a b),AB (nS a b)]):=by
 refine P_ func198 19 fun _ _ _ _=>?_;refine g_ ?_;refine k_ (fun hc=>?_) fun hc=>?_
 ·refine y_ ?_;refine q_ ?_;refine Sb.eq ?_;have h:nS a b=true:=by simp at hc;simp [nS];exact hc
  simp [xY,h]
 ·have h:nS a b=false:=by simp at hc;simp [nS];exact hc
  refine y_ ?_;refine A.bg T T T T T T T (by simp [nS] at h;exact h.1) ?_;refine y_ ?_;refine q_ ?_;refine Sb.eq ?_;show AV.tp [aN (IntKind.i32.wrap (a.tdiv b)),_]=_;rw [ED (IF ha h)];simp [xY,h]
def AU(a b:Int):Int:=if b=0 then 0 else a.tmod b
theorem wrem_p(a b:Int)(ha:i32 a)(hb:i32 b):Pure prog aU 199 [aN a,aN b] (.tp [aN (AU a b),AB (b==0)]):=by
 refine P_ func199 14 fun _ _ _ _=>?_;refine y_ ?_;refine k_ (fun hc=>?_) fun hc=>?_
 ·refine y_ ?_;refine q_ ?_;refine Sb.eq ?_;simp at hc;simp [hc,AU]
 ·simp at hc;refine y_ ?_;refine k_ (fun hd=>?_) fun hd=>?_
  ·refine y_ ?_;refine q_ ?_;refine Sb.eq ?_;simp at hd;subst hd;simp [AU]
  ·refine y_ ?_;refine A.bg T T T T T T T hc ?_;refine y_ ?_;refine q_ ?_;refine Sb.eq ?_;show AV.tp [aN (a.tmod b),_]=_;simp [AU,hc]
theorem wsum_p(a b:Int):Pure prog aU 182 [aN a,aN b] (aN (kD (a+b))):=by refine P_ func182 8 fun _ _ _ _=>?_;exact tV
theorem wdiff_p(a b:Int):Pure prog aU 183 [aN a,aN b] (aN (kD (a-b))):=by refine P_ func183 8 fun _ _ _ _=>?_;exact tV
theorem wprod_p(a b:Int):Pure prog aU 184 [aN a,aN b] (aN (kD (a*b))):=by refine P_ func184 8 fun _ _ _ _=>?_;exact tV
def pP(a:Int):Int:=if a<0 then a+4294967296 else a
theorem mG{a:Int}(ha:i32 a):IntKind.u32.wrap a=pP a:=by unfold i32 at ha;unfold pP;rw [wu32_eq];split<;>omega
theorem sT{a:Int}(ha:i32 a):0<=pP a/\pP a<4294967296:=by unfold i32 at ha;unfold pP;split<;>omega
def NY(a n:Int):Int:=if pP n>31 then 0 else kD (a*2^n.toNat)
def TD(a n:Int):Int:=if pP n>31 then 0 else kD (pP a / 2^n.toNat)
theorem S0(t:Int):Pure prog aU 222 [.v (.int .u64 t)] (.tp [aN (kD t),AB (IntKind.u64.wrap (kD t) !=t)]):=by refine P_ func222 11 fun _ _ _ _=>?_;refine y_ ?_;refine q_ ?_;exact .refl
theorem tN{n:Int}(hn:i32 n)(h: ¬pP n>31):0<=n/\n<=31/\pP n=n:=by unfold i32 at hn;unfold pP at h⊢;split at h<;>split<;>omega
theorem QC{k:Nat}(h:k<=32):(2:Int)^k<=4294967296:=by
 have:(2:Nat)^k<=2^32:=Nat.pow_le_pow_right (by decide) h;have h2:((2^k:Nat):Int)<=((2^32:Nat):Int):=Int.ofNat_le.2 this
 rwa [Int.natCast_pow] at h2
theorem wshl_p(a n:Int)(ha:i32 a)(hn:i32 n):Pure prog aU 188 [aN a,aN n] (aN (NY a n)):=by
 refine P_ func188 21 fun _ _ _ _=>?_;refine y_ ?_;refine k_ (fun hc=>?_) fun hc=>?_
 ·simp at hc;rw [mG hn] at hc;refine y_ ?_;refine R_ ?_;refine Sb.eq ?_;simp [NY,hc]
 ·simp at hc;rw [mG hn] at hc;obtain ⟨h1,h2,h3⟩:=tN hn (by omega);refine y_ ?_;refine A.shift T T T T T T (by rw [mG hn];omega) ?_;refine c_ (S0 _) ?_;refine R_ ?_;refine Sb.eq ?_;refine mV ?_;have hu:=sT ha;simp only [AM,NY,mG hn,mG ha,h3,iF (show¬n>31 by omega)];have h4:min n.toNat IntKind.u64.bits=n.toNat:=ah6 (by simp [ak8];omega);rw [h4];have hp:=QC (k:=n.toNat) (by omega);have hp0:(0:Int)<2^n.toNat:=ao3 (by decide);have e1:IntKind.u64.wrap (pP a)=pP a:=by rw [Q5];omega
  have hb:pP a*2^n.toNat<18446744073709551616:=by
   calc pP a*2^n.toNat<4294967296*2^n.toNat:=Int.mul_lt_mul_of_pos_right hu.2 hp0
    _<=4294967296*4294967296:=Int.mul_le_mul_of_nonneg_left hp (by decide)
  have hb0:0<=pP a*2^n.toNat:=Int.mul_nonneg hu.1 (aq4 hp0);have e2:IntKind.u64.wrap (pP a*2^n.toNat)=pP a*2^n.toNat:=by rw [Q5];omega
  rw [e1,e2];unfold pP;split
  ·unfold kD;rw [gH,gH,Int.add_mul];generalize a*2^n.toNat=x;generalize (2:Int)^n.toNat=y;omega
  ·rfl
theorem wshr_p(a n:Int)(ha:i32 a)(hn:i32 n):Pure prog aU 189 [aN a,aN n] (aN (TD a n)):=by
 refine P_ func189 11 fun _ _ _ _=>?_;refine y_ ?_;have hun:=sT hn;have hua:=sT ha;refine A.shift T T T T T T (by rw [mG hn];omega) ?_;refine y_ ?_;refine R_ ?_;refine Sb.eq ?_;refine mV ?_;simp only [AM,mG hn,mG ha,TD];split
 ·rename_i h;have h4:min (pP n).toNat IntKind.u32.bits=32:=Nat.min_eq_right (by simp [ak8];omega);rw [h4,ah8 _ (by decide)];have:pP a / 2^32=0:=by rw [show (2:Int)^32=4294967296 by decide];omega
  rw [this];decide
 ·rename_i h;obtain ⟨h1,h2,h3⟩:=tN hn h;have h4:min (pP n).toNat IntKind.u32.bits=n.toNat:=by rw [h3];exact ah6 (by simp [ak8];omega)
  rw [h4,ah8 _ (aq4 (ao3 (by decide)))];rfl
theorem Y5(a b:Int):Pure prog aU 229 [aN a,aN b] (AB (decide (0<kD (a-b)))):=by refine P_ func229 9 fun _ _ _ _=>?_;exact tV
def UO(a b:Int):Int:=bitsOf .and .i32 a b
def UU(a b:Int):Int:=bitsOf .or .i32 a b
def bxor(a b:Int):Int:=bitsOf .xor .i32 a b
def bnot(a:Int):Int:=bitsOf .xor .i32 (-1) a
theorem t1_p(a b:Int):Pure prog aU 185 [aN a,aN b] (aN (UO a b)):=by refine P_ func185 8 fun _ _ _ _=>?_;exact tV
theorem t2_p(a b:Int):Pure prog aU 186 [aN a,aN b] (aN (UU a b)):=by refine P_ func186 8 fun _ _ _ _=>?_;exact tV
theorem t3_p(a b:Int):Pure prog aU 187 [aN a,aN b] (aN (bxor a b)):=by refine P_ func187 8 fun _ _ _ _=>?_;exact tV
theorem t4_p(a b:Int):Pure prog aU 190 [aN a,aN b] (aN (kD (0-a))):=by refine P_ func190 7 fun _ _ _ _=>?_;exact tV
theorem t5_p(a b:Int):Pure prog aU 191 [aN a,aN b] (aN (bnot a)):=by refine P_ func191 7 fun _ _ _ _=>?_;exact tV
theorem te1_p(a b:Int):Pure prog aU 223 [aN a,aN b] (AB (a==b)):=by refine P_ func223 8 fun _ _ _ _=>?_;exact tV
theorem te2_p(a b:Int):Pure prog aU 224 [aN a,aN b] (AB (a !=b)):=by refine P_ func224 8 fun _ _ _ _=>?_;exact tV
theorem te3_p(a b:Int):Pure prog aU 225 [aN a,aN b] (AB (decide (a<b))):=by refine P_ func225 8 fun _ _ _ _=>?_;exact tV
theorem te4_p(a b:Int):Pure prog aU 226 [aN a,aN b] (AB (decide (b<a))):=by refine P_ func226 8 fun _ _ _ _=>?_;exact tV
theorem te5_p(a b:Int):Pure prog aU 227 [aN a,aN b] (AB (decide (a<=b))):=by refine P_ func227 8 fun _ _ _ _=>?_;exact tV
theorem te6_p(a b:Int):Pure prog aU 228 [aN a,aN b] (AB (decide (b<=a))):=by refine P_ func228 8 fun _ _ _ _=>?_;exact tV
def fA(b:Bool):Int:=if b then 1 else 0
theorem truth_p(b:Bool):Pure prog aU 194 [AB b] (aN (fA b)):=by
 refine P_ func194 4 fun _ _ _ _=>?_;refine y_ ?_;refine k_ (fun hc=>?_) fun hc=>?_
 ·refine y_ ?_;refine R_ ?_;subst hc;exact .refl
 ·refine y_ ?_;refine R_ ?_;subst hc;exact .refl
theorem N6(f:FuncId)(a b:Int)(r:Bool)(hf:Pure prog aU f [aN a,aN b] (AB r)):Pure prog aU 193 [aN a,aN b, .pe 1 (.fn f [] [])] (aN (fA r)):=by refine P_ func193 11 fun _ _ _ _=>?_;refine y_ ?_;refine n_ hf ?_;exact oR (truth_p _)
def kI(o:Int):AV:=
 if o=14 then .fn 223 [] [] else if o=15 then .fn 224 [] [] else if o=16 then .fn 225 [] [] else if o=17 then .fn 226 [] []
 else if o=18 then .fn 227 [] [] else if o=19 then .fn 228 [] [] else if o=22 then .fn 229 [] [] else .v .nilFunc
theorem QR(o:Int):Pure prog aU 192 [cC o] (kI o):=by
 refine P_ func192 18 fun _ _ _ _=>?_;refine y_ ?_;refine k_ (fun h1=>?_) fun h1=>?_;(· (refine y_ ?_;refine R_ ?_;refine Sb.eq ?_;simp at*;simp [kI, *]));refine y_ ?_;refine k_ (fun h2=>?_) fun h2=>?_;(· (refine y_ ?_;refine R_ ?_;refine Sb.eq ?_;simp at*;simp [kI, *]));refine y_ ?_;refine k_ (fun h3=>?_) fun h3=>?_;(· (refine y_ ?_;refine R_ ?_;refine Sb.eq ?_;simp at*;simp [kI, *]));refine y_ ?_;refine k_ (fun h4=>?_) fun h4=>?_;(· (refine y_ ?_;refine R_ ?_;refine Sb.eq ?_;simp at*;simp [kI, *]));refine y_ ?_;refine k_ (fun h5=>?_) fun h5=>?_;(· (refine y_ ?_;refine R_ ?_;refine Sb.eq ?_;simp at*;simp [kI, *]));refine y_ ?_;refine k_ (fun h6=>?_) fun h6=>?_;(· (refine y_ ?_;refine R_ ?_;refine Sb.eq ?_;simp at*;simp [kI, *]));refine y_ ?_;refine k_ (fun h7=>?_) fun h7=>?_;(· (refine y_ ?_;refine R_ ?_;refine Sb.eq ?_;simp at*;simp [kI, *]))
 (· (refine y_ ?_;refine R_ ?_;refine Sb.eq ?_;simp at*;simp [kI, *]))
def eL(o:Int):AV:=
 if o=6 then .fn 182 [] [] else if o=7 then .fn 183 [] [] else if o=8 then .fn 184 [] [] else if o=9 then .fn 185 [] []
 else if o=10 then .fn 186 [] [] else if o=11 then .fn 187 [] [] else if o=12 then .fn 188 [] [] else if o=13 then .fn 189 [] []
 else if o=24 then .fn 190 [] [] else if o=25 then .fn 191 [] [] else match kI o with
  | .fn f a b=> .fn 193 [] [.pe 1 (.fn f a b)] |_=> .v .nilFunc
theorem IG(o:Int):(∃f,kI o= .fn f [] []/\(o=14\/o=15\/o=16\/o=17\/o=18\/o=19\/o=22))\/(kI o= .v .nilFunc/\o≠14/\o≠15/\o≠16/\o≠17/\o≠18/\o≠19/\o≠22):=by unfold kI;(repeat' split)<;>first|exact .inl ⟨_,rfl,by omega⟩|exact .inr ⟨rfl,by omega⟩
theorem QU(o:Int):Pure prog aU 160 [cC o] (eL o):=by
 rcases IG o with ⟨f,hf,ho⟩|⟨hf,ho⟩
 ·have e:eL o= .fn 193 [] [.pe 1 (.fn f [] [])]:=by
   unfold eL;rw [hf];repeat rw [iF (by omega)]
  refine P_ func160 30 fun _ _ _ _=>?_;refine y_ ?_;refine k_ (fun h1=>?_) fun h1=>?_;(· (refine y_ ?_;refine R_ ?_;refine Sb.eq ?_;simp at*;simp [eL, *]));refine y_ ?_;refine k_ (fun h2=>?_) fun h2=>?_;(· (refine y_ ?_;refine R_ ?_;refine Sb.eq ?_;simp at*;simp [eL, *]));refine y_ ?_;refine k_ (fun h3=>?_) fun h3=>?_;(· (refine y_ ?_;refine R_ ?_;refine Sb.eq ?_;simp at*;simp [eL, *]));refine y_ ?_;refine k_ (fun h4=>?_) fun h4=>?_;(· (refine y_ ?_;refine R_ ?_;refine Sb.eq ?_;simp at*;simp [eL, *]));refine y_ ?_;refine k_ (fun h5=>?_) fun h5=>?_;(· (refine y_ ?_;refine R_ ?_;refine Sb.eq ?_;simp at*;simp [eL, *]));refine y_ ?_;refine k_ (fun h6=>?_) fun h6=>?_;(· (refine y_ ?_;refine R_ ?_;refine Sb.eq ?_;simp at*;simp [eL, *]));refine y_ ?_;refine k_ (fun h7=>?_) fun h7=>?_;(· (refine y_ ?_;refine R_ ?_;refine Sb.eq ?_;simp at*;simp [eL, *]));refine y_ ?_;refine k_ (fun h8=>?_) fun h8=>?_;(· (refine y_ ?_;refine R_ ?_;refine Sb.eq ?_;simp at*;simp [eL, *]));refine y_ ?_;refine k_ (fun h9=>?_) fun h9=>?_;(· (refine y_ ?_;refine R_ ?_;refine Sb.eq ?_;simp at*;simp [eL, *]));refine y_ ?_;refine k_ (fun ha=>?_) fun ha=>?_;(· (refine y_ ?_;refine R_ ?_;refine Sb.eq ?_;simp at*;simp [eL, *]));refine y_ ?_;refine n_ (hf▸QR o) ?_;refine A.alloc T T T T T T fun bx=>?_;refine A.store T T T T T T T ?_;refine A.freeze 3 T T T ?_;refine y_ ?_;refine R_ ?_;rw [e];exact .refl
 ·refine P_ func160 30 fun _ _ _ _=>?_;refine y_ ?_;refine k_ (fun h1=>?_) fun h1=>?_;(· (refine y_ ?_;refine R_ ?_;refine Sb.eq ?_;simp at*;simp [eL, *]));refine y_ ?_;refine k_ (fun h2=>?_) fun h2=>?_;(· (refine y_ ?_;refine R_ ?_;refine Sb.eq ?_;simp at*;simp [eL, *]));refine y_ ?_;refine k_ (fun h3=>?_) fun h3=>?_;(· (refine y_ ?_;refine R_ ?_;refine Sb.eq ?_;simp at*;simp [eL, *]));refine y_ ?_;refine k_ (fun h4=>?_) fun h4=>?_;(· (refine y_ ?_;refine R_ ?_;refine Sb.eq ?_;simp at*;simp [eL, *]));refine y_ ?_;refine k_ (fun h5=>?_) fun h5=>?_;(· (refine y_ ?_;refine R_ ?_;refine Sb.eq ?_;simp at*;simp [eL, *]));refine y_ ?_;refine k_ (fun h6=>?_) fun h6=>?_;(· (refine y_ ?_;refine R_ ?_;refine Sb.eq ?_;simp at*;simp [eL, *]));refine y_ ?_;refine k_ (fun h7=>?_) fun h7=>?_;(· (refine y_ ?_;refine R_ ?_;refine Sb.eq ?_;simp at*;simp [eL, *]));refine y_ ?_;refine k_ (fun h8=>?_) fun h8=>?_;(· (refine y_ ?_;refine R_ ?_;refine Sb.eq ?_;simp at*;simp [eL, *]));refine y_ ?_;refine k_ (fun h9=>?_) fun h9=>?_;(· (refine y_ ?_;refine R_ ?_;refine Sb.eq ?_;simp at*;simp [eL, *]));refine y_ ?_;refine k_ (fun ha=>?_) fun ha=>?_;(· (refine y_ ?_;refine R_ ?_;refine Sb.eq ?_;simp at*;simp [eL, *]));refine y_ ?_;refine n_ (hf▸QR o) ?_
  (refine b_ fun bx=>?_;refine y_ ?_);refine R_ ?_;refine Sb.eq ?_;simp at*;simp [eL, *]
def mH(a:Int):Bool:=a==0||a==1
def gN(o a b:Int):Option Int:=
 if o=1 then rX (a+b) else if o=2 then rX (a-b) else if o=3 then rX (a*b)
 else if o=4 then (if nS a b then none else some (a.tdiv b)) else if o=5 then (if b=0 then none else some (a.tmod b))
 else if o=6 then some (kD (a+b)) else if o=7 then some (kD (a-b)) else if o=8 then some (kD (a*b))
 else if o=9 then some (UO a b) else if o=10 then some (UU a b) else if o=11 then some (bxor a b)
 else if o=12 then some (NY a b) else if o=13 then some (TD a b)
 else if o=14 then some (fA (a==b)) else if o=15 then some (fA (a !=b)) else if o=16 then some (fA (decide (a<b)))
 else if o=17 then some (fA (decide (b<a))) else if o=18 then some (fA (decide (a<=b))) else if o=19 then some (fA (decide (b<=a)))
 else if o=20 then (if mH a&&mH b then some (fA (a==1&&b==1)) else none)
 else if o=21 then (if mH a&&mH b then some (fA (a==1||b==1)) else none)
 else if o=22 then some (fA (decide (0<kD (a-b)))) else if o=23 then rX (0-a) else if o=24 then some (kD (0-a))
 else if o=25 then some (bnot a) else if o=26 then (if mH a then some (fA (a==0)) else none) else none
theorem LH(o a b:Int)(ha:i32 a)(hb:i32 b):
 (∃f caps r,eL o= .fn f [] caps/\gN o a b=some r/\Pure prog aU f ([aN a,aN b]++caps) (aN r))\/
 (eL o= .v .nilFunc/\(o<6\/19<o/\o≠22/\o≠24/\o≠25)):=by
 by_cases h:o=6
 ·subst h;exact .inl ⟨_,[],_,rfl,rfl,wsum_p a b⟩
 by_cases h:o=7
 ·subst h;exact .inl ⟨_,[],_,rfl,rfl,wdiff_p a b⟩
 by_cases h:o=8
 ·subst h;exact .inl ⟨_,[],_,rfl,rfl,wprod_p a b⟩
 by_cases h:o=9
 ·subst h;exact .inl ⟨_,[],_,rfl,rfl,t1_p a b⟩
 by_cases h:o=10
 ·subst h;exact .inl ⟨_,[],_,rfl,rfl,t2_p a b⟩
 by_cases h:o=11
 ·subst h;exact .inl ⟨_,[],_,rfl,rfl,t3_p a b⟩
 by_cases h:o=12
 ·subst h;exact .inl ⟨_,[],_,rfl,rfl,wshl_p a b ha hb⟩
 by_cases h:o=13
 ·subst h;exact .inl ⟨_,[],_,rfl,rfl,wshr_p a b ha hb⟩
 by_cases h:o=24
 ·subst h;exact .inl ⟨_,[],_,rfl,rfl,t4_p a b⟩
 by_cases h:o=25
 ·subst h;exact .inl ⟨_,[],_,rfl,rfl,t5_p a b⟩
 by_cases h:o=14
 ·subst h;exact .inl ⟨_,_,_,rfl,rfl,N6 _ a b _ (te1_p a b)⟩
 by_cases h:o=15
 ·subst h;exact .inl ⟨_,_,_,rfl,rfl,N6 _ a b _ (te2_p a b)⟩
 by_cases h:o=16
 ·subst h;exact .inl ⟨_,_,_,rfl,rfl,N6 _ a b _ (te3_p a b)⟩
 by_cases h:o=17
 ·subst h;exact .inl ⟨_,_,_,rfl,rfl,N6 _ a b _ (te4_p a b)⟩
 by_cases h:o=18
 ·subst h;exact .inl ⟨_,_,_,rfl,rfl,N6 _ a b _ (te5_p a b)⟩
 by_cases h:o=19
 ·subst h;exact .inl ⟨_,_,_,rfl,rfl,N6 _ a b _ (te6_p a b)⟩
 by_cases h:o=22
 ·subst h;exact .inl ⟨_,_,_,rfl,rfl,N6 _ a b _ (Y5 a b)⟩
 refine .inr ⟨?_,by omega⟩;have ht:kI o= .v .nilFunc:=by unfold kI;repeat rw [iF (by assumption)]
 unfold eL;rw [ht];repeat rw [iF (by assumption)]
def uG(a:Int):Bool:=bitsOf .andNot .i32 a 1 !=0
def qC(o a b:Int):Int×Bool:=
 if o=1 then (kD (a+b),pF (a+b)) else if o=2 then (kD (a-b),pF (a-b)) else if o=3 then (kD (a*b),pF (a*b))
 else if o=4 then (xY a b, !nS a b) else if o=5 then (AU a b, !(b==0)) else if o=23 then (kD (0-a),pF (0-a))
 else if o=20 then (UO a b, !uG (UU a b)) else if o=21 then (UU a b, !uG (UU a b)) else if o=26 then (kD (1-a), !uG a) else (0,false)
theorem SR(o a b:Int)(ha:i32 a)(hb:i32 b):Pure prog aU 161 [cC o,aN a,aN b] (.tp [aN (qC o a b).1,AB (qC o a b).2]):=by
 have z0:i32 0:=⟨by decide,by decide⟩;refine P_ func161 87 fun _ _ _ _=>?_;refine y_ ?_;refine k_ (fun h1=>?_) fun h1=>?_
 ·refine y_ ?_;refine n_ (wadd_p a b ha hb) ?_;(refine y_ ?_;refine q_ ?_;refine Sb.eq ?_;simp at*;simp [qC, *])
 refine y_ ?_;refine k_ (fun h2=>?_) fun h2=>?_
 ·refine y_ ?_;refine n_ (ZC a b ha hb) ?_;(refine y_ ?_;refine q_ ?_;refine Sb.eq ?_;simp at*;simp [qC, *])
 refine y_ ?_;refine k_ (fun h3=>?_) fun h3=>?_
 ·refine y_ ?_;refine n_ (wmul_p a b ha hb) ?_;(refine y_ ?_;refine q_ ?_;refine Sb.eq ?_;simp at*;simp [qC, *])
 refine y_ ?_;refine k_ (fun h4=>?_) fun h4=>?_
 ·refine y_ ?_;refine n_ (wdiv_p a b ha hb) ?_;(refine y_ ?_;refine q_ ?_;refine Sb.eq ?_;simp at*;simp [qC, *])
 refine y_ ?_;refine k_ (fun h5=>?_) fun h5=>?_
 ·refine y_ ?_;refine n_ (wrem_p a b ha hb) ?_;(refine y_ ?_;refine q_ ?_;refine Sb.eq ?_;simp at*;simp [qC, *])
 refine y_ ?_;refine k_ (fun h6=>?_) fun h6=>?_
 ·refine y_ ?_;refine n_ (ZC 0 a z0 ha) ?_;(refine y_ ?_;refine q_ ?_;refine Sb.eq ?_;simp at*;simp [qC, *])
 refine y_ ?_;refine k_ (fun h7=>?_) fun h7=>?_
 ·refine y_ ?_;refine q_ ?_;refine Sb.eq ?_;simp at h1 h2 h3 h4 h5 h6 h7;subst h7;rfl
 refine y_ ?_;refine k_ (fun h8=>?_) fun h8=>?_
 ·refine y_ ?_;refine q_ ?_;refine Sb.eq ?_;simp at h8;subst h8;rfl
 refine y_ ?_;refine k_ (fun h9=>?_) fun h9=>?_
 ·refine y_ ?_;refine q_ ?_;refine Sb.eq ?_;simp at h9;subst h9;rfl
 (refine y_ ?_;refine q_ ?_;refine Sb.eq ?_;simp at*;simp [qC, *])
theorem HS(n:Nat):BitVec.ofInt 32 (IntKind.i32.wrap (n:Int))=BitVec.ofNat 32 n:=by apply BitVec.eq_of_toInt_eq;rw [BitVec.toInt_ofInt,BitVec.toInt_ofNat',gH];rw [Int.bmod_def,Int.bmod_def];simp only [show ((2^32:Nat):Int)=4294967296 by decide];split<;>split<;>omega
theorem AL{x:BitVec 32}(h:IntKind.i32.wrap (x.toNat:Int)=0):x=0:=by have hx:=x.isLt;rw [gH] at h;apply BitVec.eq_of_toNat_eq;simp only [BitVec.ofNat_eq_ofNat,BitVec.toNat_ofNat];omega
theorem uN{x:BitVec 32}(h:x&&& ~~~(1#32)=0):x.toNat<2:=by
 have key:x>>>1=0#32:=by
  apply BitVec.eq_of_getLsbD_eq;intro i hi;have h1:(x&&& ~~~(1#32)).getLsbD (1+i)=false:=by rw [h];simp
  rw [BitVec.getLsbD_and,BitVec.getLsbD_not] at h1;rw [BitVec.getLsbD_ushiftRight]
  by_cases h32:1+i<32
  ·have h2:(1#32).getLsbD (1+i)=false:=by
    rw [BitVec.getLsbD_ofNat];have:(1:Nat).testBit (1+i)=false:=by rw [an5];simp;rw [Nat.div_eq_of_lt (Nat.one_lt_two_pow (by omega))]
    simp [this]
   simp [h2,h32] at h1;rw [BitVec.getLsbD_eq_getElem h32,h1];simp
  ·have:=BitVec.getLsbD_of_ge x (1+i) (by omega);simp [this]
 have h2:=congrArg BitVec.toNat key;simp [BitVec.toNat_ushiftRight,Nat.shiftRight_eq_div_pow] at h2;omega
theorem or_zero{x y z:BitVec 32}(h:(x|||y)&&&z=0):x&&&z=0/\y&&&z=0:=by
 have key: ∀i,((x|||y)&&&z).getLsbD i=false:=fun i=>by rw [h];simp
 constructor<;>(apply BitVec.eq_of_getLsbD_eq;intro i hi;have:=key i;simp only [BitVec.getLsbD_and,BitVec.getLsbD_or] at this⊢;revert this;cases x.getLsbD i<;>cases y.getLsbD i<;>cases z.getLsbD i<;>simp)
theorem MY{a:Int}(ha:i32 a)(h:(BitVec.ofInt 32 a).toNat<2):mH a=true:=by unfold i32 at ha;rw [BitVec.toNat_ofInt] at h;simp only [show ((2^32:Nat):Int)=4294967296 by decide] at h;simp [mH];omega
theorem KO{a b:Int}(ha:i32 a)(hb:i32 b):uG (UU a b)= !(mH a&&mH b):=by
 by_cases h:(mH a&&mH b)=true
 ·simp [mH] at h;obtain ⟨h1|h1,h2|h2⟩:=h<;>subst h1<;>subst h2<;>decide
 ·have h':(mH a&&mH b)=false:=by simpa using h
  rw [h'];simp only [aq9];unfold uG;rw [bne_iff_ne];intro hz;apply h;unfold UU at hz;simp only [bitsOf] at hz;have hz:=AL hz;simp only [ak8] at hz;rw [HS] at hz;rw [BitVec.ofNat_toNat,BitVec.setWidth_eq] at hz;have hone:BitVec.ofInt 32 1=1#32:=by decide
  rw [hone] at hz;obtain ⟨hA,hB⟩:=or_zero hz;simp [MY ha (uN hA),MY hb (uN hB)]
theorem SQ{a:Int}(ha:i32 a):uG a= !mH a:=by
 by_cases h:mH a=true
 ·simp [mH] at h;rcases h with h|h<;>subst h<;>decide
 ·have h':mH a=false:=by simpa using h
  rw [h'];simp only [aq9];unfold uG;rw [bne_iff_ne];intro hz;apply h;simp only [bitsOf] at hz;have hz:=AL hz;simp only [ak8] at hz;have hone:BitVec.ofInt 32 1=1#32:=by decide
  rw [hone] at hz;exact MY ha (uN hz)
theorem OY{n:Int}(h:pF n=true):kD n=n:=by simp [pF] at h;unfold kD;rw [gH];omega
theorem NK{o a b:Int}(ha:i32 a)(hb:i32 b)(h:o<6\/19<o/\o≠22/\o≠24/\o≠25):gN o a b=if (qC o a b).2 then some (qC o a b).1 else none:=by
 have fx: ∀n,rX n=if pF n then some (kD n) else none:=fun n=>by
  unfold rX;split
  ·rename_i h;rw [OY h]
  ·rfl
 by_cases h1:o=1
 ·subst h1;exact fx _
 by_cases h2:o=2
 ·subst h2;exact fx _
 by_cases h3:o=3
 ·subst h3;exact fx _
 by_cases h4:o=4
 ·subst h4;show (if nS a b then none else some (a.tdiv b))=if (!nS a b) then some (xY a b) else none;unfold xY;cases nS a b<;>rfl
 by_cases h5:o=5
 ·subst h5;show (if b=0 then none else some (a.tmod b))=if (!(b==0)) then some (AU a b) else none;unfold AU;by_cases hb:b=0<;>simp [hb]
 by_cases h6:o=20
 ·subst h6;show (if mH a&&mH b then some (fA (a==1&&b==1)) else none)=if (!uG (UU a b)) then some (UO a b) else none;rw [KO ha hb,au8];split
  ·rename_i h;simp [mH] at h;obtain ⟨q1|q1,q2|q2⟩:=h<;>subst q1<;>subst q2<;>decide
  ·rfl
 by_cases h7:o=21
 ·subst h7;show (if mH a&&mH b then some (fA (a==1||b==1)) else none)=if (!uG (UU a b)) then some (UU a b) else none;rw [KO ha hb,au8];split
  ·rename_i h;simp [mH] at h;obtain ⟨q1|q1,q2|q2⟩:=h<;>subst q1<;>subst q2<;>decide
  ·rfl
 by_cases h8:o=23
 ·subst h8;exact fx _
 by_cases h9:o=26
 ·subst h9;show (if mH a then some (fA (a==0)) else none)=if (!uG a) then some (kD (1-a)) else none;rw [SQ ha,au8];split
  ·rename_i h;simp [mH] at h;rcases h with q1|q1<;>subst q1<;>decide
  ·rfl
 have e1:gN o a b=none:=by unfold gN;repeat rw [iF (by omega)]
 have e2:qC o a b=(0,false):=by unfold qC;repeat rw [iF (by omega)]
 rw [e1,e2];rfl
theorem OI(o a b:Int)(ha:i32 a)(hb:i32 b):Pure prog aU 130 [cC o,aN a,aN b] (jT (gN o a b)):=by
 rcases LH o a b ha hb with ⟨f,caps,r,h1,h2,h3⟩|⟨h1,h2⟩
 ·refine P_ func130 29 fun _ _ _ _=>?_;refine y_ ?_;refine c_ (h1▸QU o) ?_;refine c_ h3 ?_;refine q_ ?_;rw [h2];exact .refl
 ·have e:=NK ha hb h2;refine P_ func130 29 fun _ _ _ _=>?_;refine y_ ?_;refine c_ (h1▸QU o) ?_;refine c_ (SR o a b ha hb) ?_;refine k_ (fun hc=>?_) fun hc=>?_
  ·refine y_ ?_;refine q_ ?_;simp at hc;rw [e,hc];exact .refl
  ·refine y_ ?_;refine q_ ?_;simp at hc;rw [e,hc];exact .refl
theorem oY(t:Int)(ht:i64 t):Pure prog aU 168 [AI t] (aN (kD t)):=by
 unfold i64 at ht;have hm:t.tmod 4294967296=if 0<=t then t % 4294967296 else-((-t) % 4294967296):=by
  split
  ·rename_i h;exact ap7 h
  ·rename_i h;have:t= -(-t):=by omega
   rw [this,Int.neg_tmod,ap7 (by omega)];simp
 refine P_ func168 15 fun _ _ _ _=>?_;refine y_ ?_;refine A.bg T T T T T T T (by decide) ?_;refine y_ ?_;have hv: -4294967296<t.tmod 4294967296/\t.tmod 4294967296<4294967296:=by rw [hm];split<;>omega
 have e1:IntKind.i64.wrap (t.tmod 4294967296+4294967296)=t.tmod 4294967296+4294967296:=fR _ (by omega);refine k_ (fun hc=>?_) fun hc=>?_
 ·simp [AM] at hc;refine y_ ?_;refine k_ (fun hd=>?_) fun hd=>?_
  ·simp [AM] at hd;refine y_ ?_;refine R_ ?_;refine Sb.eq (mV ?_);show IntKind.i32.wrap (IntKind.i64.wrap (IntKind.i64.wrap (t.tmod 4294967296+4294967296)-4294967296))=kD t;rw [e1,fR _ (by omega)];unfold kD;rw [gH,gH,hm];split<;>omega
  ·refine y_ ?_;refine R_ ?_;refine Sb.eq (mV ?_);show IntKind.i32.wrap (IntKind.i64.wrap (t.tmod 4294967296+4294967296))=kD t;rw [e1];unfold kD;rw [gH,gH,hm];split<;>omega
 ·simp [AM] at hc;refine y_ ?_;refine k_ (fun hd=>?_) fun hd=>?_
  ·simp [AM] at hd;refine y_ ?_;refine R_ ?_;refine Sb.eq (mV ?_);show IntKind.i32.wrap (IntKind.i64.wrap (t.tmod 4294967296-4294967296))=kD t;rw [fR _ (by omega)];unfold kD;rw [gH,gH,hm];split<;>omega
  ·refine y_ ?_;refine R_ ?_;refine Sb.eq (mV ?_);show IntKind.i32.wrap (t.tmod 4294967296)=kD t;unfold kD;rw [gH,gH,hm];split<;>omega
theorem w6(t:Int):Pure prog aU 209 [AI t] (AB (pF t)):=by refine P_ func209 9 fun _ _ _ _=>?_;refine g_ ?_;refine R_ ?_;refine Sb.eq (gE ?_);simp [pF]
theorem BF(v:Int)(hv:i32 v):Pure prog aU 210 [aN v] (AI v.natAbs):=by
 refine P_ func210 10 fun _ _ _ _=>?_;refine y_ ?_;refine k_ (fun hc=>?_) fun hc=>?_
 ·simp at hc;refine y_ ?_;refine R_ ?_;refine Sb.eq (aL ?_);rw [dR hv,fR _ (by unfold i32 at hv;omega)];omega
 ·simp at hc;refine y_ ?_;refine R_ ?_;refine Sb.eq (aL ?_);rw [dR hv];omega
theorem D2(v:Int)(hv:i32 v):Pure prog aU 211 [aN v] (AI (pP v)):=by
 refine P_ func211 10 fun _ _ _ _=>?_;refine y_ ?_;refine k_ (fun hc=>?_) fun hc=>?_
 ·simp at hc;refine y_ ?_;refine R_ ?_;refine Sb.eq (aL ?_);rw [dR hv,fR _ (by unfold i32 at hv;omega)];simp [pP,hc]
 ·simp at hc;refine y_ ?_;refine R_ ?_;refine Sb.eq (aL ?_);rw [dR hv];simp [pP];omega
theorem YR(a b:Int):a.tdiv b=if decide (a<0) !=decide (b<0) then-((a.natAbs / b.natAbs:Nat):Int) else ((a.natAbs / b.natAbs:Nat):Int):=by
 rcases au6 a with ha|ha<;>rcases au6 b with hb|hb
 ·have h1: ¬a<0:=by omega
  have h2: ¬b<0:=by omega
  simp only [h1,h2,decide_false,bne_self_eq_false,Bool.false_eq_true,if_false]
  conv=>lhs;rw [ha,hb]
  rfl
 ·have h1: ¬a<0:=by omega
  conv=>lhs;rw [ha,hb,Int.tdiv_neg]
  by_cases h2:b<0
  ·simp [h1,h2]<;>rfl
  ·have:b.natAbs=0:=by omega
   simp [this]
 ·have h2: ¬b<0:=by omega
  conv=>lhs;rw [ha,hb,Int.neg_tdiv]
  by_cases h1:a<0
  ·simp [h1,h2]<;>rfl
  ·have:a.natAbs=0:=by omega
   simp [this]
 ·conv=>lhs;rw [ha,hb,Int.neg_tdiv,Int.tdiv_neg,Int.neg_neg]
  by_cases h1:a<0
  ·by_cases h2:b<0
   ·simp [h1,h2]<;>rfl
   ·have:b.natAbs=0:=by omega
    simp [this]
  ·have:a.natAbs=0:=by omega
   simp [this]
theorem YV(a b:Int):a.tmod b=if a<0 then-((a.natAbs % b.natAbs:Nat):Int) else ((a.natAbs % b.natAbs:Nat):Int):=by
 have hb:a.tmod b=a.tmod b.natAbs:=by rcases au6 b with hb|hb<;>(conv=>lhs;rw [hb])<;>simp [Int.tmod_neg]
 rw [hb];split
 ·have ha:a= -(a.natAbs:Int):=by omega
  conv=>lhs;rw [ha,Int.neg_tmod]
  rfl
 ·have ha:a=(a.natAbs:Int):=by omega
  conv=>lhs;rw [ha]
  rfl
theorem q_le{a:Int}(ha:i32 a)(n:Nat):a.natAbs / n<=2147483648:=ae9 (Nat.div_le_self _ _) (by unfold i32 at ha;omega)
theorem RP{a b:Int}(ha:i32 a)(hb:b≠0):pF (a.tdiv b)= !nS a b/\(nS a b=false->IntKind.i32.wrap (a.tdiv b)=a.tdiv b):=by
 by_cases h:nS a b=true
 ·rw [h];simp [nS,hb] at h;obtain ⟨rfl,rfl⟩:=h;exact ⟨by decide,fun h=>by cases h⟩
 ·have h:nS a b=false:=by simpa using h
  have hi:=IF ha h;rw [h];refine ⟨?_,fun _=>ED hi⟩;unfold i32 at hi;simp [pF];omega
theorem rdiv_p(a b:Int)(ha:i32 a)(hb:i32 b):Pure prog aU 166 [aN a,aN b] (.tp [aN (xY a b),AB (nS a b)]):=by
 refine P_ func166 26 fun _ _ _ _=>?_;refine y_ ?_;refine k_ (fun hc=>?_) fun hc=>?_
 ·simp at hc;refine y_ ?_;refine q_ ?_;refine Sb.eq ?_;simp [xY,nS,hc]
 ·simp at hc;obtain ⟨q,hqq⟩: ∃q,q=a.natAbs / b.natAbs:=⟨_,rfl⟩;have hq:q<=2147483648:=by rw [hqq];exact q_le ha b.natAbs
  have hab:((a.natAbs:Int).tdiv (b.natAbs:Int))=(q:Int):=by rw [hqq];rfl
  have hT:a.tdiv b=if decide (a<0) !=decide (b<0) then-(q:Int) else (q:Int):=by rw [hqq];exact YR a b
  have hd:=RP ha hc;refine y_ ?_;refine c_ (BF a ha) ?_;refine n_ (BF b hb) ?_;refine A.bg T T T T T T T (by omega) ?_;refine y_ ?_;have e1:AM .quo .i64 (a.natAbs:Int) (b.natAbs:Int)=(q:Int):=by show IntKind.i64.wrap ((a.natAbs:Int).tdiv (b.natAbs:Int))=_;rw [hab,fR _ (by omega)]
  refine k_ (fun h1=>?_) fun h1=>?_
  ·have e2:IntKind.i64.wrap (0-AM .quo .i64 (a.natAbs:Int) (b.natAbs:Int))=a.tdiv b:=by
    rw [e1,fR _ (by omega),hT,iT (by simpa using h1)];omega
   refine y_ ?_;refine c_ (w6 _) ?_;refine k_ (fun h2=>?_) fun h2=>?_
   ·rw [e2,hd.1] at h2;simp at h2;refine y_ ?_;refine q_ ?_;refine Sb.eq ?_;simp [xY,h2]
   ·rw [e2,hd.1] at h2;simp at h2;refine y_ ?_;refine q_ ?_;refine Sb.eq ?_;show AV.tp [aN (IntKind.i32.wrap (IntKind.i64.wrap (0-AM .quo .i64 (a.natAbs:Int) (b.natAbs:Int)))),AB false]=_;rw [e2,hd.2 h2];simp [xY,h2]
  ·have e2:AM .quo .i64 (a.natAbs:Int) (b.natAbs:Int)=a.tdiv b:=by
    rw [e1,hT,iF (by simpa using h1)]
   refine y_ ?_;refine c_ (w6 _) ?_;refine k_ (fun h2=>?_) fun h2=>?_
   ·rw [e2,hd.1] at h2;simp at h2;refine y_ ?_;refine q_ ?_;refine Sb.eq ?_;simp [xY,h2]
   ·rw [e2,hd.1] at h2;simp at h2;refine y_ ?_;refine q_ ?_;refine Sb.eq ?_;show AV.tp [aN (IntKind.i32.wrap (AM .quo .i64 (a.natAbs:Int) (b.natAbs:Int))),AB false]=_;rw [e2,hd.2 h2];simp [xY,h2]
theorem rrem_p(a b:Int)(ha:i32 a)(hb:i32 b):Pure prog aU 167 [aN a,aN b] (.tp [aN (AU a b),AB (b==0)]):=by
 refine P_ func167 20 fun _ _ _ _=>?_;refine y_ ?_;refine k_ (fun hc=>?_) fun hc=>?_
 ·simp at hc;refine y_ ?_;refine q_ ?_;refine Sb.eq ?_;simp [AU,hc]
 ·simp at hc;obtain ⟨q,hqq⟩: ∃q,q=a.natAbs % b.natAbs:=⟨_,rfl⟩;have hr:q<=2147483648:=by rw [hqq];exact ae9 (Nat.mod_le _ _) (by unfold i32 at ha;omega)
  have hlt:q<b.natAbs:=by rw [hqq];exact Nat.mod_lt _ (by omega)
  have hab:((a.natAbs:Int).tmod (b.natAbs:Int))=(q:Int):=by rw [hqq];rfl
  have hT:a.tmod b=if a<0 then-(q:Int) else (q:Int):=by rw [hqq];exact YV a b
  have hin:i32 (a.tmod b):=by unfold i32 at hb⊢;rw [hT];split<;>omega
  refine y_ ?_;refine c_ (BF a ha) ?_;refine n_ (BF b hb) ?_;refine A.bg T T T T T T T (by omega) ?_;refine y_ ?_;refine k_ (fun h1=>?_) fun h1=>?_
  ·simp at h1;refine y_ ?_;refine q_ ?_;refine Sb.eq ?_;show AV.tp [aN (IntKind.i32.wrap (IntKind.i64.wrap (0-(a.natAbs:Int).tmod (b.natAbs:Int)))),AB false]=_;have:IntKind.i64.wrap (0-(a.natAbs:Int).tmod (b.natAbs:Int))=a.tmod b:=by rw [hab,fR _ (by omega),hT,iT h1];omega
   rw [this,ED hin];simp [AU,hc]
  ·simp at h1;refine y_ ?_;refine q_ ?_;refine Sb.eq ?_;show AV.tp [aN (IntKind.i32.wrap ((a.natAbs:Int).tmod (b.natAbs:Int))),AB false]=_;have:(a.natAbs:Int).tmod (b.natAbs:Int)=a.tmod b:=by rw [hab,hT,iF (by omega)]
   rw [this,ED hin];simp [AU,hc]
theorem rmul_p(a b:Int)(ha:i32 a)(hb:i32 b):Pure prog aU 169 [aN a,aN b] (.tp [aN (kD (a*b)),AB (!pF (a*b))]):=by
 have h:=yO ha hb;refine P_ func169 17 fun _ _ _ _=>?_;refine y_ ?_;have e1:IntKind.i64.wrap (IntKind.i64.wrap a*IntKind.i64.wrap b)=a*b:=by rw [dR ha,dR hb,mR h]
 refine A.aa 12 T (x':=AI (a*b)) (aL e1) ?_;refine c_ (oY _ h) ?_;refine A.aa 14 T (x':=AI (a*b)) (aL e1) ?_;refine c_ (w6 _) ?_;refine q_ ?_;exact .refl
theorem rsub_p(a b:Int)(ha:i32 a)(hb:i32 b):Pure prog aU 213 [aN a,aN b] (.tp [aN (kD (a-b)),AB (!pF (a-b))]):=by
 have h:i64 (a-b):=by unfold i32 at ha hb;unfold i64;omega
 refine P_ func213 17 fun _ _ _ _=>?_;have e1:IntKind.i64.wrap (IntKind.i64.wrap a-IntKind.i64.wrap b)=a-b:=by rw [dR ha,dR hb,mR h]
 refine y_ ?_;refine A.aa 12 T (x':=AI (a-b)) (aL e1) ?_;refine c_ (oY _ h) ?_;refine A.aa 14 T (x':=AI (a-b)) (aL e1) ?_;refine c_ (w6 _) ?_;refine q_ ?_;exact .refl
theorem XT(a b:Int)(ha:i32 a)(hb:i32 b):Pure prog aU 174 [aN a,aN b] (AB (decide (0<kD (a-b)))):=by refine P_ func174 15 fun _ _ _ _=>?_;refine y_ ?_;exact oR (rsub_p a b ha hb)
theorem w64_w32(n:Int):IntKind.i64.wrap (kD n)=kD n:=dR (pO n)
theorem w32_mul(x y:Int):kD (kD x*y)=kD (x*y):=by
 unfold kD;have h:IntKind.i32.wrap x=x-4294967296*((x+2147483648) / 4294967296):=by rw [gH];omega
 rw [h,Int.sub_mul,Int.mul_assoc,gH,gH];generalize (x+2147483648) / 4294967296*y=z;omega
theorem rshl_p(a n:Int)(ha:i32 a)(hn:i32 n):Pure prog aU 171 [aN a,aN n] (aN (NY a n)):=by
 have hun:=sT hn;refine P_ func171 23 fun _ _ _ _=>?_;refine y_ ?_;refine A.aa 5 T (x':=aN (kD (a*2^0))) (by rw [show a*2^0=a by simp];unfold kD;rw [ED ha]) ?_;refine A.af [1,5,6] T ?_;refine A.ae (ι:=Nat) (fun i=>(⟨[(1,aN n),(5,aN (kD (a*2^i))),(6,AI (i:Int))],[]⟩,[])) (fun i=>i<=32/\(i:Int)<=pP n) (fun i=>32-i) 0 ⟨by omega,by simpa using hun.1⟩ T fun i hi ih=>?_;refine y_ ?_;refine n_ (D2 n hn) ?_;refine g_ ?_;refine k_ (fun hc=>?_) fun hc=>?_
 ·simp at hc;refine y_ ?_;have hw:i64 (2*kD (a*2^i)):=by have:=pO (a*2^i);unfold i32 at this;unfold kD i64;omega
  have e1:IntKind.i64.wrap (2*IntKind.i64.wrap (kD (a*2^i)))=2*kD (a*2^i):=by rw [w64_w32,mR hw]
  refine A.aa 20 T (x':=AI (2*kD (a*2^i))) (aL e1) ?_;refine c_ (oY _ hw) ?_;refine A.aa 5 T (x':=aN (kD (a*2^(i+1)))) (mV ?_) ?_
  ·rw [Int.mul_comm,w32_mul];congr 1;rw [au9,Int.mul_assoc]
  refine vI 6 i ?_;refine u_ (ih (i+1) ⟨by omega,by omega⟩ (by omega))
 ·simp at hc;refine y_ ?_;refine R_ ?_;refine Sb.eq (mV ?_);unfold NY;split
  ·rename_i h;have hi32:i=32:=by omega
   subst hi32;unfold kD;rw [gH,show (2:Int)^32=4294967296 by decide];omega
  ·rename_i h;obtain ⟨h1,h2,h3⟩:=tN hn h;have:i=n.toNat:=by omega
   rw [this]
theorem rshr_p(a n:Int)(ha:i32 a)(hn:i32 n):Pure prog aU 172 [aN a,aN n] (aN (TD a n)):=by
 have hun:=sT hn;have hua:=sT ha;have hdiv: ∀i:Nat,0<=pP a / 2^i/\pP a / 2^i<4294967296:=fun i=>by have hp:(0:Int)<2^i:=ao3 (by decide);refine ⟨Int.ediv_nonneg hua.1 (aq4 hp),?_⟩;have:pP a / 2^i<=pP a:=Int.ediv_le_self _ hua.1;omega
 refine P_ func172 23 fun _ _ _ _=>?_;refine y_ ?_;refine c_ (D2 a ha) ?_;refine A.aa 5 T (x':=AI (pP a / 2^0)) (by simp) ?_;refine A.af [1,5,6] T ?_;refine A.ae (ι:=Nat) (fun i=>(⟨[(1,aN n),(5,AI (pP a / 2^i)),(6,AI (i:Int))],[]⟩,[])) (fun i=>i<=32/\(i:Int)<=pP n) (fun i=>32-i) 0 ⟨by omega,by simpa using hun.1⟩ T fun i hi ih=>?_;refine y_ ?_;refine n_ (D2 n hn) ?_;refine g_ ?_;have hdi:=hdiv i;refine k_ (fun hc=>?_) fun hc=>?_
 ·simp at hc;refine y_ ?_;refine A.bg T T T T T T T (by decide) ?_;refine y_ ?_;refine A.aa 5 T (x':=AI (pP a / 2^(i+1))) (aL ?_) ?_
  ·show IntKind.i64.wrap ((pP a / 2^i).tdiv 2)=_;rw [Int.tdiv_eq_ediv_of_nonneg hdi.1,fR _ (by omega),Int.ediv_ediv_of_nonneg (aq4 (ao3 (by decide))),au9]
  refine vI 6 i ?_;refine u_ (ih (i+1) ⟨by omega,by omega⟩ (by omega))
 ·simp at hc;refine y_ ?_;refine c_ (oY (pP a / 2^i) (by unfold i64;omega)) ?_;refine R_ ?_;refine Sb.eq (mV ?_);unfold TD;split
  ·rename_i h;have hi32:i=32:=by omega
   subst hi32;have:pP a / 2^32=0:=by rw [show (2:Int)^32=4294967296 by decide];omega
   rw [this];decide
  ·rename_i h;obtain ⟨h1,h2,h3⟩:=tN hn h;have:i=n.toNat:=by omega
   rw [this]
def lO(o x y:Int):Int:=if o=9 then x*y else if o=10 then x+y-x*y else if o=11 then (x+y) % 2 else 1-x
def zL(x:Int):Prop:=x=0\/x=1
theorem OL(o:Int){x y:Int}(hx:zL x)(hy:zL y):zL (lO o x y):=by rcases hx with rfl|rfl<;>rcases hy with rfl|rfl<;>unfold lO zL<;>(repeat' split)<;>simp
theorem bit_p(o x y:Int)(hx:zL x)(hy:zL y):Pure prog aU 212 [cC o,AI x,AI y] (AI (lO o x y)):=by
 rcases hx with rfl|rfl<;>rcases hy with rfl|rfl
 ·refine P_ func212 30 fun _ _ _ _=>?_
  (refine y_ ?_;refine k_ (fun h1=>?_) fun h1=>?_;(· (refine y_ ?_;refine R_ ?_;refine Sb.eq (aL ?_);simp at*;simp [lO, *];try decide));refine y_ ?_;refine k_ (fun h2=>?_) fun h2=>?_;(· (refine y_ ?_;refine R_ ?_;refine Sb.eq (aL ?_);simp at*;simp [lO, *];try decide));refine y_ ?_;refine k_ (fun h3=>?_) fun h3=>?_;(· (refine y_ ?_;refine A.bg T T T T T T T (by decide) ?_;(refine y_ ?_;refine R_ ?_;refine Sb.eq (aL ?_);simp at*;simp [lO, *];try decide)));(refine y_ ?_;refine R_ ?_;refine Sb.eq (aL ?_);simp at*;simp [lO, *];try decide))
 ·refine P_ func212 30 fun _ _ _ _=>?_
  (refine y_ ?_;refine k_ (fun h1=>?_) fun h1=>?_;(· (refine y_ ?_;refine R_ ?_;refine Sb.eq (aL ?_);simp at*;simp [lO, *];try decide));refine y_ ?_;refine k_ (fun h2=>?_) fun h2=>?_;(· (refine y_ ?_;refine R_ ?_;refine Sb.eq (aL ?_);simp at*;simp [lO, *];try decide));refine y_ ?_;refine k_ (fun h3=>?_) fun h3=>?_;(· (refine y_ ?_;refine A.bg T T T T T T T (by decide) ?_;(refine y_ ?_;refine R_ ?_;refine Sb.eq (aL ?_);simp at*;simp [lO, *];try decide)));(refine y_ ?_;refine R_ ?_;refine Sb.eq (aL ?_);simp at*;simp [lO, *];try decide))
 ·refine P_ func212 30 fun _ _ _ _=>?_
  (refine y_ ?_;refine k_ (fun h1=>?_) fun h1=>?_;(· (refine y_ ?_;refine R_ ?_;refine Sb.eq (aL ?_);simp at*;simp [lO, *];try decide));refine y_ ?_;refine k_ (fun h2=>?_) fun h2=>?_;(· (refine y_ ?_;refine R_ ?_;refine Sb.eq (aL ?_);simp at*;simp [lO, *];try decide));refine y_ ?_;refine k_ (fun h3=>?_) fun h3=>?_;(· (refine y_ ?_;refine A.bg T T T T T T T (by decide) ?_;(refine y_ ?_;refine R_ ?_;refine Sb.eq (aL ?_);simp at*;simp [lO, *];try decide)));(refine y_ ?_;refine R_ ?_;refine Sb.eq (aL ?_);simp at*;simp [lO, *];try decide))
 ·refine P_ func212 30 fun _ _ _ _=>?_
  (refine y_ ?_;refine k_ (fun h1=>?_) fun h1=>?_;(· (refine y_ ?_;refine R_ ?_;refine Sb.eq (aL ?_);simp at*;simp [lO, *];try decide));refine y_ ?_;refine k_ (fun h2=>?_) fun h2=>?_;(· (refine y_ ?_;refine R_ ?_;refine Sb.eq (aL ?_);simp at*;simp [lO, *];try decide));refine y_ ?_;refine k_ (fun h3=>?_) fun h3=>?_;(· (refine y_ ?_;refine A.bg T T T T T T T (by decide) ?_;(refine y_ ?_;refine R_ ?_;refine Sb.eq (aL ?_);simp at*;simp [lO, *];try decide)));(refine y_ ?_;refine R_ ?_;refine Sb.eq (aL ?_);simp at*;simp [lO, *];try decide))
def IV(a:Int)(i:Nat):Int:=pP a / 2^i % 2
theorem xV(a:Int)(i:Nat):zL (IV a i):=by unfold zL IV;omega
def qM(o a b:Int):Nat->Int
 |0=>0 |i+1=>qM o a b i+lO o (IV a i) (IV b i)*2^i
theorem A4(o a b:Int): ∀i,0<=qM o a b i/\qM o a b i<2^i
 |0=>by simp [qM] |i+1=>by have ih:=A4 o a b i;have hp:(0:Int)<2^i:=ao3 (by decide);rw [qM,au9];rcases OL o (xV a i) (xV b i) with h|h<;>rw [h]<;>omega
theorem sZ(o a b:Int)(ha:i32 a)(hb:i32 b):Pure prog aU 170 [cC o,aN a,aN b] (aN (kD (qM o a b 32))):=by
 have hua:=sT ha;have hub:=sT hb;have hsh: ∀(x:Int) (i:Nat),0<=x->x<4294967296->i<32->AM .rem .i64 (AM .shr .i64 x (i:Int)) 2=x / 2^i % 2:=fun x i h0 h1 h2=>by
  show ((x.fdiv (2^(min ((i:Int)).toNat IntKind.i64.bits))).tmod 2)=_;have hm:min ((i:Int)).toNat IntKind.i64.bits=i:=by simp [ak8];omega
  have hp:(0:Int)<=2^i:=aq4 (ao3 (by decide));rw [hm,ah8 _ hp,ap7 (Int.ediv_nonneg h0 hp)]
 refine P_ func170 35 fun w0 h0 F hgs=>?_;refine y_ ?_;refine c_ (D2 a ha) ?_;refine c_ (D2 b hb) ?_;refine A.af [0,7,8,9,10] T ?_;refine A.ae (ι:=Nat) (fun i=>(⟨[(0,cC o),(7,AI (pP a)),(8,AI (pP b)),(9,AI (qM o a b i)),(10,AI (i:Int))],[]⟩,[])) (fun i=>i<=32) (fun i=>32-i) 0 (by omega) T fun i hi ih=>?_;refine y_ ?_;refine k_ (fun hc=>?_) fun hc=>?_
 ·simp at hc;refine y_ ?_;refine d_ 13 [0,1,2,3,4,5,6,7,8,9,11,10,12] [(10,AI (lO o (IV a i) (IV b i)))] ?_;refine WA.shift T T T T T T T (by omega) ?_;refine WA.bg T T T T T T T T (by decide) ?_;refine w_ ?_;refine WA.shift T T T T T T T (by omega) ?_;refine WA.bg T T T T T T T T (by decide) ?_;refine w_ ?_;refine WA.aa 24 T (x':=AI (IV a i)) (aL (hsh _ i hua.1 hua.2 (by omega))) ?_;refine WA.aa 28 T (x':=AI (IV b i)) (aL (hsh _ i hub.1 hub.2 (by omega))) ?_;refine rL (bit_p o _ _ (xV a i) (xV b i)) ?_;refine WA.shift T T T T T T T (by omega) ?_;refine WA.nil T ?_;refine y_ ?_;have hbs:=A4 o a b i;have hbs':=A4 o a b (i+1);have hp:=QC (k:=i) (by omega);have hp1:=QC (k:=i+1) (by omega);refine A.aa 9 T (x':=AI (qM o a b (i+1))) (aL ?_) ?_
  ·show IntKind.i64.wrap (qM o a b i+IntKind.i64.wrap (lO o (IV a i) (IV b i)*2^(min ((i:Int)).toNat IntKind.i64.bits)))=_;have hm:min ((i:Int)).toNat IntKind.i64.bits=i:=by simp [ak8];omega
   rw [hm];have h0:0<=lO o (IV a i) (IV b i)*2^i/\lO o (IV a i) (IV b i)*2^i<=4294967296:=by have hp0:(0:Int)<2^i:=ao3 (by decide);rcases OL o (xV a i) (xV b i) with h|h<;>rw [h]<;>omega
   rw [fR (lO o (IV a i) (IV b i)*2^i) (by omega)];rw [qM] at hbs'⊢;rw [fR _ (by omega)]
  refine vI 10 i ?_;refine u_ (ih (i+1) (by omega) (by omega))
 ·simp at hc;have:i=32:=by omega
  subst this;have hbs:=A4 o a b 32;have hp:=QC (k:=32) (by omega);refine y_ ?_;exact oR (oY (qM o a b 32) (by unfold i64;omega))
theorem uns_bv{a:Int}(ha:i32 a):pP a=((BitVec.ofInt 32 a).toNat:Int):=by rw [BitVec.toNat_ofInt];unfold i32 at ha;simp only [show ((2^32:Nat):Int)=4294967296 by decide];unfold pP;split<;>omega
def ZE(b:Bool):Int:=if b then 1 else 0
theorem UP{a:Int}(ha:i32 a)(i:Nat):IV a i=ZE ((BitVec.ofInt 32 a).getLsbD i):=by
 unfold IV ZE;rw [uns_bv ha,BitVec.getLsbD,an5];generalize (BitVec.ofInt 32 a).toNat=x;have:(x:Int) / 2^i=((x / 2^i:Nat):Int):=by simp
 rw [this]
 by_cases h:x / 2^i % 2=1
 ·simp [h];omega
 ·simp [h];omega
theorem ON(o:Int)(f:Bool->Bool->Bool)(hf: ∀x y,lO o (ZE x) (ZE y)=ZE (f x y)){a b:Int}(ha:i32 a)(hb:i32 b)(z:BitVec 32)
 (hz: ∀i,i<32->z.getLsbD i=f ((BitVec.ofInt 32 a).getLsbD i) ((BitVec.ofInt 32 b).getLsbD i)): ∀i,i<=32->qM o a b i=((z.toNat % 2^i:Nat):Int)
 |0,_=>by simp [qM,Nat.mod_one] |i+1,hi=>by
  have ih:=ON o f hf ha hb z hz i (by omega);have h1:=hz i (by omega);rw [BitVec.getLsbD,an5] at h1;rw [qM,ih,UP ha,UP hb,hf,<-h1,Nat.mod_pow_succ];have h2:z.toNat / 2^i % 2=0\/z.toNat / 2^i % 2=1:=by omega
  rcases h2 with h2|h2
  ·simp [ZE,h2]
  ·simp [ZE,h2]
theorem A3(o:Int)(f:Bool->Bool->Bool)(hf: ∀x y,lO o (ZE x) (ZE y)=ZE (f x y)){a b:Int}(ha:i32 a)(hb:i32 b)(z:BitVec 32)
 (hz: ∀i,i<32->z.getLsbD i=f ((BitVec.ofInt 32 a).getLsbD i) ((BitVec.ofInt 32 b).getLsbD i)):kD (qM o a b 32)=IntKind.i32.wrap (z.toNat:Int):=by
 rw [ON o f hf ha hb z hz 32 (ab3 _),Nat.mod_eq_of_lt z.isLt];rfl
theorem ZO{a b:Int}(ha:i32 a)(hb:i32 b):kD (qM 9 a b 32)=UO a b:=
 A3 9 (· && ·) (by intro x y;cases x<;>cases y<;>decide) ha hb (BitVec.ofInt 32 a&&&BitVec.ofInt 32 b) (fun i _=>BitVec.getLsbD_and)
theorem bor_eq{a b:Int}(ha:i32 a)(hb:i32 b):kD (qM 10 a b 32)=UU a b:=
 A3 10 (· || ·) (by intro x y;cases x<;>cases y<;>decide) ha hb (BitVec.ofInt 32 a|||BitVec.ofInt 32 b) (fun i _=>BitVec.getLsbD_or)
theorem ZW{a b:Int}(ha:i32 a)(hb:i32 b):kD (qM 11 a b 32)=bxor a b:=
 A3 11 (fun x y=>x^^y) (by intro x y;cases x<;>cases y<;>decide) ha hb (BitVec.ofInt 32 a^^^BitVec.ofInt 32 b) (fun i _=>BitVec.getLsbD_xor)
theorem ZU{a b:Int}(ha:i32 a)(hb:i32 b):kD (qM 25 a b 32)=bnot a:=
 A3 25 (fun x _=> !x) (by intro x y;cases x<;>cases y<;>decide) ha hb (BitVec.ofInt 32 (-1)^^^BitVec.ofInt 32 a) (fun i hi=>by rw [BitVec.getLsbD_xor,show BitVec.ofInt 32 (-1)=BitVec.allOnes 32 by decide,BitVec.getLsbD_allOnes];simp [hi])
theorem OX(v:Int):Pure prog aU 164 [AI v] (jT (rX v)):=by
 refine P_ func164 9 fun _ _ _ _=>?_;refine y_ ?_;refine c_ (w6 _) ?_;refine k_ (fun hc=>?_) fun hc=>?_
 ·simp at hc;refine y_ ?_;refine q_ ?_;refine Sb.eq ?_;simp [rX,hc]
 ·simp at hc;refine y_ ?_;refine q_ ?_;refine Sb.eq ?_;show AV.tp [aN (kD v),AB true]=_;rw [OY hc];simp [rX,hc]
theorem D6(v:Int)(m:Bool):Pure prog aU 165 [aN v,AB m] (jT (if m then none else some v)):=by
 refine P_ func165 8 fun _ _ _ _=>?_;refine y_ ?_;refine k_ (fun hc=>?_) fun hc=>?_
 ·subst hc;refine y_ ?_;refine q_ ?_;exact .refl
 ·subst hc;refine y_ ?_;refine q_ ?_;exact .refl
theorem iG(b:Bool):Pure prog aU 173 [AB b] (jT (some (fA b))):=by
 refine P_ func173 5 fun _ _ _ _=>?_;refine y_ ?_;refine k_ (fun hc=>?_) fun hc=>?_
 ·subst hc;refine y_ ?_;refine q_ ?_;exact .refl
 ·subst hc;refine y_ ?_;refine q_ ?_;exact .refl
def uC(t v:Int):Option Int:=if t=1\/t=2/\0<=v/\v<=255\/t=3/\0<=v/\v<=1 then some v else none
theorem KX(o a b:Int)(ha:i32 a)(hb:i32 b):Pure prog aU 141 [cC o,aN a,aN b] (jT (gN o a b)):=by
 have hs:i64 (a+b):=by unfold i32 at ha hb;unfold i64;omega
 have hd:i64 (a-b):=by unfold i32 at ha hb;unfold i64;omega
 have hn:i64 (0-a):=by unfold i32 at ha;unfold i64;omega
 have hm:=yO ha hb;have es:IntKind.i64.wrap (IntKind.i64.wrap a+IntKind.i64.wrap b)=a+b:=by rw [dR ha,dR hb,mR hs]
 have ed:IntKind.i64.wrap (IntKind.i64.wrap a-IntKind.i64.wrap b)=a-b:=by rw [dR ha,dR hb,mR hd]
 have em:IntKind.i64.wrap (IntKind.i64.wrap a*IntKind.i64.wrap b)=a*b:=by rw [dR ha,dR hb,mR hm]
 have en:IntKind.i64.wrap (0-IntKind.i64.wrap a)=0-a:=by rw [dR ha,mR hn]
 by_cases h:o=1
 ·subst h;refine P_ func141 229 fun _ _ _ _=>?_;refine g_ ?_;refine c_ (OX _) ?_;refine q_ ?_;rw [es];exact .refl
 by_cases h:o=2
 ·subst h;refine P_ func141 229 fun _ _ _ _=>?_;refine g_ ?_;refine c_ (OX _) ?_;refine q_ ?_;rw [ed];exact .refl
 by_cases h:o=3
 ·subst h;refine P_ func141 229 fun _ _ _ _=>?_;refine g_ ?_;refine c_ (OX _) ?_;refine q_ ?_;rw [em];exact .refl
 by_cases h:o=4
 ·subst h;refine P_ func141 229 fun _ _ _ _=>?_;refine g_ ?_;refine c_ (rdiv_p a b ha hb) ?_;refine c_ (D6 _ _) ?_;refine q_ ?_;refine Sb.eq ?_;show jT _=jT (if nS a b then none else some (a.tdiv b));unfold xY;cases nS a b<;>rfl
 by_cases h:o=5
 ·subst h;refine P_ func141 229 fun _ _ _ _=>?_;refine g_ ?_;refine c_ (rrem_p a b ha hb) ?_;refine c_ (D6 _ _) ?_;refine q_ ?_;refine Sb.eq ?_;show jT _=jT (if b=0 then none else some (a.tmod b));unfold AU;by_cases h:b=0<;>simp [h]
 by_cases h:o=6
 ·subst h;refine P_ func141 229 fun _ _ _ _=>?_;refine g_ ?_;refine A.aa 82 T (x':=AI (a+b)) (aL es) ?_;refine n_ (oY _ hs) ?_;(refine y_ ?_;refine q_ ?_;exact .refl)
 by_cases h:o=7
 ·subst h;refine P_ func141 229 fun _ _ _ _=>?_;refine g_ ?_;refine A.aa 90 T (x':=AI (a-b)) (aL ed) ?_;refine n_ (oY _ hd) ?_;(refine y_ ?_;refine q_ ?_;exact .refl)
 by_cases h:o=8
 ·subst h;refine P_ func141 229 fun _ _ _ _=>?_;refine g_ ?_;refine n_ (rmul_p a b ha hb) ?_;(refine y_ ?_;refine q_ ?_;exact .refl)
 by_cases h:o=9
 ·subst h;refine P_ func141 229 fun _ _ _ _=>?_;refine g_ ?_;refine c_ (sZ 9 a b ha hb) ?_;refine q_ ?_;rw [ZO ha hb];exact .refl
 by_cases h:o=10
 ·subst h;refine P_ func141 229 fun _ _ _ _=>?_;refine g_ ?_;refine c_ (sZ 10 a b ha hb) ?_;refine q_ ?_;rw [bor_eq ha hb];exact .refl
 by_cases h:o=11
 ·subst h;refine P_ func141 229 fun _ _ _ _=>?_;refine g_ ?_;refine c_ (sZ 11 a b ha hb) ?_;refine q_ ?_;rw [ZW ha hb];exact .refl
 by_cases h:o=25
 ·subst h;refine P_ func141 229 fun _ _ _ _=>?_;refine g_ ?_;refine c_ (sZ 25 a b ha hb) ?_;refine q_ ?_;rw [ZU ha hb];exact .refl
 by_cases h:o=12
 ·subst h;refine P_ func141 229 fun _ _ _ _=>?_;refine g_ ?_;refine n_ (rshl_p a b ha hb) ?_;(refine y_ ?_;refine q_ ?_;exact .refl)
 by_cases h:o=13
 ·subst h;refine P_ func141 229 fun _ _ _ _=>?_;refine g_ ?_;refine n_ (rshr_p a b ha hb) ?_;(refine y_ ?_;refine q_ ?_;exact .refl)
 by_cases h:o=14
 ·subst h;refine P_ func141 229 fun _ _ _ _=>?_;refine g_ ?_;refine n_ (iG _) ?_;(refine y_ ?_;refine q_ ?_;exact .refl)
 by_cases h:o=15
 ·subst h;refine P_ func141 229 fun _ _ _ _=>?_;refine g_ ?_;refine n_ (iG _) ?_;(refine y_ ?_;refine q_ ?_;exact .refl)
 by_cases h:o=16
 ·subst h;refine P_ func141 229 fun _ _ _ _=>?_;refine g_ ?_;refine n_ (iG _) ?_;(refine y_ ?_;refine q_ ?_;exact .refl)
 by_cases h:o=17
 ·subst h;refine P_ func141 229 fun _ _ _ _=>?_;refine g_ ?_;refine n_ (iG _) ?_;(refine y_ ?_;refine q_ ?_;exact .refl)
 by_cases h:o=18
 ·subst h;refine P_ func141 229 fun _ _ _ _=>?_;refine g_ ?_;refine n_ (iG _) ?_;(refine y_ ?_;refine q_ ?_;exact .refl)
 by_cases h:o=19
 ·subst h;refine P_ func141 229 fun _ _ _ _=>?_;refine g_ ?_;refine n_ (iG _) ?_;(refine y_ ?_;refine q_ ?_;exact .refl)
 by_cases h:o=20
 ·subst h;refine P_ func141 229 fun _ _ _ _=>?_;refine g_ ?_;refine k_ (fun hc=>?_) fun hc=>?_
  ·refine y_ ?_;refine q_ ?_;refine Sb.eq ?_;have:(mH a&&mH b)=false:=by simp at hc;simp [mH];omega
   show _=jT (if mH a&&mH b then _ else none);rw [this];rfl
  ·have:(mH a&&mH b)=true:=by simp at hc;simp [mH];omega
   refine g_ ?_;refine c_ (iG _) ?_;refine q_ ?_;refine Sb.eq ?_;show _=jT (if mH a&&mH b then some (fA (a==1&&b==1)) else none);rw [this];cases (a==1)<;>rfl
 by_cases h:o=21
 ·subst h;refine P_ func141 229 fun _ _ _ _=>?_;refine g_ ?_;refine k_ (fun hc=>?_) fun hc=>?_
  ·refine y_ ?_;refine q_ ?_;refine Sb.eq ?_;have:(mH a&&mH b)=false:=by simp at hc;simp [mH];omega
   show _=jT (if mH a&&mH b then _ else none);rw [this];rfl
  ·have:(mH a&&mH b)=true:=by simp at hc;simp [mH];omega
   refine g_ ?_;refine c_ (iG _) ?_;refine q_ ?_;refine Sb.eq ?_;show _=jT (if mH a&&mH b then some (fA (a==1||b==1)) else none);rw [this];cases (a==1)<;>rfl
 by_cases h:o=22
 ·subst h;refine P_ func141 229 fun _ _ _ _=>?_;refine g_ ?_;refine n_ (XT a b ha hb) ?_;refine n_ (iG _) ?_;(refine y_ ?_;refine q_ ?_;exact .refl)
 by_cases h:o=23
 ·subst h;refine P_ func141 229 fun _ _ _ _=>?_;refine g_ ?_;refine c_ (OX _) ?_;refine q_ ?_;rw [en];exact .refl
 by_cases h:o=24
 ·subst h;refine P_ func141 229 fun _ _ _ _=>?_;refine g_ ?_;refine A.aa 214 T (x':=AI (0-a)) (aL en) ?_;refine n_ (oY _ hn) ?_;(refine y_ ?_;refine q_ ?_;exact .refl)
 by_cases h:o=26
 ·subst h;refine P_ func141 229 fun _ _ _ _=>?_;refine g_ ?_;refine k_ (fun hc=>?_) fun hc=>?_
  ·refine y_ ?_;refine q_ ?_;refine Sb.eq ?_;have:mH a=false:=by simp at hc;simp [mH];omega
   show _=jT (if mH a then _ else none);rw [this];rfl
  ·have:mH a=true:=by simp at hc;simp [mH];omega
   refine y_ ?_;refine c_ (iG _) ?_;refine q_ ?_;refine Sb.eq ?_;show _=jT (if mH a then some (fA (a==0)) else none);rw [this];rfl
 have e:gN o a b=none:=by unfold gN;repeat rw [iF (by assumption)]
 rw [e];refine P_ func141 229 fun _ _ _ _=>?_;(repeat (first|first|refine A.s T ?_|refine A.r T T ?_|refine A.w T T ?_|refine A.p T ?_|refine A.b T fun bx=>?_|refine A.t T fun bl=>?_|refine A.cond T (fun h=>(by simp at h;omega)) (fun _=>?_)|first|refine A.step T ?_|refine A.v T T ?_));refine q_ ?_;exact .refl
theorem XQ(t:Int):Pure prog aU 77 [cC t] (AB (t==1||t==2||t==3)):=by refine P_ func77 13 fun _ _ _ _=>?_;refine g_ ?_;refine R_ ?_;refine Sb.eq (aA ?_);cases (t==1)<;>cases (t==2)<;>rfl
theorem conv_p(t v:Int):Pure prog aU 142 [cC t,aN v] (jT (uC t v)):=by
 refine P_ func142 39 fun _ _ _ _=>?_;refine g_ ?_;refine c_ (D6 _ _) ?_;refine q_ ?_;refine Sb.eq ?_
 by_cases h:t=1\/t=2/\0<=v/\v<=255\/t=3/\0<=v/\v<=1
 ·have e:uC t v=some v:=iT h;rw [e,iF (by simp;omega)]
 ·have e:uC t v=none:=iF h;rw [e,iT (by simp;omega)]
theorem bG(l:List KE):(bK l).length=l.length:=by rw [xZ,aa0]
theorem a0I(e:KE)(hw:l5 e):Pure prog aU 128 [dK e] (AB (cH e)):=by
 obtain ⟨k,o,t,n,v,l⟩:=e;simp only [l5,u8,i32,i64] at hw;obtain ⟨hw,_⟩:=hw;rw [dK]
 by_cases h1:k=1
 ·subst h1;refine P_ func128 86 fun _ _ _ _=>?_
  (refine lS fun bx=>?_;refine lS fun bx=>?_;refine g_ ?_);refine R_ ?_;(refine Sb.eq (gE ?_);simp only [cH,KE.kind,KE.oper,KE.to,KE.n,KE.v,KE.l,bG];generalize l.length=len at*;(try simp at hc);(try simp at hd);simp;omega)
 by_cases h2:k=2
 ·subst h2;refine P_ func128 86 fun _ _ _ _=>?_
  (refine lS fun bx=>?_;refine lS fun bx=>?_;refine g_ ?_)
  refine k_ (fun hc=>?_) fun hc=>?_
  ·refine y_ ?_;refine R_ ?_;(refine Sb.eq (gE ?_);simp only [cH,KE.kind,KE.oper,KE.to,KE.n,KE.v,KE.l,bG];generalize l.length=len at*;(try simp at hc);(try simp at hd);simp;omega)
  ·refine g_ ?_;refine R_ ?_;(refine Sb.eq (gE ?_);simp only [cH,KE.kind,KE.oper,KE.to,KE.n,KE.v,KE.l,bG];generalize l.length=len at*;(try simp at hc);(try simp at hd);simp;omega)
 by_cases h3:k=3
 ·subst h3;refine P_ func128 86 fun _ _ _ _=>?_
  (refine lS fun bx=>?_;refine lS fun bx=>?_;refine g_ ?_)
  refine k_ (fun hc=>?_) fun hc=>?_
  ·refine y_ ?_;refine R_ ?_;(refine Sb.eq (gE ?_);simp only [cH,KE.kind,KE.oper,KE.to,KE.n,KE.v,KE.l,bG];generalize l.length=len at*;(try simp at hc);(try simp at hd);simp;omega)
  ·refine g_ ?_;refine R_ ?_;(refine Sb.eq (gE ?_);simp only [cH,KE.kind,KE.oper,KE.to,KE.n,KE.v,KE.l,bG];generalize l.length=len at*;(try simp at hc);(try simp at hd);simp;omega)
 by_cases h4:k=4
 ·subst h4;refine P_ func128 86 fun _ _ _ _=>?_
  (refine lS fun bx=>?_;refine lS fun bx=>?_;refine g_ ?_);refine R_ ?_;(refine Sb.eq (gE ?_);simp only [cH,KE.kind,KE.oper,KE.to,KE.n,KE.v,KE.l,bG];generalize l.length=len at*;(try simp at hc);(try simp at hd);simp;omega)
 by_cases h5:k=5
 ·subst h5;refine P_ func128 86 fun _ _ _ _=>?_
  (refine lS fun bx=>?_;refine lS fun bx=>?_;refine g_ ?_);refine R_ ?_;(refine Sb.eq (gE ?_);simp only [cH,KE.kind,KE.oper,KE.to,KE.n,KE.v,KE.l,bG];generalize l.length=len at*;(try simp at hc);(try simp at hd);simp;omega)
 by_cases h6:k=6
 ·subst h6;refine P_ func128 86 fun _ _ _ _=>?_
  (refine lS fun bx=>?_;refine lS fun bx=>?_;refine g_ ?_);refine R_ ?_;(refine Sb.eq (gE ?_);simp only [cH,KE.kind,KE.oper,KE.to,KE.n,KE.v,KE.l,bG];generalize l.length=len at*;(try simp at hc);(try simp at hd);simp;omega)
 refine P_ func128 86 fun _ _ _ _=>?_;(repeat (first|first|refine A.s T ?_|refine A.r T T ?_|refine A.w T T ?_|refine A.p T ?_|refine A.b T fun bx=>?_|refine A.t T fun bl=>?_|refine A.cond T (fun h=>(by simp at h;omega)) (fun _=>?_)|first|refine A.step T ?_|refine A.v T T ?_));refine R_ ?_;refine Sb.eq ?_;simp [cH, *]
theorem own_p(e:KE)(hw:l5 e):Pure prog aU 163 [dK e] (AB (cH e)):=by
 obtain ⟨k,o,t,n,v,l⟩:=e;simp only [l5,u8,i32,i64] at hw;obtain ⟨hw,_⟩:=hw;rw [dK]
 by_cases h1:k=1
 ·subst h1;refine P_ func163 112 fun _ _ _ _=>?_
  (refine lS fun bx=>?_;refine lS fun bx=>?_;refine g_ ?_);refine R_ ?_;(refine Sb.eq (gE ?_);simp only [cH,KE.kind,KE.oper,KE.to,KE.n,KE.v,KE.l,bG];generalize l.length=len at*;(try simp at hc);(try simp at hd);simp;omega)
 by_cases h2:k=2
 ·subst h2;refine P_ func163 112 fun _ _ _ _=>?_
  (refine lS fun bx=>?_;refine lS fun bx=>?_;refine g_ ?_);refine R_ ?_;(refine Sb.eq (gE ?_);simp only [cH,KE.kind,KE.oper,KE.to,KE.n,KE.v,KE.l,bG];generalize l.length=len at*;(try simp at hc);(try simp at hd);simp;omega)
 by_cases h3:k=3
 ·subst h3;refine P_ func163 112 fun _ _ _ _=>?_
  (refine lS fun bx=>?_;refine lS fun bx=>?_;refine g_ ?_);refine R_ ?_;(refine Sb.eq (gE ?_);simp only [cH,KE.kind,KE.oper,KE.to,KE.n,KE.v,KE.l,bG];generalize l.length=len at*;(try simp at hc);(try simp at hd);simp;omega)
 by_cases h4:k=4
 ·subst h4;refine P_ func163 112 fun _ _ _ _=>?_
  (refine lS fun bx=>?_;refine lS fun bx=>?_;refine g_ ?_);refine R_ ?_;(refine Sb.eq (gE ?_);simp only [cH,KE.kind,KE.oper,KE.to,KE.n,KE.v,KE.l,bG];generalize l.length=len at*;(try simp at hc);(try simp at hd);simp;omega)
 by_cases h5:k=5
 ·subst h5;refine P_ func163 112 fun _ _ _ _=>?_
  (refine lS fun bx=>?_;refine lS fun bx=>?_;refine g_ ?_);refine R_ ?_;(refine Sb.eq (gE ?_);simp only [cH,KE.kind,KE.oper,KE.to,KE.n,KE.v,KE.l,bG];generalize l.length=len at*;(try simp at hc);(try simp at hd);simp;omega)
 by_cases h6:k=6
 ·subst h6;refine P_ func163 112 fun _ _ _ _=>?_
  (refine b_ fun bx=>?_;refine b_ fun bx=>?_;refine y_ ?_);refine n_ (XQ _) ?_;refine g_ ?_;refine R_ ?_;(refine Sb.eq (gE ?_);simp only [cH,KE.kind,KE.oper,KE.to,KE.n,KE.v,KE.l,bG];generalize l.length=len at*;(try simp at hc);(try simp at hd);simp;omega)
 refine P_ func163 112 fun _ _ _ _=>?_;(repeat (first|first|refine A.s T ?_|refine A.r T T ?_|refine A.w T T ?_|refine A.p T ?_|refine A.b T fun bx=>?_|refine A.t T fun bl=>?_|refine A.cond T (fun h=>(by simp at h;omega)) (fun _=>?_)|first|refine A.step T ?_|refine A.v T T ?_));refine R_ ?_;refine Sb.eq ?_;simp [cH, *]
abbrev jU(r:List Int):AV:= .sl 1 (r.map aN) none
abbrev aF(s:List (List Int)):AV:= .sl 1 (s.map jU) none
theorem N2(v:Int)(ok:Bool):Pure prog aU 129 [aN v,AB ok] (jT (if ok then some v else none)):=by
 refine P_ func129 9 fun _ _ _ _=>?_;refine y_ ?_;refine k_ (fun hc=>?_) fun hc=>?_
 ·refine y_ ?_;refine q_ ?_;simp at hc;subst hc;exact .refl
 ·refine y_ ?_;refine q_ ?_;simp at hc;subst hc;exact .refl
def gO(k v:Int):Bool:=if k=2 then decide (0<=v)&&decide (v<=255) else if k=3 then v==0||v==1 else k==1
theorem fits_p(k v:Int):Pure prog aU 131 [cC k,aN v] (AB (gO k v)):=by
 refine P_ func131 24 fun _ _ _ _=>?_;refine y_ ?_;refine k_ (fun hc=>?_) fun hc=>?_
 ·refine g_ ?_;refine R_ ?_;refine Sb.eq ?_;simp at hc;subst hc;simp [gO]
 ·refine y_ ?_;refine k_ (fun hd=>?_) fun hd=>?_
  ·refine g_ ?_;refine R_ ?_;refine Sb.eq ?_;simp at hc hd;subst hd;simp [gO]
  ·refine y_ ?_;refine R_ ?_;refine Sb.eq ?_;simp at hc hd;simp [gO,hc,hd]
theorem FC(k v:Int):uC k v=if gO k v then some v else none:=by
 unfold uC gO
 by_cases h1:k=1
 ·subst h1;simp
 by_cases h2:k=2
 ·subst h2;simp
 by_cases h3:k=3
 ·subst h3;simp;by_cases h:0<=v/\v<=1
  ·rw [iT h,iT (by omega)]
  ·rw [iF h,iF (by omega)]
 ·simp [h1,h2,h3]
def mT(s:List (List Int))(v i:Int):Option Int:=if v<0\/i<0 then none else (s[v.toNat]?).bind (·[i.toNat]?)
theorem MB(s:List (List Int))(v i:Int):Pure prog aU 30 [aF s,AI v,AI i] (jT (mT s v i)):=by
 refine P_ func30 36 fun _ _ _ _=>?_
 (refine g_ ?_;refine A.split 20 T (fun hc=>?_) (fun hc=>?_);(refine y_ ?_;refine q_ ?_;refine Sb.eq ?_;simp at hc;have:mT s v i=none:=(by unfold mT;split;rfl;rw [oQ (by omega)];rfl);rw [this];rfl);simp at hc;refine ab4 (pU hc.1.1 hc.1.2) fun r hr=>?_;have e1:mT s v i=r[i.toNat]? :=(by unfold mT;rw [iF (by omega),hr];rfl);refine i_ T (aC hr) T ?_;refine k_ (fun hd=>?_) fun hd=>?_;(simp at hd;refine y_ ?_;refine q_ ?_;rw [e1,oQ hd];exact .refl);simp at hd;refine y_ ?_;refine i_ T (aC hr) T ?_;refine ab4 (pU hc.2 hd) fun x hx=>?_;refine i_ T (aC hx) T ?_;refine q_ ?_;rw [e1,hx];exact .refl)
theorem DI(s:List (List Int))(v i:Int):Pure prog aU 139 [aF s,AI v,AI i] (jT (mT s v i)):=by
 refine P_ func139 36 fun _ _ _ _=>?_
 (refine g_ ?_;refine A.split 20 T (fun hc=>?_) (fun hc=>?_);(refine y_ ?_;refine q_ ?_;refine Sb.eq ?_;simp at hc;have:mT s v i=none:=(by unfold mT;split;rfl;rw [oQ (by omega)];rfl);rw [this];rfl);simp at hc;refine ab4 (pU hc.1.1 hc.1.2) fun r hr=>?_;have e1:mT s v i=r[i.toNat]? :=(by unfold mT;rw [iF (by omega),hr];rfl);refine i_ T (aC hr) T ?_;refine k_ (fun hd=>?_) fun hd=>?_;(simp at hd;refine y_ ?_;refine q_ ?_;rw [e1,oQ hd];exact .refl);simp at hd;refine y_ ?_;refine i_ T (aC hr) T ?_;refine ab4 (pU hc.2 hd) fun x hx=>?_;refine i_ T (aC hx) T ?_;refine q_ ?_;rw [e1,hx];exact .refl)
def allEq{α β:Type}(f:α->β->Bool)(a:List α)(b:List β)(i:Nat):Bool:=(List.range i).all fun k=>match a[k]?,b[k]? with
 |some x,some y=>f x y |_,_=>true
theorem BT{α β:Type}(f:α->β->Bool){a:List α}{b:List β}{i:Nat}{x:α}{y:β}(hx:a[i]? =some x)(hy:b[i]? =some y):allEq f a b (i+1)=(allEq f a b i&&f x y):=by unfold allEq;rw [List.range_succ,List.all_append];simp [hx,hy]
def iV{α:Type}(f:α->α->Bool)(a b:List α):Bool:=decide (a.length=b.length)&&allEq f a b a.length
theorem BP{α β:Type}{f:α->β->Bool}{a:List α}{b:List β}{j:Nat}(h:allEq f a b j=false): ∀n,j<=n->allEq f a b n=false:=by intro n hn;unfold allEq at*;rw [List.all_eq_false] at*;obtain ⟨k,h1,h2⟩:=h;exact ⟨k,by simp at*;omega,h2⟩
def short(s:List (List Int)):Prop:=s.length<=281474976710656/\ ∀r,r∈s->r.length<=281474976710656
def sQ(a b:List (List Int)):Bool:=iV (iV (· == ·)) a b
structure KV where
 kind:Int
 dim:Int
abbrev mY(v:KV):AV:= .ag [cC v.kind,AI v.dim]
def dM(v:KV):Bool:=(v.kind==1||v.kind==2||v.kind==3)&&decide (0<=v.dim)&&decide (v.dim<=64)
theorem sound_p(v:KV):Pure prog aU 94 [mY v] (AB (dM v)):=by
 obtain ⟨k,d⟩:=v;refine P_ func94 26 fun _ _ _ _=>?_
 (refine lS fun bx=>?_;refine g_ ?_);refine R_ ?_
 refine Sb.eq (aA ?_);simp only [dM];cases (k==1)<;>cases (k==2)<;>cases (k==3)<;>cases decide (0<=d)<;>simp
theorem row_one(r:List Int)(h:GH)(zs:List Value)(q:eN h (r.map aN) zs): ∀z,z∈zs->aW (aM z)=true:=by
 induction r generalizing zs with
 |nil=>rw [List.map_nil,aP] at q;subst q;intro z hz;cases hz |cons x r ih=>
  rw [List.map_cons,aJ] at q;obtain ⟨v,vs,rfl,q1,q2⟩:=q;rw [bN] at q1;intro z hz;rcases ab6.1 hz with rfl|hz
  ·rw [q1.1];rfl
  ·exact ih vs q2 z hz
theorem Z1(r:List Int)(hr:r.length<=35184372088832):fB prog aU 29 [jU r] [] (fun z:Value=> .ms z 1 r.length) (fun z=>[.row 1 z (r.map aN)]) (fun _=>True):=by
 unfold fB;cases r with
 |nil=>
  refine jB.of (S:=tt) (fn:=f29) (n:=8) dE func29 T T T T fun w0 h0 F hgs=>?_;refine y_ ?_;refine A.il T T T T T T T T fun b hb=>?_;cases b
  ·refine y_ ?_;refine A.iw T T T T T T T fun bl=>?_;refine y_ ?_;refine A.bk T T T T T T T T T T T T T (by show (List.map aN _).length*1<=_;rw [aa0];omega) (by show (List.map aN _).length*1*4<=_;rw [aa0];omega) (fun x hx=>by injection hx with hx;subst hx;rfl) (row_one _) fun z=>?_;refine y_ ?_;refine A.au (Λ':=[.row 1 z _]) T T T rF ⟨z, .refl,rfl,trivial⟩
  ·refine y_ ?_;refine A.bo 2 1 T fun z=>?_;refine A.au (Λ':=[.row 1 z []]) T T T rF ⟨z, .refl,rfl,trivial⟩
 |cons x r=>
  refine jB.of (S:=tt) (fn:=f29) (n:=8) dE func29 T T T T fun w0 h0 F hgs=>?_;refine y_ ?_;refine A.il T T T T T T T T fun b hb=>?_;cases b
  case true=>cases hb T
  refine y_ ?_;refine A.iw T T T T T T T fun bl=>?_;refine y_ ?_;refine A.bk T T T T T T T T T T T T T (by show (List.map aN _).length*1<=_;rw [aa0];omega) (by show (List.map aN _).length*1*4<=_;rw [aa0];omega) (fun x hx=>by injection hx with hx;subst hx;rfl) (row_one _) fun z=>?_;refine y_ ?_;refine A.aa 2 T (x':= .ms z 1 (x::r).length) (by rw [aa0];rfl) ?_;refine A.au (Λ':=[.row 1 z _]) T T T rF ⟨z, .refl,rfl,trivial⟩
abbrev bU(hs:List (Value×List Int)):List (Value×List AV):=hs.map fun p=>(p.1,p.2.map aN)
def iK(s:List (List Int))(v i x:Int):List (List Int):=if (mT s v i).isSome then (match s[v.toNat]? with|some r=>s.set v.toNat (r.set i.toNat x)|none=>s) else s
abbrev vC:AV:= .v (.slice none 0 0)
theorem jG(hs:List (Value×List Int)):(oW 1 (bU hs)).length=hs.length:=by rw [oW,bU,aa0,aa0]
theorem P6(hs:List (Value×List Int))(z:Value)(r:List Int)(m:Nat):(oW 1 (bU hs)++List.replicate (m+1) vC).set hs.length (.ms z 1 r.length)=oW 1 (bU (hs++[(z,r)]))++List.replicate m vC:=by rw [List.set_append_right _ _ (by rw [jG];exact ab3 _),jG,ak3,List.replicate_succ,List.set_cons_zero];simp [oW,bU]
theorem LB{hs:List (Value×List Int)}{j:Nat}(hj:j<hs.length)(z:Value)(q:List Int):bU (hs.set j (z,q))=(bU hs).take j++(z,q.map aN)::(bU hs).drop (j+1):=by rw [bU,an0,List.set_eq_take_append_cons_drop,iT (by rw [aa0];exact hj)]
theorem YH{hs:List (Value×List Int)}{j:Nat}{p:Value×List Int}(hp:hs[j]? =some p)(q:List Int)(hq:q.length=p.2.length):oW 1 (bU (hs.set j (p.1,q)))=oW 1 (bU hs):=by
 have hj:j<hs.length:=(aa8.1 hp).1;apply List.ext_getElem?;intro m;simp only [oW,bU,ab5,List.getElem?_set]
 by_cases h:j=m
 ·subst h;rw [iT T,iT hj,hp];simp [hq]
 ·rw [iF h]
theorem put_p(s:List (List Int))(v i x:Int)(h1:s.length<=1073741824)(h2: ∀r,r∈s->r.length<=35184372088832):
 fB prog aU 17 [aF s,AI v,AI i,aN x] [] (fun p:Value×List (Value×List Int)=> .ms p.1 1 s.length) (fun p=>[.rows 1 (bU p.2), .row 1 p.1 (oW 1 (bU p.2))]) (fun p=>p.2.map al4=iK s v i x):=by
 unfold fB;have hl:((s.map jU).length:Int)=s.length:=by rw [aa0]
 have hat:=MB s v i;refine jB.of (S:=tt) (fn:=f17) (n:=46) dE func17 T T T T fun w0 h0 F hgs=>?_;refine y_ ?_;refine A.aa 15 T (x':=AI (s.length:Nat)) (aL hl) ?_;refine A.make T T T T T T T T T T T T (by omega) ?_ (by omega) fun zo=>?_
 ·show ((24:Nat):Int)*_<=_;omega
 refine y_ ?_;refine A.aa 9 T (x':= .ms zo 1 s.length) (by rw [ac7];rfl) ?_;refine A.ab (Λ':=[.row 1 zo (List.replicate s.length vC)]) (by rw [ac7];rfl) ?_;refine A.aa 18 T (x':=AI (s.length:Nat)) (aL hl) ?_;refine A.af [0,1,2,3,9,17,18,19] T ?_;refine A.gu 1 ?_
 refine A.ae (ι:=List (Value×List Int)) (fun hs=>(⟨[(0,aF s),(1,AI v),(2,AI i),(3,aN x),(9, .ms zo 1 s.length),(17,aF s),(18,AI (s.length:Nat)),(19,AI (hs.length:Nat))],[]⟩,[.rows 1 (bU hs), .row 1 zo (oW 1 (bU hs)++List.replicate (s.length-hs.length) vC)]))
  (fun hs=>hs.map al4=s.take hs.length/\hs.length<=s.length) (fun hs=>s.length-hs.length) [] ⟨rfl,aa4 _⟩ T fun hs hi ih=>?_
 refine y_ ?_;refine k_ (fun hc=>?_) fun hc=>?_
 ·simp at hc;refine aX hc fun r hr=>?_;have hrl:=h2 r (aa2 hr);refine y_ ?_;refine i_ T (aC hr) T ?_;refine A.e T (Z1 r hrl) .refl (.refl _) fun z _=>?_;refine l_ (Λ':=[.row 1 z (r.map aN), .rows 1 (bU hs), .row 1 zo (oW 1 (bU hs)++List.replicate (s.length-hs.length) vC)]) ?_;refine A.ah T T T T T T T T (by omega) (by rw [aa1,jG,ag6];omega) T ?_;refine A.bq T T T T T T T T T ?_ (xs':=oW 1 (bU (hs++[(z,r)]))++List.replicate (s.length-(hs++[(z,r)]).length) vC) ?_ ?_
  ·rw [aa1,jG,ag6];omega
  ·have:=P6 hs z r (s.length-(hs++[(z,r)]).length);rw [show s.length-hs.length=s.length-(hs++[(z,r)]).length+1 by simp;omega];exact this
  refine A.fp (.refl _) ?_;refine y_ ?_;refine A.aa 19 T (x':=AI (((hs++[(z,r)]).length:Nat):Int)) ?_ ?_
  ·rw [qR hs.length (by omega)];simp
  refine A.ab (Λ':=[.rows 1 (bU (hs++[(z,r)])), .row 1 zo (oW 1 (bU (hs++[(z,r)]))++List.replicate (s.length-(hs++[(z,r)]).length) vC)]) (by simp [bU]) ?_;refine u_ (ih (hs++[(z,r)]) ⟨?_,by simp;omega⟩ (by simp;omega));simp [hi.1,ac9,hr]
 ·simp at hc;have hlen:hs.length=s.length:=by omega
  have hsnd:hs.map al4=s:=by rw [hi.1,hlen,ac4]
  refine A.ab (Λ':=[.rows 1 (bU hs), .row 1 zo (oW 1 (bU hs))]) (by rw [hlen,ak3];simp) ?_;cases hv:mT s v i with
  |none=>
   rw [hv] at hat;refine y_ ?_;refine c_ (hat) ?_;refine A.au (Λ':=[.rows 1 (bU hs), .row 1 zo (oW 1 (bU hs))]) T T T rF ⟨(zo,hs), .refl,rfl,?_⟩;show hs.map al4=_;rw [hsnd,iK,hv];rfl
  |some y=>
   rw [hv] at hat;refine y_ ?_;refine c_ (hat) ?_;unfold mT at hv
   by_cases hneg:v<0\/i<0
   ·rw [iT hneg] at hv;cases hv
   rw [iF hneg] at hv;refine ab4 (Option.bind_eq_some_iff.1 hv) fun r hr=>?_;have hgv:hs[v.toNat]? =(hs[v.toNat]?):=rfl;have hv2:(hs.map al4)[v.toNat]? =some r:=by rw [hsnd];exact hr.1
   rw [ab5] at hv2;refine ab4 (Option.map_eq_some_iff.1 hv2) fun p hp=>?_;have hpl:(bU hs)[v.toNat]? =some (p.1,r.map aN):=by rw [bU,ab5,hp.1,<-hp.2];rfl
   have hvl:v.toNat<hs.length:=(aa8.1 hp.1).1;have hrl:i.toNat<r.length:=(aa8.1 hr.2).1;refine A.ah T T T T T T T T (by omega) (by rw [jG];omega) T ?_;refine A.ba T T T T T T (y':= .ms p.1 1 (r.map aN).length) T (by rw [oW,ab5,hpl];rfl) T T ?_;refine A.fw v.toNat hpl (.refl _) ?_;refine y_ ?_;refine A.ah T T T T T T T T (by omega) (by rw [aa0];omega) T ?_;refine A.bq T T T T T T T T T (by rw [aa0];omega) (xs':=(r.set i.toNat x).map aN) an0.symm ?_;refine A.fj (.refl _) ?_;have hp2:p.2=r:=hp.2;refine A.ab (Λ':=[.rows 1 (bU (hs.set v.toNat (p.1,r.set i.toNat x))), .row 1 zo (oW 1 (bU (hs.set v.toNat (p.1,r.set i.toNat x))))]) (by rw [YH hp.1 _ (by rw [List.length_set,hp2]),LB hvl]) ?_;refine y_ ?_;refine A.au (Λ':=[.rows 1 (bU (hs.set v.toNat (p.1,r.set i.toNat x))), .row 1 zo _]) T T T rF ⟨(zo,hs.set v.toNat (p.1,r.set i.toNat x)), .refl,rfl,?_⟩;show (hs.set v.toNat (p.1,r.set i.toNat x)).map al4=iK s v i x;rw [an0,hsnd,iK,mT,iF hneg,hv,hr.1];rfl
def AP{α:Type}(p:α->Bool):List α->Nat->Int
 | [],_=> -1 |x::r,i=>if p x then (i:Int) else AP p r (i+1)
theorem wK{α:Type}(p:α->Bool): ∀(l:List α) (i:Nat),decide (0<=AP p l i)=l.any p
 | [],_=>rfl |x::r,i=>by
  rw [AP,List.any_cons];cases h:p x
  ·simp;exact wK p r (i+1)
  ·simp
theorem cB{α:Type}{l:List α}{i:Nat}{x:α}(h:l[i]? =some x):l.drop i=x::l.drop (i+1):=by obtain ⟨h1,h2⟩:=aa8.1 h;rw [<-h2,List.getElem_cons_drop]
abbrev jA(l:List KV):AV:= .sl 2 (l.map mY) none
theorem idxV_p(f:FuncId)(c:List AV)(p:KV->Bool)(hcb: ∀x,Pure prog aU f (mY x::c) (AB (p x)))(l:List KV)(hb:l.length<=281474976710656):
 Pure prog aU 138 [jA l, .fn f [] c] (AI (AP p l 0)):=by
 refine P_ func138 19 fun _ _ _ _=>?_
 (refine y_ ?_;refine A.aa 7 T (x':=AI (l.length:Nat)) (aL (by rw [aa0])) ?_)
 refine A.af [0,1,7,8] T ?_;refine A.ae (ι:=Nat) (fun i=>(⟨[(0,jA l),(1, .fn f [] c),(7,AI (l.length:Nat)),(8,AI (i:Int))],[]⟩,[])) (fun i=>i<=l.length/\AP p l 0=AP p (l.drop i) i) (fun i=>l.length-i) 0 ⟨by omega,rfl⟩ T fun i hi ih=>?_;refine y_ ?_;refine k_ (fun hc=>?_) fun hc=>?_
 ·simp at hc;refine aX hc fun x hx=>?_;refine y_ ?_;refine i_ T (aC hx) T ?_;refine A.c T (hcb x) oO.refl ?_;have h1:=hi.2;rw [cB hx,AP] at h1;cases hp:p x with
  |true=>
   rw [hp] at h1;refine y_ ?_;refine R_ ?_;rw [h1];exact .refl
  |false=>
   rw [hp] at h1;refine y_ ?_;refine vI 8 i ?_;refine u_ (ih (i+1) ⟨by omega,h1⟩ (by omega))
 ·simp at hc;have:i=l.length:=by omega
  subst this;refine y_ ?_;refine R_ ?_;rw [hi.2,ai3];exact .refl
theorem hasV_p(f:FuncId)(c:List AV)(p:KV->Bool)(hcb: ∀x,Pure prog aU f (mY x::c) (AB (p x)))(l:List KV)(hb:l.length<=281474976710656):
 Pure prog aU 92 [jA l, .fn f [] c] (AB (l.any p)):=by
 refine P_ func92 9 fun _ _ _ _=>?_;refine y_ ?_;refine c_ (idxV_p f c p hcb l hb) ?_;refine R_ ?_;refine Sb.eq (aA ?_);exact wK p l 0
theorem TG(v:KV):Pure prog aU 93 [mY v] (AB (!dM v)):=by
 refine P_ func93 6 fun _ _ _ _=>?_
 (refine b_ fun bx=>?_;refine y_ ?_);exact oR (sound_p v)
def dI(l:List KV):Bool:=decide (l.length<=256)&& !l.any (fun v=> !dM v)
theorem LF(l:List KV)(hb:l.length<=281474976710656):Pure prog aU 49 [jA l] (AB (dI l)):=by
 have hl:((l.map mY).length:Int)=l.length:=by rw [aa0]
 by_cases h:l.length<=256
 ·refine P_ func49 11 fun _ _ _ _=>?_;refine g_ ?_;refine A.aa 6 T (x':=AB true) (aA (by simp;omega)) ?_;refine c_ (hasV_p _ [] _ TG l hb) ?_;refine R_ ?_;refine Sb.eq (aA ?_);simp [dI,h]
 ·refine P_ func49 11 fun _ _ _ _=>?_;refine g_ ?_;refine e_ 6 T (x':=AB false) (aA (by simp;omega)) ?_;refine R_ ?_;refine Sb.eq (aA ?_);simp [dI,h]
def eP(v:KV):Int:=if v.dim<1 then 1 else v.dim
def vA(v:KV)(r:List Int):Bool:=(r.length:Int)==eP v&& !r.any (fun x=> !gO v.kind x)
def AQ(l:List KV)(s:List (List Int)):Bool:=decide (s.length=l.length)&&dI l&&allEq vA l s l.length
def fP(l:List KV):List (List Int):=l.map fun v=>List.replicate (eP v).toNat 0
def U4(b1 b2:Nat):AV:= .fn 127 [] [.v (.pointer (some ⟨b1,0,none⟩)), .v (.pointer (some ⟨b2,0,none⟩))]
abbrev walkX(e:KE)(left deep:Int):Int->AV:=fun _=>AB (decide (fits e left (33-deep)))
abbrev walkL(b1 b2:Nat):Int->List aH:=fun i=>[.box b1 (AI i), .box b2 (U4 b1 b2)]
abbrev walkP(e:KE)(left deep:Int):Int->Prop:=fun i=>fits e left (33-deep)->i=left-sz e
theorem c8{z:Nat}(a:KE):AV.pe z (dK a)= .pe z (.ag [cC a.kind,cC a.oper,cC a.to,aN a.n,AI a.v, .sl 6 (bK a.l) none]):=by rw [aK]
theorem QY(b1 b2:Nat): ∀(N:Nat) (e:KE) (left deep:Int),sz e<=N->l5 e->0<=left->left<=256->1<=deep->deep<=33->
 fB prog aU 127 [dK e,AI deep, .v (.pointer (some ⟨b1,0,none⟩)), .v (.pointer (some ⟨b2,0,none⟩))] [.box b1 (AI left), .box b2 (U4 b1 b2)] (walkX e left deep) (walkL b1 b2) (walkP e left deep)
 |0,e,left,deep,hn,_,_,_,_,_=>by have:=iL e;omega |N+1,e,left,deep,hn,hw,r0,r1,d0,d1=>by
  have hw1:IntKind.i64.wrap (left-1)=left-1:=fR _ (by omega);have hp:=a0I e hw;rw [aK] at hp⊢;unfold fB
  by_cases hz:left=0\/deep=33
  ·have hnf: ¬fits e left (33-deep):=nU (by omega);refine jB.of (S:=tt) (fn:=f127) (n:=36) dE func127 T T T T fun w0 h0 F hgs=>?_
   (refine lS fun bx=>?_;refine g_ ?_)
   refine e_ 17 T (x':=AB true) (aA (by rw [hw1];simp;omega)) ?_;(refine A.au (Λ':=[.box b1 _, .box b2 _]) T T T rF ⟨_,Sb.eq (aA ?_),rfl,?_⟩;exact (decide_eq_false hnf).symm;exact fun h=>absurd h hnf)
  have hw2:IntKind.i64.wrap (deep+1)=deep+1:=fR _ (by omega);have h17: ∀b:Bool,(bif decide (IntKind.i64.wrap (left-1)<0) then true else decide (32<deep))=b->b=false:=by intro b hb;subst hb;rw [hw1];simp;omega
  by_cases hs:cH e=true
  case neg=>
   have hs:cH e=false:=by simpa using hs
   have hnf: ¬fits e left (33-deep):=nU (by simp [hs]);refine jB.of (S:=tt) (fn:=f127) (n:=36) dE func127 T T T T fun w0 h0 F hgs=>?_
   (refine lS fun bx=>?_;refine g_ ?_)
   refine A.aa 17 T (x':=AB false) (aA (h17 _ T)) ?_;refine n_ (hp) ?_;refine e_ 19 T (x':=AB false) (aA hs) ?_;(refine A.au (Λ':=[.box b1 _, .box b2 _]) T T T rF ⟨_,Sb.eq (aA ?_),rfl,?_⟩;exact (decide_eq_false hnf).symm;exact fun h=>absurd h hnf)
  rcases sR hs with ⟨k,o,t,n,v,rfl⟩|⟨k,o,t,n,v,a,rfl⟩|⟨k,o,t,n,v,a,b,rfl⟩
  ·simp only [bK] at hp⊢;have hf:=(fits0 (room:=left) (deep:=33-deep) hs).2 (by omega);refine jB.of (S:=tt) (fn:=f127) (n:=36) dE func127 T T T T fun w0 h0 F hgs=>?_
   (refine lS fun bx=>?_;refine g_ ?_)
   refine A.aa 17 T (x':=AB false) (aA (h17 _ T)) ?_;refine n_ (hp) ?_;refine e_ 19 T (x':=AB true) (aA hs) ?_;refine A.ao ?_;refine y_ ?_;refine A.au (Λ':=[.box b1 _, .box b2 _]) T T T rF ⟨_,Sb.eq (aA ?_),rfl,?_⟩
   ·exact (decide_eq_true hf).symm
   ·intro _;simp [sz,oJ,hw1]
  ·simp only [bK] at hp⊢;simp only [sz,oJ] at hn;have hf:=fits1 (room:=left) (deep:=33-deep) hs;have ih:=QY b1 b2 N a (IntKind.i64.wrap (left-1)) (deep+1) (by omega) (xM hw) (by omega) (by omega) (by omega) (by omega);rw [aK] at ih;refine jB.of (S:=tt) (fn:=f127) (n:=36) dE func127 T T T T fun w0 h0 F hgs=>?_
   (refine lS fun bx=>?_;refine g_ ?_)
   refine A.aa 17 T (x':=AB false) (aA (h17 _ T)) ?_;refine n_ (hp) ?_;refine e_ 19 T (x':=AB true) (aA hs) ?_;refine A.ao ?_;refine y_ ?_;refine j_ T T T ?_;refine A.aa 27 T (c8 a) ?_
   (refine b_ fun bx=>?_;refine y_ ?_)
   refine A.aa 32 T (x':=AI (deep+1)) (aL hw2) ?_;refine A.e T ih .refl (ai8 (l₁:=[_,_]) (l₂:=[_,_])) fun lf hlf=>?_;refine y_ ?_;have e3:33-deep-1=33-(deep+1):=by omega
   rw [e3] at hf;rw [hw1] at hlf;refine k_ (fun hc=>?_) fun hc=>?_
   ·simp [hw1] at hc;have hnf: ¬fits ⟨k,o,t,n,v,[a]⟩ left (33-deep):=fun h=>hc (hf.1 h);refine y_ ?_;(refine A.au (Λ':=[.box b1 _, .box b2 _]) T T T rF ⟨_,Sb.eq (aA ?_),rfl,?_⟩;exact (decide_eq_false hnf).symm;exact fun h=>absurd h hnf)
   ·simp [hw1] at hc;refine y_ ?_;refine A.again ?_;refine y_ ?_;refine A.au (Λ':=[.box b1 _, .box b2 _]) T T T rF ⟨_,Sb.eq (aA ?_),rfl,?_⟩
    ·exact (decide_eq_true (hf.2 hc)).symm
    ·intro _;have:=hlf hc;simp [sz,oJ];omega
  ·simp only [bK] at hp⊢;simp only [sz,oJ] at hn;have hf:=fits2 (room:=left) (deep:=33-deep) hs;have ha:=iL a;have hb:=iL b;have ih:=QY b1 b2 N a (IntKind.i64.wrap (left-1)) (deep+1) (by omega) (xO hw).1 (by omega) (by omega) (by omega) (by omega);have e3:33-deep-1=33-(deep+1):=by omega
   rw [e3] at hf;rw [aK] at ih;refine jB.of (S:=tt) (fn:=f127) (n:=36) dE func127 T T T T fun w0 h0 F hgs=>?_
   (refine lS fun bx=>?_;refine g_ ?_)
   refine A.aa 17 T (x':=AB false) (aA (h17 _ T)) ?_;refine n_ (hp) ?_;refine e_ 19 T (x':=AB true) (aA hs) ?_;refine A.ao ?_;refine y_ ?_;refine j_ T T T ?_;refine A.aa 27 T (c8 a) ?_
   (refine b_ fun bx=>?_;refine y_ ?_)
   refine A.aa 32 T (x':=AI (deep+1)) (aL hw2) ?_;refine A.e T ih .refl (ai8 (l₁:=[_,_]) (l₂:=[_,_])) fun lf hlf=>?_;refine l_ (Λ':=[.box b1 (AI lf), .box b2 (U4 b1 b2)]) ?_;refine y_ ?_;rw [hw1] at hlf;refine k_ (fun hc=>?_) fun hc=>?_
   ·simp [hw1] at hc;have hnf: ¬fits ⟨k,o,t,n,v,[a,b]⟩ left (33-deep):=fun h=>hc (hf.1 h).1;refine y_ ?_;(refine A.au (Λ':=[.box b1 _, .box b2 _]) T T T rF ⟨_,Sb.eq (aA ?_),rfl,?_⟩;exact (decide_eq_false hnf).symm;exact fun h=>absurd h hnf)
   simp [hw1] at hc;have hlf:=hlf hc;have h2:=hc.2.1;have ih2:=QY b1 b2 N b lf (deep+1) (by omega) (xO hw).2 (by omega) (by omega) (by omega) (by omega);rw [aK] at ih2;refine y_ ?_;refine A.again ?_;refine y_ ?_;refine j_ T T T ?_;refine A.aa 27 T (c8 b) ?_
   (refine b_ fun bx=>?_;refine y_ ?_)
   refine A.aa 32 T (x':=AI (deep+1)) (aL hw2) ?_;refine A.e T ih2 .refl (ai8 (l₁:=[_]) (l₂:=[_,_])) fun lf2 hlf2=>?_;have e4:left-(1+(sz a:Int))=lf:=by omega
   rw [e4] at hf;refine y_ ?_;refine k_ (fun hc=>?_) fun hc=>?_
   ·simp at hc;have hnf: ¬fits ⟨k,o,t,n,v,[a,b]⟩ left (33-deep):=fun h=>hc (hf.1 h).2;refine y_ ?_;(refine A.au (Λ':=[.box b1 _, .box b2 _]) T T T rF ⟨_,Sb.eq (aA ?_),rfl,?_⟩;exact (decide_eq_false hnf).symm;exact fun h=>absurd h hnf)
   ·rename_i hca;simp at hc;refine y_ ?_;refine A.again ?_;refine y_ ?_;refine A.au (Λ':=[.box b1 _, .box b2 _]) T T T rF ⟨_,Sb.eq (aA ?_),rfl,?_⟩
    ·exact (decide_eq_true (hf.2 ⟨hca,hc⟩)).symm
    ·intro _;have:=hlf2 hc;simp [sz,oJ];omega
theorem VK(e:KE)(hw:l5 e):Pure prog aU 84 [dK e] (AB (decide (valid e))):=by
 have hp:=fun b1 b2=>QY b1 b2 (sz e) e 256 1 (ab3 _) hw (by decide) (by decide) (by decide) (by decide);simp only [aK e] at hp;rw [aK];refine P_ func84 9 fun _ _ _ _=>?_
 (refine b_ fun bx=>?_;refine b_ fun bx=>?_;refine b_ fun bx=>?_;refine y_ ?_)
 refine A.e T (hp _ _) .refl (List.Perm.swap _ _ _) fun lf _=>?_;exact tV
def sN(e:KE)(inside left:Int):Int:=if fits e left (32-inside) then left-sz e else-1
theorem H3: ∀(N:Nat) (e:KE) (inside left:Int),sz e<=N->l5 e->0<=left->left<=256->0<=inside->inside<=32->
 Pure prog aU 140 [dK e,AI inside,AI left] (AI (sN e inside left))
 |0,e,left,deep,hn,_,_,_,_,_=>by have:=iL e;omega |N+1,e,inside,left,hn,hw,r0,r1,d0,d1=>by
  have hw1:IntKind.i64.wrap (left-1)=left-1:=fR _ (by omega);have hp:=own_p e hw;rw [aK] at hp⊢
  by_cases hz:left=0\/inside=32
  ·have hnf: ¬fits e left (32-inside):=nU (by omega);refine P_ func140 40 fun _ _ _ _=>?_
   (refine lS fun bx=>?_;refine g_ ?_)
   refine e_ 14 T (x':=AB true) (aA (by simp;omega)) ?_;refine R_ ?_;exact Sb.eq (aL (iF hnf).symm)
  have hw2:IntKind.i64.wrap (inside+1)=inside+1:=fR _ (by omega);have h14: ∀b:Bool,(bif inside==32 then true else left==0)=b->b=false:=by intro b hb;subst hb;simp;omega
  by_cases hs:cH e=true
  case neg=>
   have hs:cH e=false:=by simpa using hs
   have hnf: ¬fits e left (32-inside):=nU (by simp [hs]);refine P_ func140 40 fun _ _ _ _=>?_
   (refine lS fun bx=>?_;refine g_ ?_)
   refine A.aa 14 T (x':=AB false) (aA (h14 _ T)) ?_;refine n_ (hp) ?_;refine e_ 16 T (x':=AB false) (aA hs) ?_;refine R_ ?_;exact Sb.eq (aL (iF hnf).symm)
  rcases sR hs with ⟨k,o,t,n,v,rfl⟩|⟨k,o,t,n,v,a,rfl⟩|⟨k,o,t,n,v,a,b,rfl⟩
  ·simp only [bK] at hp⊢;have hf:=(fits0 (room:=left) (deep:=32-inside) hs).2 (by omega);refine P_ func140 40 fun _ _ _ _=>?_
   (refine lS fun bx=>?_;refine g_ ?_)
   refine A.aa 14 T (x':=AB false) (aA (h14 _ T)) ?_;refine n_ (hp) ?_;refine e_ 16 T (x':=AB true) (aA hs) ?_;refine A.ao ?_;refine y_ ?_;refine R_ ?_;refine Sb.eq (aL ?_);rw [sN,iT hf,hw1];simp [sz,oJ]
  ·simp only [bK] at hp⊢;simp only [sz,oJ] at hn;have hf:=fits1 (room:=left) (deep:=32-inside) hs;have e3:32-inside-1=32-(inside+1):=by omega
   rw [e3] at hf;have ih:=H3 N a (inside+1) (left-1) (by omega) (xM hw) (by omega) (by omega) (by omega) (by omega);rw [aK] at ih;refine P_ func140 40 fun _ _ _ _=>?_
   (refine lS fun bx=>?_;refine g_ ?_)
   refine A.aa 14 T (x':=AB false) (aA (h14 _ T)) ?_;refine n_ (hp) ?_;refine e_ 16 T (x':=AB true) (aA hs) ?_;refine A.ao ?_;refine y_ ?_;refine j_ T T T ?_;refine e_ 31 T (c8 a) ?_;refine A.aa 34 T (x':=AI (inside+1)) (aL hw2) ?_;refine A.aa 35 T (x':=AI (left-1)) (aL hw1) ?_;refine c_ (ih) ?_
   by_cases hfa:fits a (left-1) (32-(inside+1))
   case neg=>
    have e5:sN a (inside+1) (left-1)= -1:=iF hfa;have hnf: ¬fits ⟨k,o,t,n,v,[a]⟩ left (32-inside):=fun h=>hfa (hf.1 h);refine e_ 38 T (x':=AB true) (aA (by simp [e5])) ?_;refine R_ ?_;exact Sb.eq (aL (iF hnf).symm)
   have e5:sN a (inside+1) (left-1)=left-1-sz a:=iT hfa;have h5:=hfa.2.1;refine A.aa 38 T (x':=AB false) (aA (by simp [e5];omega)) ?_;refine e_ 2 T (x':=AI (left-1-sz a)) (aL e5) ?_;refine A.again ?_;refine y_ ?_;refine R_ ?_;refine Sb.eq (aL ?_);rw [sN,iT (hf.2 hfa)];simp [sz,oJ];omega
  ·simp only [bK] at hp⊢;simp only [sz,oJ] at hn;have hf:=fits2 (room:=left) (deep:=32-inside) hs;have e3:32-inside-1=32-(inside+1):=by omega
   have e4:left-(1+(sz a:Int))=left-1-sz a:=by omega
   rw [e3,e4] at hf;have ha:=iL a;have hb:=iL b;have ih:=H3 N a (inside+1) (left-1) (by omega) (xO hw).1 (by omega) (by omega) (by omega) (by omega);rw [aK] at ih;refine P_ func140 40 fun _ _ _ _=>?_
   (refine lS fun bx=>?_;refine g_ ?_)
   refine A.aa 14 T (x':=AB false) (aA (h14 _ T)) ?_;refine n_ (hp) ?_;refine e_ 16 T (x':=AB true) (aA hs) ?_;refine A.ao ?_;refine y_ ?_;refine j_ T T T ?_;refine e_ 31 T (c8 a) ?_;refine A.aa 34 T (x':=AI (inside+1)) (aL hw2) ?_;refine A.aa 35 T (x':=AI (left-1)) (aL hw1) ?_;refine c_ (ih) ?_
   by_cases hfa:fits a (left-1) (32-(inside+1))
   case neg=>
    have e5:sN a (inside+1) (left-1)= -1:=iF hfa;have hnf: ¬fits ⟨k,o,t,n,v,[a,b]⟩ left (32-inside):=fun h=>hfa ((hf.1 h).1);refine e_ 38 T (x':=AB true) (aA (by simp [e5])) ?_;refine R_ ?_;exact Sb.eq (aL (iF hnf).symm)
   have e5:sN a (inside+1) (left-1)=left-1-sz a:=iT hfa;have h5:=hfa.2.1;refine A.aa 38 T (x':=AB false) (aA (by simp [e5];omega)) ?_;refine e_ 2 T (x':=AI (left-1-sz a)) (aL e5) ?_;refine A.again ?_;refine y_ ?_;have ih2:=H3 N b (inside+1) (left-1-sz a) (by omega) (xO hw).2 (by omega) (by omega) (by omega) (by omega);rw [aK] at ih2;refine j_ T T T ?_;refine e_ 31 T (c8 b) ?_;refine A.aa 34 T (x':=AI (inside+1)) (aL hw2) ?_;refine A.aa 35 T (x':=AI (left-1-sz a)) (aL T) ?_;refine c_ (ih2) ?_
   by_cases hfb:fits b (left-1-sz a) (32-(inside+1))
   case neg=>
    have e6:sN b (inside+1) (left-1-sz a)= -1:=iF hfb;have hnf: ¬fits ⟨k,o,t,n,v,[a,b]⟩ left (32-inside):=fun h=>hfb (hf.1 h).2;refine e_ 38 T (x':=AB true) (aA (by simp [e6])) ?_;refine R_ ?_;exact Sb.eq (aL (iF hnf).symm)
   have e6:sN b (inside+1) (left-1-sz a)=left-1-sz a-sz b:=iT hfb;have h6:=hfb.2.1;refine A.aa 38 T (x':=AB false) (aA (by simp [e6];omega)) ?_;refine e_ 2 T (x':=AI (left-1-sz a-sz b)) (aL e6) ?_;refine A.again ?_;refine y_ ?_;refine R_ ?_;refine Sb.eq (aL ?_);rw [sN,iT (hf.2 ⟨hfa,hfb⟩)];simp [sz,oJ];omega
theorem K8(e:KE)(hw:l5 e):Pure prog aU 98 [dK e] (AB (decide (valid e))):=by
 have hp:=H3 (sz e) e 0 256 (ab3 _) hw (by decide) (by decide) (by decide) (by decide);rw [aK] at hp⊢;refine P_ func98 6 fun _ _ _ _=>?_
 (refine b_ fun bx=>?_;refine y_ ?_)
 refine c_ (hp) ?_;refine R_ ?_;refine Sb.eq (aA ?_);rw [sN]
 by_cases h:fits e 256 32
 ·have h2:=h.2.1;rw [show (32:Int)-0=32 from rfl,iT h,decide_eq_true h];simp;omega
 ·rw [show (32:Int)-0=32 from rfl,iF h,decide_eq_false h];rfl
abbrev FK:=Int->Bool
def eI(l:List KV)(k o t n v:Int)(fs:List FK)(kind:Int):Bool:=
 if k=1 then (kind==1||(kind==2&&decide (0<=n)&&decide (n<=255))||(kind==3&&(n==0||n==1)))
 else if k=2 then (match l[v.toNat]? with|some x=>x.dim==0&&x.kind==kind|none=>false)
 else if k=3 then (match l[v.toNat]?,fs with|some x,f::_=>decide (0<x.dim)&&x.kind==kind&&f 1|_,_=>false)
 else match fs with
 | []=>false
 |f::r=>if k=6 then t==kind&&(f 1||f 2||f 3)
  else if k=4 then (if o=26 then kind==3&&f 3 else kind==1&&f 1)
  else match r with
  | []=>false
  |g::_=>if o<=13 then kind==1&&(f 1&&g 1) else if kind≠3 then false
   else if o=14\/o=15 then (f 1&&g 1)||(f 2&&g 2)||(f 3&&g 3)
   else if o<=19 then (f 1&&g 1)||(f 2&&g 2)
   else if o=22 then f 1&&g 1 else f 3&&g 3
mutual
def aD(l:List KV):KE->FK
 |⟨k,o,t,n,v,a⟩=>eI l k o t n v (cN l a)
def cN(l:List KV):List KE->List FK
 | []=>[] |e::r=>aD l e::cN l r
end
theorem both_p(l:List KV)(k o t n v:Int)(a b:KE)(kind:Int)(ha:Pure prog aU 175 [jA l,dK a,cC kind] (AB (aD l a kind)))(hb:Pure prog aU 175 [jA l,dK b,cC kind] (AB (aD l b kind))):
 Pure prog aU 214 [jA l,dK ⟨k,o,t,n,v,[a,b]⟩,cC kind] (AB (aD l a kind&&aD l b kind)):=by
 have ea:=aK a;have eb:=aK b;rw [ea] at ha;rw [eb] at hb;simp only [dK,bK];cases hfa:aD l a kind with
 |false=>
  rw [hfa] at ha;refine P_ func214 23 fun _ _ _ _=>?_
  (refine b_ fun bx=>?_;refine y_ ?_);refine i_ T (by rfl) ea ?_;exact oR ha
 |true=>
  rw [hfa] at ha;refine P_ func214 23 fun _ _ _ _=>?_
  (refine b_ fun bx=>?_;refine y_ ?_);refine i_ T (by rfl) ea ?_;refine c_ ha ?_;refine i_ T (by rfl) eb ?_;exact oR hb
theorem kW(l:List KV): ∀(N:Nat) (e:KE) (kind:Int),ht e<=N->mM e=true->Pure prog aU 175 [jA l,dK e,cC kind] (AB (aD l e kind))
 |0,e,_,hn,_=>by rw [V4] at hn;omega |N+1,e,kind,hn,hf=>by
  have hlen:((l.map mY).length:Int)=l.length:=by rw [aa0]
  rcases lR hf with ⟨n,rfl⟩|⟨v,h1,h2,rfl⟩|⟨v,a,h1,h2,h3,rfl⟩|⟨o,a,h1,h2,h3,rfl⟩|⟨o,a,b,h1,h2,h3,h4,rfl⟩|⟨t,a,h1,h2,h3,rfl⟩
  ·simp only [dK,bK];refine P_ func175 214 fun _ _ _ _=>?_
   (refine lS fun bx=>?_;refine g_ ?_);refine R_ ?_;refine Sb.eq (aA ?_)
   simp only [aD,cN,eI,iT];cases (kind==1)<;>cases (kind==2)<;>cases (kind==3)<;>cases (n==0)<;>cases (n==1)<;>simp
  ·simp only [dK,bK]
   by_cases hv:v<l.length
   ·refine ab4 (pU h1 hv) fun x hx=>?_;refine P_ func175 214 fun _ _ _ _=>?_
    (refine b_ fun bx=>?_;refine y_ ?_)
    refine e_ 48 T (x':=AB true) (aA (by rw [hlen];simp [hv])) ?_;refine A.x T h1 (aC hx) T T ?_;refine y_ ?_;refine A.split 57 T (fun h=>?_) (fun h=>?_)
    ·refine y_ ?_;refine A.x T h1 (aC hx) T T ?_;refine y_ ?_;refine R_ ?_;refine Sb.eq (aA ?_);(try simp only [cond_true,cond_false] at h);(try simp only [cond_true,cond_false] at h');simp [aD,cN,eI,hx,h]
    ·refine y_ ?_;refine R_ ?_;refine Sb.eq (aA ?_);(try simp only [cond_true,cond_false] at h);(try simp only [cond_true,cond_false] at h');simp [aD,cN,eI,hx,h]
   ·refine P_ func175 214 fun _ _ _ _=>?_
    (refine b_ fun bx=>?_;refine y_ ?_)
    refine e_ 48 T (x':=AB false) (aA (by rw [hlen];simp;omega)) ?_;refine R_ ?_;refine Sb.eq (aA ?_);simp [aD,cN,eI,oQ (l:=l) (i:=v) (by omega)]
  ·rw [ht,fN,fN] at hn;have ea:=aK a;have ih:=kW l N a 1 (by omega) h3;rw [ea] at ih;simp only [dK,bK]
   by_cases hv:v<l.length
   ·refine ab4 (pU h1 hv) fun x hx=>?_;refine P_ func175 214 fun _ _ _ _=>?_
    (refine b_ fun bx=>?_;refine y_ ?_)
    refine e_ 74 T (x':=AB true) (aA (by rw [hlen];simp [hv])) ?_;refine A.x T h1 (aC hx) T T ?_;refine y_ ?_;refine A.split 83 T (fun h=>?_) (fun h=>?_)
    ·refine y_ ?_;refine A.x T h1 (aC hx) T T ?_;refine y_ ?_;refine A.split 93 T (fun h'=>?_) (fun h'=>?_)
     ·refine y_ ?_;refine i_ T (by rfl) ea ?_;refine c_ ih ?_;refine R_ ?_;refine Sb.eq (aA ?_);(try simp only [cond_true,cond_false] at h);(try simp only [cond_true,cond_false] at h');simp [aD,cN,eI,hx,h,h']
     ·refine y_ ?_;refine R_ ?_;refine Sb.eq (aA ?_);(try simp only [cond_true,cond_false] at h);(try simp only [cond_true,cond_false] at h');simp [aD,cN,eI,hx,h,h']
    ·refine y_ ?_;refine R_ ?_;refine Sb.eq (aA ?_);(try simp only [cond_true,cond_false] at h);(try simp only [cond_true,cond_false] at h');simp [aD,cN,eI,hx,h]
   ·refine P_ func175 214 fun _ _ _ _=>?_
    (refine b_ fun bx=>?_;refine y_ ?_)
    refine e_ 74 T (x':=AB false) (aA (by rw [hlen];simp;omega)) ?_;refine R_ ?_;refine Sb.eq (aA ?_);simp [aD,cN,eI,oQ (l:=l) (i:=v) (by omega)]
  ·rw [ht,fN,fN] at hn;have ea:=aK a;have ih1:=kW l N a 1 (by omega) h3;have ih3:=kW l N a 3 (by omega) h3;rw [ea] at ih1 ih3;simp only [dK,bK]
   by_cases ho:o=26
   ·refine P_ func175 214 fun _ _ _ _=>?_
    (refine b_ fun bx=>?_;refine y_ ?_)
    refine e_ 135 T (x':=AB true) (aA (by simp [ho])) ?_;refine A.split 138 T (fun h=>?_) (fun h=>?_)
    ·refine y_ ?_;refine i_ T (by rfl) ea ?_;refine c_ ih3 ?_;refine R_ ?_;refine Sb.eq (aA ?_);(try simp only [cond_true,cond_false] at h);(try simp only [cond_true,cond_false] at h');simp [aD,cN,eI,ho,h]
    ·refine y_ ?_;refine R_ ?_;refine Sb.eq (aA ?_);(try simp only [cond_true,cond_false] at h);(try simp only [cond_true,cond_false] at h');simp [aD,cN,eI,ho,h]
   ·refine P_ func175 214 fun _ _ _ _=>?_
    (refine b_ fun bx=>?_;refine y_ ?_)
    refine e_ 135 T (x':=AB false) (aA (by simp [ho])) ?_;refine A.split 148 T (fun h=>?_) (fun h=>?_)
    ·refine y_ ?_;refine i_ T (by rfl) ea ?_;refine c_ ih1 ?_;refine R_ ?_;refine Sb.eq (aA ?_);(try simp only [cond_true,cond_false] at h);(try simp only [cond_true,cond_false] at h');simp [aD,cN,eI,ho,h]
    ·refine y_ ?_;refine R_ ?_;refine Sb.eq (aA ?_);(try simp only [cond_true,cond_false] at h);(try simp only [cond_true,cond_false] at h');simp [aD,cN,eI,ho,h]
  ·rw [ht,fN,fN,fN] at hn;have hB: ∀j,Pure prog aU 214 [jA l,dK ⟨5,o,0,0,0,[a,b]⟩,cC j] (AB (aD l a j&&aD l b j)):=fun j=>both_p l 5 o 0 0 0 a b j (kW l N a j (by omega) h3) (kW l N b j (by omega) h4);have hB1:=hB 1;have hB2:=hB 2;have hB3:=hB 3;simp only [dK,bK] at hB1 hB2 hB3⊢
   by_cases g1:o<=13
   ·refine P_ func175 214 fun _ _ _ _=>?_
    (refine b_ fun bx=>?_;refine y_ ?_)
    refine e_ 156 T (x':=AB true) (aA (by simp [g1])) ?_;refine A.split 162 T (fun h=>?_) (fun h=>?_)
    ·refine y_ ?_;refine c_ hB1 ?_;refine R_ ?_;refine Sb.eq (aA ?_);(try simp only [cond_true,cond_false] at h);(try simp only [cond_true,cond_false] at h');simp [aD,cN,eI,g1,h]
    ·refine y_ ?_;refine R_ ?_;refine Sb.eq (aA ?_);(try simp only [cond_true,cond_false] at h);(try simp only [cond_true,cond_false] at h');simp [aD,cN,eI,g1,h]
   by_cases g2:kind=3
   case neg=>
    refine P_ func175 214 fun _ _ _ _=>?_
    (refine b_ fun bx=>?_;refine y_ ?_)
    refine e_ 156 T (x':=AB false) (aA (by simp;omega)) ?_;refine e_ 167 T (x':=AB true) (aA (by simp [g2])) ?_;refine R_ ?_;refine Sb.eq (aA ?_);simp [aD,cN,eI,g1,g2]
   by_cases g3:o=14
   ·refine P_ func175 214 fun _ _ _ _=>?_
    (refine b_ fun bx=>?_;refine y_ ?_)
    refine e_ 156 T (x':=AB false) (aA (by simp;omega)) ?_;refine e_ 167 T (x':=AB false) (aA (by simp [g2])) ?_;refine A.aa 174 T (x':=AB true) (aA (by simp [g3])) ?_
    (refine y_ ?_;refine c_ hB1 ?_;refine A.split 182 T (fun h=>?_) (fun h=>?_);(refine y_ ?_;refine R_ ?_;refine Sb.eq (aA ?_);simp only [cond_true,cond_false,aa3] at h;simp [aD,cN,eI,g2,h.1,h.2, *]);(refine y_ ?_;refine c_ hB2 ?_;refine A.split 187 T (fun h'=>?_) (fun h'=>?_);(refine y_ ?_;refine R_ ?_;refine Sb.eq (aA ?_);simp only [cond_true,cond_false,aa3] at h';simp [aD,cN,eI,g2,h,h'.1,h'.2, *]);(refine y_ ?_;refine c_ hB3 ?_;refine R_ ?_;refine Sb.eq (aA ?_);(try simp only [cond_true,cond_false] at h');simp [aD,cN,eI,g2,h,h', *])))
   by_cases g4:o=15
   ·refine P_ func175 214 fun _ _ _ _=>?_
    (refine b_ fun bx=>?_;refine y_ ?_)
    refine e_ 156 T (x':=AB false) (aA (by simp;omega)) ?_;refine e_ 167 T (x':=AB false) (aA (by simp [g2])) ?_;refine e_ 174 T (x':=AB false) (aA (by simp [g3])) ?_;refine A.aa 170 T (x':=AB true) (aA (by simp [g4])) ?_
    (refine y_ ?_;refine c_ hB1 ?_;refine A.split 182 T (fun h=>?_) (fun h=>?_);(refine y_ ?_;refine R_ ?_;refine Sb.eq (aA ?_);simp only [cond_true,cond_false,aa3] at h;simp [aD,cN,eI,g2,h.1,h.2, *]);(refine y_ ?_;refine c_ hB2 ?_;refine A.split 187 T (fun h'=>?_) (fun h'=>?_);(refine y_ ?_;refine R_ ?_;refine Sb.eq (aA ?_);simp only [cond_true,cond_false,aa3] at h';simp [aD,cN,eI,g2,h,h'.1,h'.2, *]);(refine y_ ?_;refine c_ hB3 ?_;refine R_ ?_;refine Sb.eq (aA ?_);(try simp only [cond_true,cond_false] at h');simp [aD,cN,eI,g2,h,h', *])))
   by_cases g5:o<=19
   ·refine P_ func175 214 fun _ _ _ _=>?_
    (refine b_ fun bx=>?_;refine y_ ?_)
    refine e_ 156 T (x':=AB false) (aA (by simp;omega)) ?_;refine e_ 167 T (x':=AB false) (aA (by simp [g2])) ?_;refine e_ 174 T (x':=AB false) (aA (by simp [g3])) ?_;refine e_ 170 T (x':=AB false) (aA (by simp [g4])) ?_;refine e_ 192 T (x':=AB true) (aA (by simp [g5])) ?_;refine c_ hB1 ?_;refine A.split 199 T (fun h=>?_) (fun h=>?_)
    ·refine y_ ?_;refine R_ ?_;refine Sb.eq (aA ?_);simp only [cond_true,cond_false,aa3] at h;simp [aD,cN,eI,g1,g2,g3,g4,g5,h.1,h.2]
    ·refine y_ ?_;refine c_ hB2 ?_;refine R_ ?_;refine Sb.eq (aA ?_);(try simp only [cond_true,cond_false] at h);(try simp only [cond_true,cond_false] at h');simp [aD,cN,eI,g1,g2,g3,g4,g5,h]
   by_cases g6:o=22
   ·refine P_ func175 214 fun _ _ _ _=>?_
    (refine b_ fun bx=>?_;refine y_ ?_)
    refine e_ 156 T (x':=AB false) (aA (by simp;omega)) ?_;refine e_ 167 T (x':=AB false) (aA (by simp [g2])) ?_;refine e_ 174 T (x':=AB false) (aA (by simp [g3])) ?_;refine e_ 170 T (x':=AB false) (aA (by simp [g4])) ?_;refine e_ 192 T (x':=AB false) (aA (by simp;omega)) ?_;refine e_ 204 T (x':=AB true) (aA (by simp [g6])) ?_;refine c_ hB1 ?_;refine R_ ?_;refine Sb.eq (aA ?_);simp [aD,cN,eI,g2,g6]
   ·refine P_ func175 214 fun _ _ _ _=>?_
    (refine b_ fun bx=>?_;refine y_ ?_)
    refine e_ 156 T (x':=AB false) (aA (by simp;omega)) ?_;refine e_ 167 T (x':=AB false) (aA (by simp [g2])) ?_;refine e_ 174 T (x':=AB false) (aA (by simp [g3])) ?_;refine e_ 170 T (x':=AB false) (aA (by simp [g4])) ?_;refine e_ 192 T (x':=AB false) (aA (by simp;omega)) ?_;refine e_ 204 T (x':=AB false) (aA (by simp [g6])) ?_;refine c_ hB3 ?_;refine R_ ?_;refine Sb.eq (aA ?_);simp [aD,cN,eI,g1,g2,g3,g4,g5,g6]
  ·rw [ht,fN,fN] at hn;have ea:=aK a;have ih1:=kW l N a 1 (by omega) h3;have ih2:=kW l N a 2 (by omega) h3;have ih3:=kW l N a 3 (by omega) h3;rw [ea] at ih1 ih2 ih3;simp only [dK,bK]
   by_cases ho:t=kind
   ·refine P_ func175 214 fun _ _ _ _=>?_
    (refine b_ fun bx=>?_;refine y_ ?_)
    refine e_ 107 T (x':=AB true) (aA (by simp [ho])) ?_;refine i_ T (by rfl) ea ?_;refine c_ ih1 ?_;refine A.split 114 T (fun h=>?_) (fun h=>?_)
    ·refine y_ ?_;refine R_ ?_;refine Sb.eq (aA ?_);(try simp only [cond_true,cond_false] at h);(try simp only [cond_true,cond_false] at h');simp [aD,cN,eI,ho,h]
    ·refine y_ ?_;refine i_ T (by rfl) ea ?_;refine c_ ih2 ?_;refine A.split 122 T (fun h'=>?_) (fun h'=>?_)
     ·refine y_ ?_;refine R_ ?_;refine Sb.eq (aA ?_);(try simp only [cond_true,cond_false] at h);(try simp only [cond_true,cond_false] at h');simp [aD,cN,eI,ho,h,h']
     ·refine y_ ?_;refine i_ T (by rfl) ea ?_;refine c_ ih3 ?_;refine R_ ?_;refine Sb.eq (aA ?_);(try simp only [cond_true,cond_false] at h);(try simp only [cond_true,cond_false] at h');simp [aD,cN,eI,ho,h,h']
   ·refine P_ func175 214 fun _ _ _ _=>?_
    (refine b_ fun bx=>?_;refine y_ ?_)
    refine e_ 107 T (x':=AB false) (aA (by simp [ho])) ?_;refine R_ ?_;refine Sb.eq (aA ?_);simp [aD,cN,eI,ho]
def lD(k:Int):Bool:=decide (1<=k)&&decide (k<=3)
theorem HM(k:Int):Pure prog aU 37 [cC k] (AB (lD k)):=by
 refine P_ func37 9 fun _ _ _ _=>?_;refine y_ ?_
 ((fail_if_success (refine A.lit? T ?_));refine A.gS T (fun hc=>?_) (fun hc=>?_))
 ·refine y_ ?_;refine R_ ?_;refine Sb.eq (aA ?_);rw [lD,hc];rfl
 ·refine y_ ?_;refine R_ ?_;refine Sb.eq (aA ?_);rw [lD,hc];rfl
theorem VN(e:KE)(hw:l5 e):Pure prog aU 216 [dK e] (AB (cH e)):=by
 obtain ⟨k,o,t,n,v,l⟩:=e;simp only [l5,u8,i32,i64] at hw;obtain ⟨hw,_⟩:=hw;rw [dK]
 by_cases h1:k=1
 ·subst h1;refine P_ func216 87 fun _ _ _ _=>?_
  (refine lS fun bx=>?_;refine lS fun bx=>?_;refine g_ ?_);refine R_ ?_;(refine Sb.eq (gE ?_);simp only [cH,KE.kind,KE.oper,KE.to,KE.n,KE.v,KE.l,bG];generalize l.length=len at*;(try simp at hc);(try simp at hd);simp;omega)
 by_cases h2:k=2
 ·subst h2;refine P_ func216 87 fun _ _ _ _=>?_
  (refine lS fun bx=>?_;refine lS fun bx=>?_;refine g_ ?_);refine R_ ?_;(refine Sb.eq (gE ?_);simp only [cH,KE.kind,KE.oper,KE.to,KE.n,KE.v,KE.l,bG];generalize l.length=len at*;(try simp at hc);(try simp at hd);simp;omega)
 by_cases h3:k=3
 ·subst h3;refine P_ func216 87 fun _ _ _ _=>?_
  (refine lS fun bx=>?_;refine lS fun bx=>?_;refine g_ ?_);refine R_ ?_;(refine Sb.eq (gE ?_);simp only [cH,KE.kind,KE.oper,KE.to,KE.n,KE.v,KE.l,bG];generalize l.length=len at*;(try simp at hc);(try simp at hd);simp;omega)
 by_cases h4:k=4
 ·subst h4;refine P_ func216 87 fun _ _ _ _=>?_
  (refine lS fun bx=>?_;refine lS fun bx=>?_;refine g_ ?_);refine R_ ?_;(refine Sb.eq (gE ?_);simp only [cH,KE.kind,KE.oper,KE.to,KE.n,KE.v,KE.l,bG];generalize l.length=len at*;(try simp at hc);(try simp at hd);simp;omega)
 by_cases h5:k=5
 ·subst h5;refine P_ func216 87 fun _ _ _ _=>?_
  (refine lS fun bx=>?_;refine lS fun bx=>?_;refine g_ ?_);refine R_ ?_;(refine Sb.eq (gE ?_);simp only [cH,KE.kind,KE.oper,KE.to,KE.n,KE.v,KE.l,bG];generalize l.length=len at*;(try simp at hc);(try simp at hd);simp;omega)
 by_cases h6:k=6
 ·subst h6;refine P_ func216 87 fun _ _ _ _=>?_
  (refine lS fun bx=>?_;refine lS fun bx=>?_;refine g_ ?_);refine n_ (HM _) ?_;refine g_ ?_;refine R_ ?_
  refine Sb.eq (gE ?_);simp only [cH,lD,KE.kind,KE.oper,KE.to,KE.n,KE.v,KE.l,bG];generalize l.length=len at*;simp;omega
 refine P_ func216 87 fun _ _ _ _=>?_;(repeat (first|first|refine A.s T ?_|refine A.r T T ?_|refine A.w T T ?_|refine A.p T ?_|refine A.b T fun bx=>?_|refine A.t T fun bl=>?_|refine A.cond T (fun h=>(by simp at h;omega)) (fun _=>?_)|first|refine A.step T ?_|refine A.v T T ?_));refine R_ ?_;refine Sb.eq ?_;simp [cH, *]
def mN(l:List KE)(room deep:Int):Prop:=kV l=true/\(oJ l:Int)<=room/\(fN l:Int)<=deep
instance (l:List KE) (room deep:Int):Decidable (mN l room deep):=by unfold mN;infer_instance
theorem sz_eq(e:KE):sz e=1+oJ e.l:=by obtain ⟨k,o,t,n,v,l⟩:=e;rw [sz]
theorem a0f(e:KE):mM e=(cH e&&kV e.l):=by obtain ⟨k,o,t,n,v,l⟩:=e;rw [mM]
theorem fits_l{e:KE}{room deep:Int}(hr:1<=room)(hd:1<=deep)(hs:cH e=true):fits e room deep↔mN e.l (room-1) (deep-1):=by
 unfold fits mN;rw [a0f,hs,ac2,sz_eq,V4];constructor
 ·rintro ⟨h1,h2,h3⟩;exact ⟨h1,by omega,by omega⟩
 ·rintro ⟨h1,h2,h3⟩;exact ⟨h1,by omega,by omega⟩
theorem vL(a b:List KE):oJ (a++b)=oJ a+oJ b:=by
 induction a with
 |nil=>simp [oJ] |cons x r ih=>rw [ad4,oJ,oJ,ih];omega
theorem CM(a b:List KE):fN (a++b)=max (fN a) (fN b):=by
 induction a with
 |nil=>simp [fN] |cons x r ih=>rw [ad4,fN,fN,ih];omega
theorem wF(a b:List KE):kV (a++b)=(kV a&&kV b):=by
 induction a with
 |nil=>simp [kV] |cons x r ih=>rw [ad4,kV,kV,ih,Bool.and_assoc]
theorem JL{a:List KE}{x:KE}{room deep:Int}(ha:mN a room deep):mN (a++[x]) room deep↔fits x (room-oJ a) deep:=by
 obtain ⟨h1,h2,h3⟩:=ha;unfold mN fits;rw [wF,vL,CM,h1,ac2];simp only [kV,oJ,fN,am1];constructor
 ·rintro ⟨g1,g2,g3⟩;exact ⟨g1,by omega,by omega⟩
 ·rintro ⟨g1,g2,g3⟩;exact ⟨g1,by omega,by omega⟩
theorem JM{l:List KE}{room deep:Int}(h:mN l room deep)(i:Nat):mN (l.take i) room deep:=by obtain ⟨h1,h2,h3⟩:=h;rw [<-List.take_append_drop i l] at h1 h2 h3;rw [wF,aa3] at h1;rw [vL] at h2;rw [CM] at h3;exact ⟨h1.1,by omega,by omega⟩
theorem YO: ∀{l:List KE} {x:KE},x∈l->sz x<=oJ l
 | [],_,h=>by cases h |y::r,x,h=>by
  rw [oJ];rcases ab6.1 h with rfl|h
  ·omega
  ·have:=YO h;omega
theorem sV: ∀{l:List KE},nJ l-> ∀x,x∈l->l5 x
 | [],_,x,h=>by cases h |y::r,hw,x,h=>by
  rw [nJ] at hw;rcases ab6.1 h with rfl|h
  ·exact hw.1
  ·exact sV hw.2 x h
theorem wfK_l{e:KE}(h:l5 e):nJ e.l:=by obtain ⟨k,o,t,n,v,l⟩:=e;rw [l5] at h;exact h.2
theorem eW{l:List KE}{i:Nat}{x:KE}(h:l[i]? =some x):(bK l)[i]? =some (dK x):=by rw [xZ];exact aC h
abbrev nQ(e:KE):AV:= .ag [cC e.kind,cC e.oper,cC e.to,aN e.n,AI e.v, .sl 6 (bK e.l) none]
abbrev aT(b:Nat):AV:= .v (.pointer (some ⟨b,0,none⟩))
def rT(b1 b2:Nat):AV:= .fn 215 [] [aT b1,aT b2]
abbrev visKX(e:KE)(left deep:Int):Int->AV:=fun _=>AB (decide (fits e left (33-deep)))
abbrev visKL(b1 b2:Nat):Int->List aH:=fun i=>[.box b1 (AI i), .box b2 (rT b1 b2)]
abbrev visKP(e:KE)(left deep:Int):Int->Prop:=fun i=>fits e left (33-deep)->i=left-sz e
def T5(b1 b2:Nat)(x:KE)(left deep:Int):Prop:=fB prog aU 215 [nQ x,AI deep,aT b1,aT b2] [.box b1 (AI left), .box b2 (rT b1 b2)] (visKX x left deep) (visKL b1 b2) (visKP x left deep)
theorem cloK_p(b1 b2 b3:Nat)(x:KE)(left deep:Int)(hd:IntKind.i64.wrap (deep+1)=deep+1)(hcb:T5 b1 b2 x left (deep+1)):
 fB prog aU 218 [nQ x,aT b2,aT b3] [.box b1 (AI left), .box b2 (rT b1 b2), .box b3 (AI deep)] (fun _:Int=>AB (!decide (fits x left (33-(deep+1))))) (fun i=>[.box b1 (AI i), .box b2 (rT b1 b2), .box b3 (AI deep)]) (visKP x left (deep+1)):=by
 unfold fB;refine jB.of (S:=tt) (fn:=f218) (n:=11) dE func218 T T T T fun w0 h0 F hgs=>?_
 (refine b_ fun bx=>?_;refine y_ ?_)
 refine A.aa 8 T (x':=AI (deep+1)) (aL hd) ?_;refine A.e T hcb .refl (List.perm_middle (a:=_) (l₁:=[_,_]) (l₂:=[_])).symm fun lf hlf=>?_;refine y_ ?_;refine A.au (Λ':=[.box b1 _, .box b2 _, .box b3 _]) T T T rF ⟨lf, .refl,rfl,hlf⟩
abbrev idxKP(l:List KE)(left D:Int):Int×Int->Prop:=fun p=>(p.1= -1\/0<=p.1)/\(p.1= -1↔mN l left D)/\(p.1= -1->p.2=left-oJ l)
theorem idxK_p(b1 b2 b3:Nat)(l:List KE)(left deep:Int)(hd:IntKind.i64.wrap (deep+1)=deep+1)(hl:l.length<=2)(h0:0<=left)(h33:0<=33-(deep+1))
 (hcb: ∀x,x∈l-> ∀lf,0<=lf->lf<=left->T5 b1 b2 x lf (deep+1)):
 fB prog aU 235 [.sl 6 (bK l) none, .fn 218 [] [aT b2,aT b3]] [.box b1 (AI left), .box b2 (rT b1 b2), .box b3 (AI deep)]
  (fun p:Int×Int=>AI p.1) (fun p=>[.box b1 (AI p.2), .box b2 (rT b1 b2), .box b3 (AI deep)]) (idxKP l left (33-(deep+1))):=by
 unfold fB;refine jB.of (S:=tt) (fn:=f235) (n:=19) dE func235 T T T T fun w0 h0 F hgs=>?_;refine y_ ?_;refine A.aa 7 T (x':=AI (l.length:Nat)) (aL (by rw [bG])) ?_;refine A.ab (Λ':=[.box b1 (AI (left-(oJ (l.take 0):Nat))), .box b2 (rT b1 b2), .box b3 (AI deep)]) (by simp [oJ]) ?_;refine A.af [0,1,7,8] T ?_
 refine A.ae (ι:=Nat×Int) (fun p=>(⟨[(0, .sl 6 (bK l) none),(1, .fn 218 [] [aT b2,aT b3]),(7,AI (l.length:Nat)),(8,AI (p.1:Nat))],[]⟩,[.box b1 (AI p.2), .box b2 (rT b1 b2), .box b3 (AI deep)]))
  (fun p=>p.1<=l.length/\mN (l.take p.1) left (33-(deep+1))/\p.2=left-(oJ (l.take p.1):Nat)) (fun p=>l.length-p.1) (0,left-(oJ (l.take 0):Nat)) ⟨aa4 _,⟨by simp [kV],by simp [oJ];omega,by simp [fN];omega⟩,rfl⟩ T fun p hi ih=>?_
 obtain ⟨i,lf⟩:=p;obtain ⟨hi1,hi2,hi3⟩:=hi;simp only at hi1 hi2 hi3;have hsz2:=hi2.2.1;refine y_ ?_;refine k_ (fun hc=>?_) fun hc=>?_
 ·simp at hc;refine ab4 (bT (l:=l) (i:=i) (by omega)) fun x hx=>?_;have hxm:=aa2 hx;have htk:l.take (i+1)=l.take i++[x]:=by rw [ac9,hx];rfl
  have hsn:=JL (x:=x) hi2;rw [<-htk,<-hi3] at hsn;have hcx:=cloK_p b1 b2 b3 x lf deep hd (hcb x hxm lf (by omega) (by omega));refine y_ ?_;refine i_ T (eW hx) (aK x) ?_;refine A.e T hcx .refl (by exact List.Perm.refl _) fun lf2 hlf2=>?_
  by_cases hfx:fits x lf (33-(deep+1))
  ·refine e_ 16 T (x':=AB false) (aA (by simp [hfx])) ?_;refine vI 8 i ?_;refine u_ (ih (i+1,lf2) ⟨by show i+1<=_;omega,hsn.2 hfx,?_⟩ (by show _-(i+1)<_-i;omega));show lf2=left-(oJ (l.take (i+1)):Nat);rw [hlf2 hfx,htk,vL,hi3];simp [oJ];omega
  ·have hnf: ¬mN l left (33-(deep+1)):=fun hf=>hfx (hsn.1 (JM hf (i+1)));refine e_ 16 T (x':=AB true) (aA (by simp [hfx])) ?_;refine A.au (Λ':=[.box b1 _, .box b2 _, .box b3 _]) T T T rF ⟨((i:Int),lf2), .refl,rfl, .inr (by simp only;omega),⟨fun h=>by simp only at h;omega,fun h=>absurd h hnf⟩,fun h=>by simp only at h;omega⟩
 ·simp at hc;have hil:i=l.length:=by omega
  rw [hil,ac4] at hi2 hi3;refine y_ ?_;refine A.au (Λ':=[.box b1 _, .box b2 _, .box b3 _]) T T T rF ⟨((-1:Int),lf), .refl,rfl, .inl T,⟨fun _=>hi2,fun _=>rfl⟩,fun _=>hi3⟩
theorem hasK_p(b1 b2 b3:Nat)(l:List KE)(left deep:Int)(hd:IntKind.i64.wrap (deep+1)=deep+1)(hl:l.length<=2)(h0:0<=left)(h33:0<=33-(deep+1))
 (hcb: ∀x,x∈l-> ∀lf,0<=lf->lf<=left->T5 b1 b2 x lf (deep+1)):
 fB prog aU 217 [.sl 6 (bK l) none, .fn 218 [] [aT b2,aT b3]] [.box b1 (AI left), .box b2 (rT b1 b2), .box b3 (AI deep)]
  (fun p:Int×Int=>AB (decide (0<=p.1))) (fun p=>[.box b1 (AI p.2), .box b2 (rT b1 b2), .box b3 (AI deep)]) (idxKP l left (33-(deep+1))):=by
 have hi:=idxK_p b1 b2 b3 l left deep hd hl h0 h33 hcb;unfold fB;refine jB.of (S:=tt) (fn:=f217) (n:=9) dE func217 T T T T fun w0 h0 F hgs=>?_;refine y_ ?_;refine A.e T hi .refl (by exact List.Perm.refl _) fun p hp=>?_;refine y_ ?_;refine A.au (Λ':=[.box b1 _, .box b2 _, .box b3 _]) T T T rF ⟨p, .refl,rfl,hp⟩
theorem Y4(b1 b2:Nat): ∀(N:Nat) (e:KE) (left deep:Int),sz e<=N->l5 e->0<=left->left<=256->1<=deep->deep<=33->T5 b1 b2 e left deep
 |0,e,left,deep,hn,_,_,_,_,_=>by have:=iL e;omega |N+1,e,left,deep,hn,hw,r0,r1,d0,d1=>by
  have hw1:IntKind.i64.wrap (left-1)=left-1:=fR _ (by omega);have hw2:IntKind.i64.wrap (deep+1)=deep+1:=fR _ (by omega);have hp:=VN e hw;rw [aK] at hp;unfold T5 fB
  by_cases hz:left=0
  ·have hnf: ¬fits e left (33-deep):=nU (by omega);refine jB.of (S:=tt) (fn:=f215) (n:=25) dE func215 T T T T fun w0 h0 F hgs=>?_
   (refine b_ fun bx=>?_;refine b_ fun bx=>?_;refine y_ ?_)
   refine A.aa 10 T (x':=AB true) (aA (by rw [hw1];simp;omega)) ?_;refine e_ 11 T (x':=AB true) (aA (by rw [hw1];simp;omega)) ?_;(refine A.au (Λ':=[.box b1 _, .box b2 _]) T T T rF ⟨_,Sb.eq (aA ?_),rfl,?_⟩;exact (decide_eq_false hnf).symm;exact fun h=>absurd h hnf)
  by_cases hd33:deep=33
  ·have hnf: ¬fits e left (33-deep):=nU (by omega);refine jB.of (S:=tt) (fn:=f215) (n:=25) dE func215 T T T T fun w0 h0 F hgs=>?_
   (refine b_ fun bx=>?_;refine b_ fun bx=>?_;refine y_ ?_)
   refine e_ 11 T (x':=AB false) (aA (by rw [hw1];simp;omega)) ?_;refine e_ 15 T (x':=AB true) (aA (by simp;omega)) ?_;(refine A.au (Λ':=[.box b1 _, .box b2 _]) T T T rF ⟨_,Sb.eq (aA ?_),rfl,?_⟩;exact (decide_eq_false hnf).symm;exact fun h=>absurd h hnf)
  by_cases hs:cH e=true
  case neg=>
   have hs:cH e=false:=by simpa using hs
   have hnf: ¬fits e left (33-deep):=nU (by simp [hs]);rw [hs] at hp;refine jB.of (S:=tt) (fn:=f215) (n:=25) dE func215 T T T T fun w0 h0 F hgs=>?_
   (refine b_ fun bx=>?_;refine b_ fun bx=>?_;refine y_ ?_)
   refine e_ 11 T (x':=AB false) (aA (by rw [hw1];simp;omega)) ?_;refine e_ 15 T (x':=AB false) (aA (by simp;omega)) ?_;refine c_ hp ?_;(refine A.au (Λ':=[.box b1 _, .box b2 _]) T T T rF ⟨_,Sb.eq (aA ?_),rfl,?_⟩;exact (decide_eq_false hnf).symm;exact fun h=>absurd h hnf)
  rw [hs] at hp;have hfl:=fits_l (e:=e) (room:=left) (deep:=33-deep) (by omega) (by omega) hs;rw [show 33-deep-1=33-(deep+1) by omega] at hfl;have hll:e.l.length<=2:=by rcases sR hs with ⟨k,o,t,n,v,rfl⟩|⟨k,o,t,n,v,a,rfl⟩|⟨k,o,t,n,v,a,b,rfl⟩<;>simp
  have hse:=sz_eq e;have hhas:=fun b3=>hasK_p b1 b2 b3 e.l (left-1) deep hw2 hll (by omega) (by omega) fun x hx lf l0 l1=>Y4 b1 b2 N x lf (deep+1) (by have:=YO hx;omega) (sV (wfK_l hw) x hx) l0 (by omega) (by omega) (by omega);refine jB.of (S:=tt) (fn:=f215) (n:=25) dE func215 T T T T fun w0 h0 F hgs=>?_
  (refine b_ fun bx=>?_;refine b_ fun bx=>?_;refine y_ ?_)
  refine e_ 11 T (x':=AB false) (aA (by rw [hw1];simp;omega)) ?_;refine e_ 15 T (x':=AB false) (aA (by simp;omega)) ?_;refine c_ hp ?_;refine A.ab (Λ':=[.box _ (AI deep), .box _ (nQ e), .box b1 (AI (left-1)), .box b2 (rT b1 b2)]) (by rw [hw1]) ?_;refine A.e (Λ2:=[.box _ (nQ e)]) T (hhas _) .refl (ai8 (l₁:=[_,_]) (l₂:=[_,_])) fun p hpp=>?_;refine A.aa 23 T (x':=AB (decide (¬fits e left (33-deep)))) (aA ?_) ?_
  ·rw [ac8];simp only [dT,hfl,<-hpp.2.1];have:=hpp.1;constructor
   ·intro h;omega
   ·intro h;omega
  refine y_ ?_;refine A.au (Λ':=[.box b1 _, .box b2 _]) T T T rF ⟨p.2,Sb.eq (aA (by simp)),rfl,fun h=>?_⟩;have:=hpp.2.2 (hpp.2.1.2 (hfl.1 h));omega
theorem WM(e:KE)(hw:l5 e):Pure prog aU 177 [dK e] (AB (decide (valid e))):=by
 have hp:=fun b1 b2=>Y4 b1 b2 (sz e) e 256 1 (ab3 _) hw (by decide) (by decide) (by decide) (by decide);rw [aK];refine P_ func177 9 fun _ _ _ _=>?_
 (refine b_ fun bx=>?_;refine b_ fun bx=>?_;refine b_ fun bx=>?_;refine y_ ?_)
 refine A.e T (hp _ _) .refl (List.Perm.swap _ _ _) fun lf _=>?_;exact tV
abbrev jC(n:Int):AV:= .v (.int .u64 n)
theorem bO{a b:Int}(h:a=b):jC a=jC b:=by rw [h]
def kS(a b c:Bool):Int:=(if a then 2 else 0)+(if b then 4 else 0)+(if c then 8 else 0)
abbrev kF(f:FK):Int:=kS (f 1) (f 2) (f 3)
theorem gK(a b c:Bool):bitsOf .and .u64 18446744073709551615 (kS a b c)=kS a b c:=by cases a<;>cases b<;>cases c<;>kernel_rfl
theorem pK(a b c a' b' c':Bool):bitsOf .and .u64 (kS a b c) (kS a' b' c')=kS (a&&a') (b&&b') (c&&c'):=by cases a<;>cases b<;>cases c<;>cases a'<;>cases b'<;>cases c'<;>kernel_rfl
def hasB(n k:Int):Bool:=bitsOf .and .u64 (AM .shr .u64 n k) 1==1
theorem JU(a b c:Bool):hasB (kS a b c) 1=a:=by cases a<;>cases b<;>cases c<;>kernel_rfl
theorem has_2(a b c:Bool):hasB (kS a b c) 2=b:=by cases a<;>cases b<;>cases c<;>kernel_rfl
theorem O3(a b c:Bool):hasB (kS a b c) 3=c:=by cases a<;>cases b<;>cases c<;>kernel_rfl
theorem WI(a b c:Bool):(kS a b c !=0)=(a||b||c):=by cases a<;>cases b<;>cases c<;>rfl
theorem a0o(a b c:Bool):(bitsOf .and .u64 (kS a b c) 6 !=0)=(a||b):=by cases a<;>cases b<;>cases c<;>kernel_rfl
def TV(l:List Int):Int:=l.foldl (fun s k=>bitsOf .or .u64 s (AM .shl .u64 1 k)) 0
theorem zV(n k:Int)(hk:0<=k/\k<64):Pure prog aU 179 [jC n,cC k] (AB (hasB n k)):=by refine P_ func179 10 fun _ _ _ _=>?_;refine y_ ?_;refine A.shift T T T T T T (by omega) ?_;exact tV
theorem KF(l:List Int)(hl: ∀k,k∈l->0<=k/\k<64)(hb:l.length<=10):Pure prog aU 220 [.sl 1 (l.map cC) none] (jC (TV l)):=by
 refine P_ func220 17 fun _ _ _ _=>?_;refine y_ ?_;refine A.aa 6 T (x':=AI (l.length:Nat)) (aL (by rw [aa0])) ?_;refine A.af [2,5,6,7] T ?_;refine A.ae (ι:=Nat×Int) (fun p=>(⟨[(2,jC p.2),(5, .sl 1 (l.map cC) none),(6,AI (l.length:Nat)),(7,AI (p.1:Nat))],[]⟩,[])) (fun p=>p.1<=l.length/\(l.drop p.1).foldl (fun s k=>bitsOf .or .u64 s (AM .shl .u64 1 k)) p.2=TV l) (fun p=>l.length-p.1) (0,0) ⟨by simp,rfl⟩ T fun p hi ih=>?_;obtain ⟨i,s⟩:=p;simp only at hi ih⊢;refine y_ ?_;refine k_ (fun hc=>?_) fun hc=>?_
 ·simp at hc;refine ab4 (bT (l:=l) (i:=i) (by omega)) fun k hk=>?_;have hkb:=hl k (aa2 hk);have h1:=hi.2;rw [cB hk,List.foldl_cons] at h1;refine y_ ?_;refine i_ T (aC hk) T ?_;refine A.shift T T T T T T (by omega) ?_;refine y_ ?_;refine vI 7 i ?_;refine u_ (ih (i+1,bitsOf .or .u64 s (AM .shl .u64 1 k)) ⟨by simp only;omega,h1⟩ (by simp only;omega))
 ·simp at hc;have hil:i=l.length:=by omega
  have h1:=hi.2;rw [hil,ai3,List.foldl_nil] at h1;refine y_ ?_;refine R_ ?_;rw [h1];exact .refl
abbrev EN(b:Bool)(k:Int):FK:=fun j=>b&&j==k
theorem jN(b:Bool)(k:Int)(hk:1<=k/\k<=3):Pure prog aU 219 [AB b,cC k] (jC (kF (EN b k))):=by
 have ho:=KF [k] (fun x hx=>by rw [List.mem_singleton.1 hx];omega) (by simp);cases b with
 |false=>
  refine P_ func219 9 fun _ _ _ _=>?_;exact tV
 |true=>
  have he:TV [k]=kF (EN true k):=by
   have:k=1\/k=2\/k=3:=by omega
   rcases this with rfl|rfl|rfl
   ·exact (show TV [1]=kF (EN true 1) by kernel_rfl)
   ·exact (show TV [2]=kF (EN true 2) by kernel_rfl)
   ·exact (show TV [3]=kF (EN true 3) by kernel_rfl)
  rw [he] at ho;refine P_ func219 9 fun _ _ _ _=>?_;refine t_ fun bl=>?_;exact oR ho
theorem shr_0(n:Int)(d:Nat)(hd:d<32):(AM .shr .i32 n (d:Int)==0)=decide (0<=n/\n<2^d):=by
 simp only [AM,show IntKind.i32.bits=32 from rfl,ac7,ah6 (Nat.le_of_lt hd)];have h2:(0:Int)<2^d:=ao3 (by omega);rw [ah8 _ (aq4 h2),ac8];simp only [beq_iff_eq,dT];constructor
 ·intro h;have h3:=Int.emod_add_mul_ediv n (2^d);rw [h] at h3;have h4:=Int.emod_nonneg n (Int.ne_of_gt h2);have h5:=Int.emod_lt_of_pos n h2;omega
 ·rintro ⟨h3,h4⟩;exact Int.ediv_eq_zero_of_lt h3 h4
def pM(n:Int):FK:=fun k=>k==1||(k==2&&decide (0<=n)&&decide (n<=255))||(k==3&&(n==0||n==1))
theorem SB(n:Int):Pure prog aU 221 [aN n] (jC (kF (pM n))):=by
 have o3:=KF [1,2,3] (by decide) (by decide);have o2:=KF [1,2] (by decide) (by decide);have o1:=KF [1] (by decide) (by decide);have e1:=shr_0 n 1 (by decide);have e8:=shr_0 n 8 (by decide)
 by_cases h1:0<=n/\n<2
 ·have hk:TV [1,2,3]=kF (pM n):=by
   have:n=0\/n=1:=by omega
   rcases this with rfl|rfl
   ·exact (show TV [1,2,3]=kF (pM 0) by kernel_rfl)
   ·exact (show TV [1,2,3]=kF (pM 1) by kernel_rfl)
  rw [hk] at o3;refine P_ func221 17 fun _ _ _ _=>?_;refine y_ ?_;refine A.shift T T T T T T (by omega) ?_;refine y_ ?_;refine A.aa 3 T (x':=AB true) (aA (e1.trans (decide_eq_true h1))) ?_;refine t_ fun bl=>?_;exact oR o3
 by_cases h2:0<=n/\n<256
 ·have hk:TV [1,2]=kF (pM n):=by
   have:pM n 3=false:=by simp [pM];omega
   have h3:pM n 2=true:=by simp [pM];omega
   show _=kS (pM n 1) (pM n 2) (pM n 3);rw [this,h3];kernel_rfl
  rw [hk] at o2;refine P_ func221 17 fun _ _ _ _=>?_;refine y_ ?_;refine A.shift T T T T T T (by omega) ?_;refine y_ ?_;refine e_ 3 T (x':=AB false) (aA (e1.trans (decide_eq_false (fun h=>h1 h)))) ?_;refine A.shift T T T T T T (by omega) ?_;refine y_ ?_;refine A.aa 9 T (x':=AB true) (aA (e8.trans (decide_eq_true h2))) ?_;refine t_ fun bl=>?_;exact oR o2
 ·have hk:TV [1]=kF (pM n):=by
   have:pM n 3=false:=by simp [pM];omega
   have h3:pM n 2=false:=by simp [pM];omega
   show _=kS (pM n 1) (pM n 2) (pM n 3);rw [this,h3];kernel_rfl
  rw [hk] at o1;refine P_ func221 17 fun _ _ _ _=>?_;refine y_ ?_;refine A.shift T T T T T T (by omega) ?_;refine y_ ?_;refine e_ 3 T (x':=AB false) (aA (e1.trans (decide_eq_false (fun h=>h1 h)))) ?_;refine A.shift T T T T T T (by omega) ?_;refine y_ ?_;refine A.aa 9 T (x':=AB false) (aA (e8.trans (decide_eq_false (fun h=>h2 h)))) ?_;refine t_ fun bl=>?_;exact oR o1
end Go.Proofs.YtenkjmjejhhdjaaGreat
