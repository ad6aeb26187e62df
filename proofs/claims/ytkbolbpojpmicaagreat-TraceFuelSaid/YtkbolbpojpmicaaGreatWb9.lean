/-
  Texts Q19ae Q19af P19l P19m Lq Q19ab Q17l Q19ag Q20c P20e Q20f Q20g Q20h Q20i Q20j Q20e Q20k Q19ac Q19ah T20o T19o W19. Conditions: as each theorem says.
-/
import Derived.Test.YtkbolbpojpmicaaGreatWb3
import Derived.Test.YtkbolbpojpmicaaGreatWb8
import Derived.Test.YtkbolbpojpmicaaGreatWb6
import Derived.Shelf.SlSortCmp.NoneTotal
import Derived.Shelf.SlLaysF
import Derived.Test.YtkbolbpojpmicaaGreatWb5
import Derived.Test.YtkbolbpojpmicaaGreatWb7
import Derived.Test.YtkbolbpojpmicaaGreatRows
set_option linter.unusedVariables false
set_option linter.unusedSimpArgs false
set_option maxRecDepth 100000
set_option maxHeartbeats 4000000
namespace Go.Proofs.YtkbolbpojpmicaaGreat
open Go Go.Tp
def capW(n:Nat):Nat:=min n 1000000
theorem capW_le(n:Nat):capW n<=1000000:=Nat.min_le_right ..
theorem capW_mul{a b:Nat}(ha:1<=a)(hb:1<=b):min (capW a*capW b) 1000000=capW (a*b):=by
 unfold capW
 by_cases h1:a<=1000000
 ·by_cases h2:b<=1000000
  ·rw [Nat.min_eq_left h1,Nat.min_eq_left h2]
  ·have h3:1000000<=a*b:=Nat.le_trans (by omega) (Nat.le_mul_of_pos_left b ha)
   rw [Nat.min_eq_left h1,Nat.min_eq_right (by omega:1000000<=b),Nat.min_eq_right h3,Nat.min_eq_right (Nat.le_mul_of_pos_left _ ha)]
 ·have h3:1000000<=a*b:=Nat.le_trans (by omega) (Nat.le_mul_of_pos_right a hb)
  have h4:1<=min b 1000000:=by omega
  rw [Nat.min_eq_right (by omega:1000000<=a),Nat.min_eq_right h3,Nat.min_eq_right (Nat.le_mul_of_pos_right _ h4)]
theorem capW_add(a b:Nat):min (capW a+capW b) 1000000=capW (a+b):=by unfold capW;omega
theorem capW_1add{a b:Nat}(ha:1<=a)(hb:1<=b):min (1+capW a*capW b) 1000000=capW (1+a*b):=by
 have h:=capW_mul ha hb
 unfold capW at h⊢
 omega
theorem capW_exact{n:Nat}(h:capW n<=2000):capW n=n:=by unfold capW at*;omega
theorem wayL_snoc(a:List PR)(x:PR)(f:Nat):wayL (a++[x]) f=wayL a f*wayR x f:=by
 induction a with
 |nil=>rw [List.nil_append,wayL,wayL,wayL];omega
 |cons y r ih=>rw [List.cons_append,wayL,wayL,ih,Nat.mul_assoc]
theorem waySum_one(y:PR)(f:Nat):waySum [y] f=wayR y f:=by rw [waySum,waySum];omega
theorem wayGs_snoc(a:List GD)(g:GD)(f:Nat):wayGs (a++[g]) f=wayGs a f+waySum g.body f:=by
 induction a with
 |nil=>obtain ⟨k,cd,c,it,to,tm,b⟩:=g;rw [List.nil_append,wayGs,wayGs,wayGs];show _=0+waySum b f;omega
 |cons y r ih=>obtain ⟨k,cd,c,it,to,tm,b⟩:=y;rw [List.cons_append,wayGs,wayGs,ih,Nat.add_assoc]
theorem takeX{α:Type}{l:List α}{i:Nat}{x:α}(h:l[i]? =some x):l.take (i+1)=l.take i++[x]:=by rw [List.take_add_one,h];rfl
abbrev WaysC(p:PR):Prop:= ∀f:Nat,f<=1048576->Pure Tryz.prog gs0 31 [cellsR p,AI (f:Nat)] (AI (capW (wayR p f):Nat))
theorem minI(a b:Nat):(if ((b:Nat):Int)<((a:Nat):Int) then ((b:Nat):Int) else ((a:Nat):Int))=((min a b:Nat):Int):=by
 split<;>omega
theorem ways_f{V:List KV}{C:List Int}(p:PR)(u:Un V C p)(hl: ∀x,x∈p.l->WaysC x)(hg: ∀g,g∈p.gs-> ∀x,x∈g.body->WaysC x):WaysC p:=by
 intro f hf
 have hsa:=smR_all u.sm
 have hll:=hsa.ll
 have hgl:=hsa.gl
 have n1:((encRl p.l).length:Int)=p.l.length:=by rw [encRl_len]
 have n2:((encGl p.gs).length:Int)=p.gs.length:=by rw [encGl_len]
 rcases kinds19 u with hk|hk|hk|hk|hk|hk|hk|hk|hk|hk|hk|hk|hk|hk
 ·have hR:wayR p f=1:=by
   obtain ⟨k,c,v,it,to,e,gs,l⟩:=p
   have hk:k=1:=hk
   rw [wayR_eq,if_neg (by omega),if_neg (by omega),if_neg (by omega)]
  rw [hR]
  refine p_ tt_ok Tryz.func31 93 fun w0 h0 F hgs=>?_
  (refine b_ fun bx=>?_;refine y_ ?_)
  refine A.valE 11 rfl (x':=AU8 1) (by rw [hk]) ?_
  refine F_ rfl (by rw [hk];rfl) ?_
  exact r_
 ·have hR:wayR p f=1:=by
   obtain ⟨k,c,v,it,to,e,gs,l⟩:=p
   have hk:k=2:=hk
   rw [wayR_eq,if_neg (by omega),if_neg (by omega),if_neg (by omega)]
  rw [hR]
  refine p_ tt_ok Tryz.func31 93 fun w0 h0 F hgs=>?_
  (refine b_ fun bx=>?_;refine y_ ?_)
  refine A.valE 11 rfl (x':=AU8 2) (by rw [hk]) ?_
  refine F_ rfl (by rw [hk];rfl) ?_
  exact r_
 ·have hR:wayR p f=1:=by
   obtain ⟨k,c,v,it,to,e,gs,l⟩:=p
   have hk:k=3:=hk
   rw [wayR_eq,if_neg (by omega),if_neg (by omega),if_neg (by omega)]
  rw [hR]
  refine p_ tt_ok Tryz.func31 93 fun w0 h0 F hgs=>?_
  (refine b_ fun bx=>?_;refine y_ ?_)
  refine A.valE 11 rfl (x':=AU8 3) (by rw [hk]) ?_
  refine F_ rfl (by rw [hk];rfl) ?_
  exact r_
 ·have hR:wayR p f=1:=by
   obtain ⟨k,c,v,it,to,e,gs,l⟩:=p
   have hk:k=4:=hk
   rw [wayR_eq,if_neg (by omega),if_neg (by omega),if_neg (by omega)]
  rw [hR]
  refine p_ tt_ok Tryz.func31 93 fun w0 h0 F hgs=>?_
  (refine b_ fun bx=>?_;refine y_ ?_)
  refine A.valE 11 rfl (x':=AU8 4) (by rw [hk]) ?_
  refine F_ rfl (by rw [hk];rfl) ?_
  exact r_
 ·have hR:wayR p f=1:=by
   obtain ⟨k,c,v,it,to,e,gs,l⟩:=p
   have hk:k=5:=hk
   rw [wayR_eq,if_neg (by omega),if_neg (by omega),if_neg (by omega)]
  rw [hR]
  refine p_ tt_ok Tryz.func31 93 fun w0 h0 F hgs=>?_
  (refine b_ fun bx=>?_;refine y_ ?_)
  refine A.valE 11 rfl (x':=AU8 5) (by rw [hk]) ?_
  refine F_ rfl (by rw [hk];rfl) ?_
  exact r_
 ·have hR:wayR p f=1:=by
   obtain ⟨k,c,v,it,to,e,gs,l⟩:=p
   have hk:k=6:=hk
   rw [wayR_eq,if_neg (by omega),if_neg (by omega),if_neg (by omega)]
  rw [hR]
  refine p_ tt_ok Tryz.func31 93 fun w0 h0 F hgs=>?_
  (refine b_ fun bx=>?_;refine y_ ?_)
  refine A.valE 11 rfl (x':=AU8 6) (by rw [hk]) ?_
  refine F_ rfl (by rw [hk];rfl) ?_
  exact r_
 ·refine Exists.elim (show∃R,R=wayR p f from ⟨_,rfl⟩) fun R hR=>?_
  rw [<-hR]
  rw [way9 (.inl hk)] at hR
  refine p_ tt_ok Tryz.func31 93 fun w0 h0 F hgs=>?_
  (refine b_ fun bx=>?_;refine y_ ?_)
  refine A.valE 11 rfl (x':=AU8 9) (by rw [hk]) ?_
  refine T_ rfl (by rw [hk];rfl) ?_
  refine A.freeze 2 (sz:=8) rfl rfl rfl ?_
  refine A.keep [1,2,5,6] rfl ?_
  refine l_ (Λ':=[]) ?_
  refine A.loopP (ι:=Nat) (fun i=>(⟨[(1,AI (f:Nat)),(2, .pe 8 (cellsR p)),(5,AI (capW (wayL (p.l.take i) f):Nat)),(6,AI (i:Nat))],[]⟩,[])) (fun i=>i<=p.l.length) (fun i=>p.l.length-i) 0 (Nat.zero_le _) rfl fun i hi ih=>?_
  refine y_ ?_
  by_cases hci:i<p.l.length
  ·refine Exists.elim (at_exN (l:=p.l) (i:=i) hci) fun x hx=>?_
   have hcall:=hl x (List.mem_of_getElem? hx) f hf
   have hm:=capW_mul (wayL_pos (p.l.take i) f) (way_pos x f)
   rw [<-wayL_snoc,<-takeX hx] at hm
   have c1:=capW_le (wayL (p.l.take i) f)
   have c2:=capW_le (wayR x f)
   have c3:capW (wayL (p.l.take i) f)*capW (wayR x f)<=1000000*1000000:=Nat.mul_le_mul c1 c2
   refine T_ rfl (by show decide ((i:Int)<((encRl p.l).length:Int))=true;rw [n1,decide_eq_true_eq];omega) ?_
   refine i_ rfl (encRl_at hx) (encR_eq x) ?_
   refine c_ hcall ?_
   refine A.valE 5 rfl (x':=AI (capW (wayL (p.l.take (i+1)) f):Nat)) (by rw [<-hm,<-minI];show AI (if _<_ then _ else _)=_;rw [show IntKind.i64.wrap (((capW (wayL (p.l.take i) f):Nat):Int)*((capW (wayR x f):Nat):Int))=((capW (wayL (p.l.take i) f)*capW (wayR x f):Nat):Int) by rw [wr64 _ (by omega)];rfl];rfl) ?_
   refine A.valE 6 rfl (x':=AI ((i+1:Nat):Int)) (inc_eq i (by omega)) ?_
   refine u_ (ih (i+1) (by omega) (by omega))
  refine A.gF rfl (by show decide ((i:Int)<((encRl p.l).length:Int))=false;rw [n1,decide_eq_false_iff_not];omega) ?_
  clear ih
  have hil:i=p.l.length:=by omega
  refine e_ 5 rfl (x':=AI (capW R:Nat)) (by rw [hR,hil,List.take_length]) ?_
  exact r_
 ·refine Exists.elim (show∃R,R=wayR p f from ⟨_,rfl⟩) fun R hR=>?_
  rw [<-hR]
  rw [way9 (.inr (.inl hk))] at hR
  refine p_ tt_ok Tryz.func31 93 fun w0 h0 F hgs=>?_
  (refine b_ fun bx=>?_;refine y_ ?_)
  refine A.valE 11 rfl (x':=AU8 10) (by rw [hk]) ?_
  refine F_ rfl (by rw [hk];rfl) ?_
  refine A.freeze 2 (sz:=8) rfl rfl rfl ?_
  refine A.keep [1,2,5,6] rfl ?_
  refine l_ (Λ':=[]) ?_
  refine A.loopP (ι:=Nat) (fun i=>(⟨[(1,AI (f:Nat)),(2, .pe 8 (cellsR p)),(5,AI (capW (wayL (p.l.take i) f):Nat)),(6,AI (i:Nat))],[]⟩,[])) (fun i=>i<=p.l.length) (fun i=>p.l.length-i) 0 (Nat.zero_le _) rfl fun i hi ih=>?_
  refine y_ ?_
  by_cases hci:i<p.l.length
  ·refine Exists.elim (at_exN (l:=p.l) (i:=i) hci) fun x hx=>?_
   have hcall:=hl x (List.mem_of_getElem? hx) f hf
   have hm:=capW_mul (wayL_pos (p.l.take i) f) (way_pos x f)
   rw [<-wayL_snoc,<-takeX hx] at hm
   have c1:=capW_le (wayL (p.l.take i) f)
   have c2:=capW_le (wayR x f)
   have c3:capW (wayL (p.l.take i) f)*capW (wayR x f)<=1000000*1000000:=Nat.mul_le_mul c1 c2
   refine T_ rfl (by show decide ((i:Int)<((encRl p.l).length:Int))=true;rw [n1,decide_eq_true_eq];omega) ?_
   refine i_ rfl (encRl_at hx) (encR_eq x) ?_
   refine c_ hcall ?_
   refine A.valE 5 rfl (x':=AI (capW (wayL (p.l.take (i+1)) f):Nat)) (by rw [<-hm,<-minI];show AI (if _<_ then _ else _)=_;rw [show IntKind.i64.wrap (((capW (wayL (p.l.take i) f):Nat):Int)*((capW (wayR x f):Nat):Int))=((capW (wayL (p.l.take i) f)*capW (wayR x f):Nat):Int) by rw [wr64 _ (by omega)];rfl];rfl) ?_
   refine A.valE 6 rfl (x':=AI ((i+1:Nat):Int)) (inc_eq i (by omega)) ?_
   refine u_ (ih (i+1) (by omega) (by omega))
  refine A.gF rfl (by show decide ((i:Int)<((encRl p.l).length:Int))=false;rw [n1,decide_eq_false_iff_not];omega) ?_
  clear ih
  have hil:i=p.l.length:=by omega
  refine e_ 5 rfl (x':=AI (capW R:Nat)) (by rw [hR,hil,List.take_length]) ?_
  exact r_
 ·refine Exists.elim (show∃R,R=wayR p f from ⟨_,rfl⟩) fun R hR=>?_
  rw [<-hR]
  rw [way9 (.inr (.inr hk))] at hR
  refine p_ tt_ok Tryz.func31 93 fun w0 h0 F hgs=>?_
  (refine b_ fun bx=>?_;refine y_ ?_)
  refine A.valE 11 rfl (x':=AU8 11) (by rw [hk]) ?_
  refine F_ rfl (by rw [hk];rfl) ?_
  refine A.freeze 2 (sz:=8) rfl rfl rfl ?_
  refine A.keep [1,2,5,6] rfl ?_
  refine l_ (Λ':=[]) ?_
  refine A.loopP (ι:=Nat) (fun i=>(⟨[(1,AI (f:Nat)),(2, .pe 8 (cellsR p)),(5,AI (capW (wayL (p.l.take i) f):Nat)),(6,AI (i:Nat))],[]⟩,[])) (fun i=>i<=p.l.length) (fun i=>p.l.length-i) 0 (Nat.zero_le _) rfl fun i hi ih=>?_
  refine y_ ?_
  by_cases hci:i<p.l.length
  ·refine Exists.elim (at_exN (l:=p.l) (i:=i) hci) fun x hx=>?_
   have hcall:=hl x (List.mem_of_getElem? hx) f hf
   have hm:=capW_mul (wayL_pos (p.l.take i) f) (way_pos x f)
   rw [<-wayL_snoc,<-takeX hx] at hm
   have c1:=capW_le (wayL (p.l.take i) f)
   have c2:=capW_le (wayR x f)
   have c3:capW (wayL (p.l.take i) f)*capW (wayR x f)<=1000000*1000000:=Nat.mul_le_mul c1 c2
   refine T_ rfl (by show decide ((i:Int)<((encRl p.l).length:Int))=true;rw [n1,decide_eq_true_eq];omega) ?_
   refine i_ rfl (encRl_at hx) (encR_eq x) ?_
   refine c_ hcall ?_
   refine A.valE 5 rfl (x':=AI (capW (wayL (p.l.take (i+1)) f):Nat)) (by rw [<-hm,<-minI];show AI (if _<_ then _ else _)=_;rw [show IntKind.i64.wrap (((capW (wayL (p.l.take i) f):Nat):Int)*((capW (wayR x f):Nat):Int))=((capW (wayL (p.l.take i) f)*capW (wayR x f):Nat):Int) by rw [wr64 _ (by omega)];rfl];rfl) ?_
   refine A.valE 6 rfl (x':=AI ((i+1:Nat):Int)) (inc_eq i (by omega)) ?_
   refine u_ (ih (i+1) (by omega) (by omega))
  refine A.gF rfl (by show decide ((i:Int)<((encRl p.l).length:Int))=false;rw [n1,decide_eq_false_iff_not];omega) ?_
  clear ih
  have hil:i=p.l.length:=by omega
  refine e_ 5 rfl (x':=AI (capW R:Nat)) (by rw [hR,hil,List.take_length]) ?_
  exact r_
 ·refine Exists.elim (show∃R,R=wayR p f from ⟨_,rfl⟩) fun R hR=>?_
  rw [<-hR]
  rw [way12 (.inl hk)] at hR
  refine p_ tt_ok Tryz.func31 93 fun w0 h0 F hgs=>?_
  (refine b_ fun bx=>?_;refine y_ ?_)
  refine A.valE 11 rfl (x':=AU8 12) (by rw [hk]) ?_
  refine F_ rfl (by rw [hk];rfl) ?_
  refine A.freeze 2 (sz:=8) rfl rfl rfl ?_
  refine A.keep [1,2,5,7] rfl ?_
  refine l_ (Λ':=[]) ?_
  refine A.loopP (ι:=Nat) (fun i=>(⟨[(1,AI (f:Nat)),(2, .pe 8 (cellsR p)),(5,AI (capW (1+wayGs (p.gs.take i) f):Nat)),(7,AI (i:Nat))],[]⟩,[])) (fun i=>i<=p.gs.length) (fun i=>p.gs.length-i) 0 (Nat.zero_le _) rfl fun i hi ih=>?_
  refine y_ ?_
  by_cases hci:i<p.gs.length
  ·refine Exists.elim (at_exN (l:=p.gs) (i:=i) hci) fun g hgi=>?_
   have hgm:=List.mem_of_getElem? hgi
   obtain ⟨y,hy⟩:=u.loc.body g hgm
   have hcall:=hg g hgm y (by rw [hy];exact .head _) f hf
   have hat:(encRl g.body)[(0:Int).toNat]? =some (encR y):=encRl_at (by rw [hy];rfl)
   have n3:((encRl g.body).length:Int)=1:=by rw [encRl_len,hy];rfl
   have hm:=capW_add (1+wayGs (p.gs.take i) f) (wayR y f)
   have hsn:=wayGs_snoc (p.gs.take i) g f
   rw [<-takeX hgi,hy,waySum_one] at hsn
   rw [Nat.add_assoc,<-hsn] at hm
   have c1:=capW_le (1+wayGs (p.gs.take i) f)
   have c2:=capW_le (wayR y f)
   refine T_ rfl (by show decide ((i:Int)<((encGl p.gs).length:Int))=true;rw [n2,decide_eq_true_eq];omega) ?_
   refine A.loop1 ?_
   refine y_ ?_
   refine i_ rfl (encGl_at hgi) (encG_eq g) ?_
   refine T_ rfl (by show decide ((0:Int)<((encRl g.body).length:Int))=true;rw [n3];rfl) ?_
   refine i_ rfl (encGl_at hgi) (encG_eq g) ?_
   refine i_ rfl hat (encR_eq y) ?_
   refine c_ hcall ?_
   refine A.valE 5 rfl (x':=AI (capW (1+wayGs (p.gs.take (i+1)) f):Nat)) (by rw [<-hm,<-minI];show AI (if _<_ then _ else _)=_;rw [show IntKind.i64.wrap (((capW (1+wayGs (p.gs.take i) f):Nat):Int)+((capW (wayR y f):Nat):Int))=((capW (1+wayGs (p.gs.take i) f)+capW (wayR y f):Nat):Int) by rw [wr64 _ (by omega)];rfl];rfl) ?_
   refine A.again ?_
   refine y_ ?_
   refine i_ rfl (encGl_at hgi) (encG_eq g) ?_
   refine F_ rfl (by show decide ((1:Int)<((encRl g.body).length:Int))=false;rw [n3];rfl) ?_
   refine A.valE 7 rfl (x':=AI ((i+1:Nat):Int)) (inc_eq i (by omega)) ?_
   refine u_ (ih (i+1) (by omega) (by omega))
  refine A.gF rfl (by show decide ((i:Int)<((encGl p.gs).length:Int))=false;rw [n2,decide_eq_false_iff_not];omega) ?_
  clear ih
  have hil:i=p.gs.length:=by omega
  refine e_ 5 rfl (x':=AI (capW R:Nat)) (by rw [hR,hil,List.take_length]) ?_
  exact r_
 ·refine Exists.elim (show∃W:Nat->Nat,W=whileW (fun f'=>wayB p.l f') from ⟨_,rfl⟩) fun W hW=>?_
  have hR:wayR p f=W f:=by
   obtain ⟨k,c,v,it,to,e,gs,l⟩:=p
   have hk:k=13:=hk
   rw [hW,wayR_eq,if_neg (by omega),if_neg (by omega),if_pos hk]
  obtain ⟨xe,b,he,hlb,_⟩:=u.k13 hk
  have hb:=hl b (by rw [hlb];exact .head _)
  have hat:(encRl p.l)[(0:Int).toNat]? =some (encR b):=encRl_at (by rw [hlb];rfl)
  have hWn: ∀i,W (i+1)=1+W i*wayR b i:=fun i=>by rw [hW,whileW,hlb];rfl
  have hW0:W 0=1:=by rw [hW];rfl
  have hWp: ∀i,1<=W i:=fun i=>by rw [hW];exact way_pos_while i
  rw [hR]
  refine p_ tt_ok Tryz.func31 93 fun w0 h0 F hgs=>?_
  (refine b_ fun bx=>?_;refine y_ ?_)
  refine A.valE 11 rfl (x':=AU8 13) (by rw [hk]) ?_
  refine F_ rfl (by rw [hk];rfl) ?_
  refine A.freeze 2 (sz:=8) rfl rfl rfl ?_
  refine A.keep [1,2,5,9] rfl ?_
  refine l_ (Λ':=[]) ?_
  refine A.loopP (ι:=Nat) (fun i=>(⟨[(1,AI (f:Nat)),(2, .pe 8 (cellsR p)),(5,AI (capW (W i):Nat)),(9,AI (i:Nat))],[]⟩,[])) (fun i=>i<=f) (fun i=>f-i) 0 (Nat.zero_le _) (by rw [hW0];rfl) fun i hi ih=>?_
  refine y_ ?_
  by_cases hci:i<f
  ·have hcall:=hb i (by omega)
   have hm:=capW_1add (hWp i) (way_pos b i)
   rw [<-hWn] at hm
   have c1:=capW_le (W i)
   have c2:=capW_le (wayR b i)
   have c3:capW (W i)*capW (wayR b i)<=1000000*1000000:=Nat.mul_le_mul c1 c2
   refine T_ rfl (by show decide ((i:Int)<(f:Nat))=true;rw [decide_eq_true_eq];omega) ?_
   refine e_ 79 rfl (x':=AB true) (ab_eq (by show decide ((0:Int)<((encRl p.l).length:Int))=true;rw [n1,hlb];rfl)) ?_
   refine i_ rfl hat (encR_eq b) ?_
   refine c_ hcall ?_
   refine A.valE 5 rfl (x':=AI (capW (W (i+1)):Nat)) (by rw [<-hm,<-minI];show AI (if _<_ then _ else _)=_;rw [show IntKind.i64.wrap (((capW (W i):Nat):Int)*((capW (wayR b i):Nat):Int))=((capW (W i)*capW (wayR b i):Nat):Int) by rw [wr64 _ (by omega)];rfl,show IntKind.i64.wrap (1+((capW (W i)*capW (wayR b i):Nat):Int))=((1+capW (W i)*capW (wayR b i):Nat):Int) by rw [wr64 _ (by omega)];rfl];rfl) ?_
   refine A.valE 9 rfl (x':=AI ((i+1:Nat):Int)) (inc_eq i (by omega)) ?_
   refine u_ (ih (i+1) (by omega) (by omega))
  ·refine A.gF rfl (by show decide ((i:Int)<(f:Nat))=false;rw [decide_eq_false_iff_not];omega) ?_
   clear ih
   have hif:i=f:=by omega
   subst hif
   exact yr_
 ·refine Exists.elim (show∃R,R=wayR p f from ⟨_,rfl⟩) fun R hR=>?_
  rw [<-hR]
  rw [way12 (.inr (.inl hk))] at hR
  refine p_ tt_ok Tryz.func31 93 fun w0 h0 F hgs=>?_
  (refine b_ fun bx=>?_;refine y_ ?_)
  refine A.valE 11 rfl (x':=AU8 14) (by rw [hk]) ?_
  refine F_ rfl (by rw [hk];rfl) ?_
  refine A.freeze 2 (sz:=8) rfl rfl rfl ?_
  refine A.keep [1,2,5,7] rfl ?_
  refine l_ (Λ':=[]) ?_
  refine A.loopP (ι:=Nat) (fun i=>(⟨[(1,AI (f:Nat)),(2, .pe 8 (cellsR p)),(5,AI (capW (1+wayGs (p.gs.take i) f):Nat)),(7,AI (i:Nat))],[]⟩,[])) (fun i=>i<=p.gs.length) (fun i=>p.gs.length-i) 0 (Nat.zero_le _) rfl fun i hi ih=>?_
  refine y_ ?_
  by_cases hci:i<p.gs.length
  ·refine Exists.elim (at_exN (l:=p.gs) (i:=i) hci) fun g hgi=>?_
   have hgm:=List.mem_of_getElem? hgi
   obtain ⟨y,hy⟩:=u.loc.body g hgm
   have hcall:=hg g hgm y (by rw [hy];exact .head _) f hf
   have hat:(encRl g.body)[(0:Int).toNat]? =some (encR y):=encRl_at (by rw [hy];rfl)
   have n3:((encRl g.body).length:Int)=1:=by rw [encRl_len,hy];rfl
   have hm:=capW_add (1+wayGs (p.gs.take i) f) (wayR y f)
   have hsn:=wayGs_snoc (p.gs.take i) g f
   rw [<-takeX hgi,hy,waySum_one] at hsn
   rw [Nat.add_assoc,<-hsn] at hm
   have c1:=capW_le (1+wayGs (p.gs.take i) f)
   have c2:=capW_le (wayR y f)
   refine T_ rfl (by show decide ((i:Int)<((encGl p.gs).length:Int))=true;rw [n2,decide_eq_true_eq];omega) ?_
   refine A.loop1 ?_
   refine y_ ?_
   refine i_ rfl (encGl_at hgi) (encG_eq g) ?_
   refine T_ rfl (by show decide ((0:Int)<((encRl g.body).length:Int))=true;rw [n3];rfl) ?_
   refine i_ rfl (encGl_at hgi) (encG_eq g) ?_
   refine i_ rfl hat (encR_eq y) ?_
   refine c_ hcall ?_
   refine A.valE 5 rfl (x':=AI (capW (1+wayGs (p.gs.take (i+1)) f):Nat)) (by rw [<-hm,<-minI];show AI (if _<_ then _ else _)=_;rw [show IntKind.i64.wrap (((capW (1+wayGs (p.gs.take i) f):Nat):Int)+((capW (wayR y f):Nat):Int))=((capW (1+wayGs (p.gs.take i) f)+capW (wayR y f):Nat):Int) by rw [wr64 _ (by omega)];rfl];rfl) ?_
   refine A.again ?_
   refine y_ ?_
   refine i_ rfl (encGl_at hgi) (encG_eq g) ?_
   refine F_ rfl (by show decide ((1:Int)<((encRl g.body).length:Int))=false;rw [n3];rfl) ?_
   refine A.valE 7 rfl (x':=AI ((i+1:Nat):Int)) (inc_eq i (by omega)) ?_
   refine u_ (ih (i+1) (by omega) (by omega))
  refine A.gF rfl (by show decide ((i:Int)<((encGl p.gs).length:Int))=false;rw [n2,decide_eq_false_iff_not];omega) ?_
  clear ih
  have hil:i=p.gs.length:=by omega
  refine e_ 5 rfl (x':=AI (capW R:Nat)) (by rw [hR,hil,List.take_length]) ?_
  exact r_
 ·refine Exists.elim (show∃R,R=wayR p f from ⟨_,rfl⟩) fun R hR=>?_
  rw [<-hR]
  rw [way12 (.inr (.inr hk))] at hR
  refine p_ tt_ok Tryz.func31 93 fun w0 h0 F hgs=>?_
  (refine b_ fun bx=>?_;refine y_ ?_)
  refine A.valE 11 rfl (x':=AU8 15) (by rw [hk]) ?_
  refine F_ rfl (by rw [hk];rfl) ?_
  refine A.freeze 2 (sz:=8) rfl rfl rfl ?_
  refine A.keep [1,2,5,7] rfl ?_
  refine l_ (Λ':=[]) ?_
  refine A.loopP (ι:=Nat) (fun i=>(⟨[(1,AI (f:Nat)),(2, .pe 8 (cellsR p)),(5,AI (capW (1+wayGs (p.gs.take i) f):Nat)),(7,AI (i:Nat))],[]⟩,[])) (fun i=>i<=p.gs.length) (fun i=>p.gs.length-i) 0 (Nat.zero_le _) rfl fun i hi ih=>?_
  refine y_ ?_
  by_cases hci:i<p.gs.length
  ·refine Exists.elim (at_exN (l:=p.gs) (i:=i) hci) fun g hgi=>?_
   have hgm:=List.mem_of_getElem? hgi
   obtain ⟨y,hy⟩:=u.loc.body g hgm
   have hcall:=hg g hgm y (by rw [hy];exact .head _) f hf
   have hat:(encRl g.body)[(0:Int).toNat]? =some (encR y):=encRl_at (by rw [hy];rfl)
   have n3:((encRl g.body).length:Int)=1:=by rw [encRl_len,hy];rfl
   have hm:=capW_add (1+wayGs (p.gs.take i) f) (wayR y f)
   have hsn:=wayGs_snoc (p.gs.take i) g f
   rw [<-takeX hgi,hy,waySum_one] at hsn
   rw [Nat.add_assoc,<-hsn] at hm
   have c1:=capW_le (1+wayGs (p.gs.take i) f)
   have c2:=capW_le (wayR y f)
   refine T_ rfl (by show decide ((i:Int)<((encGl p.gs).length:Int))=true;rw [n2,decide_eq_true_eq];omega) ?_
   refine A.loop1 ?_
   refine y_ ?_
   refine i_ rfl (encGl_at hgi) (encG_eq g) ?_
   refine T_ rfl (by show decide ((0:Int)<((encRl g.body).length:Int))=true;rw [n3];rfl) ?_
   refine i_ rfl (encGl_at hgi) (encG_eq g) ?_
   refine i_ rfl hat (encR_eq y) ?_
   refine c_ hcall ?_
   refine A.valE 5 rfl (x':=AI (capW (1+wayGs (p.gs.take (i+1)) f):Nat)) (by rw [<-hm,<-minI];show AI (if _<_ then _ else _)=_;rw [show IntKind.i64.wrap (((capW (1+wayGs (p.gs.take i) f):Nat):Int)+((capW (wayR y f):Nat):Int))=((capW (1+wayGs (p.gs.take i) f)+capW (wayR y f):Nat):Int) by rw [wr64 _ (by omega)];rfl];rfl) ?_
   refine A.again ?_
   refine y_ ?_
   refine i_ rfl (encGl_at hgi) (encG_eq g) ?_
   refine F_ rfl (by show decide ((1:Int)<((encRl g.body).length:Int))=false;rw [n3];rfl) ?_
   refine A.valE 7 rfl (x':=AI ((i+1:Nat):Int)) (inc_eq i (by omega)) ?_
   refine u_ (ih (i+1) (by omega) (by omega))
  refine A.gF rfl (by show decide ((i:Int)<((encGl p.gs).length:Int))=false;rw [n2,decide_eq_false_iff_not];omega) ?_
  clear ih
  have hil:i=p.gs.length:=by omega
  refine e_ 5 rfl (x':=AI (capW R:Nat)) (by rw [hR,hil,List.take_length]) ?_
  exact r_
 ·have hR:wayR p f=1:=by
   obtain ⟨k,c,v,it,to,e,gs,l⟩:=p
   have hk:k=16:=hk
   rw [wayR_eq,if_neg (by omega),if_neg (by omega),if_neg (by omega)]
  rw [hR]
  refine p_ tt_ok Tryz.func31 93 fun w0 h0 F hgs=>?_
  (refine b_ fun bx=>?_;refine y_ ?_)
  refine A.valE 11 rfl (x':=AU8 16) (by rw [hk]) ?_
  refine F_ rfl (by rw [hk];rfl) ?_
  exact r_
theorem ways_n{V:List KV}{C:List Int}: ∀(m:Nat) (p:PR),SizeOf.sizeOf p<=m->Un V C p->WaysC p
 |0,p,h,_=>by
  obtain ⟨k,c,v,i,to,e,gs,l⟩:=p
  simp only [PR.mk.sizeOf_spec] at h;omega
 |m+1,p,hm,u=>ways_f p u (fun x hx=>ways_n m x (by have:=lt19_l hx;omega) (u.l x hx)) (fun g hg x hx=>ways_n m x (by have:=lt19_g hg hx;omega) (u.g g hg x hx))
theorem ways_p{V:List KV}{C:List Int}{p:PR}(u:Un V C p):WaysC p:=ways_n _ p (Nat.le_refl _) u
structure GFit(k:KN)(t:TR)(f:Int):Prop where
 vars:k.vars.length<=300
 chans:k.chans.length<=100
 procs:k.procs.length<=100
 size:errX k t f=0->szR k.root<=80
 len:errX k t f=0->t.length<=12
 fuel:errX k t f=0->f<=5
 way:errX k t f=0->wayR k.root (f.toNat+1)<=2000
theorem way_mono_while{b:Nat->Nat}(hb: ∀i,1<=b i)(f:Nat):whileW b f<=whileW b (f+1):=by
 rw [whileW]
 have:=Nat.le_mul_of_pos_right (whileW b f) (hb f)
 omega
theorem wayB_pos: ∀(l:List PR) (f:Nat),1<=wayB l f
 | [],f=>Nat.le_refl _
 |p::r,f=>way_pos p f
theorem mono_l{f:Nat}: ∀{l:List PR},(∀x,x∈l->wayR x f<=wayR x (f+1))->wayL l f<=wayL l (f+1)
 | [],_=>Nat.le_refl _
 |p::r,h=>by rw [wayL,wayL];exact Nat.mul_le_mul (h p (.head _)) (mono_l fun x hx=>h x (.tail _ hx))
theorem mono_s{f:Nat}: ∀{l:List PR},(∀x,x∈l->wayR x f<=wayR x (f+1))->waySum l f<=waySum l (f+1)
 | [],_=>Nat.le_refl _
 |p::r,h=>by rw [waySum,waySum];exact Nat.add_le_add (h p (.head _)) (mono_s fun x hx=>h x (.tail _ hx))
theorem mono_g{f:Nat}: ∀{l:List GD},(∀g,g∈l-> ∀x,x∈g.body->wayR x f<=wayR x (f+1))->wayGs l f<=wayGs l (f+1)
 | [],_=>Nat.le_refl _
 |⟨k,cd,c,it,to,tm,b⟩::r,h=>by rw [wayGs,wayGs];exact Nat.add_le_add (mono_s (h _ (.head _))) (mono_g fun x hx=>h x (.tail _ hx))
theorem mono_way_n(f:Nat): ∀(m:Nat) (p:PR),SizeOf.sizeOf p<=m->wayR p f<=wayR p (f+1)
 |0,p,h=>by
  obtain ⟨k,c,v,i,to,e,gs,l⟩:=p
  simp only [PR.mk.sizeOf_spec] at h;omega
 |m+1,p,hm=>by
  have h1:=mono_l (f:=f) (l:=p.l) fun x hx=>mono_way_n f m x (by have:=lt19_l hx;omega)
  have h2:=mono_g (f:=f) (l:=p.gs) fun g hg x hx=>mono_way_n f m x (by have:=lt19_g hg hx;omega)
  obtain ⟨k,c,v,i,to,e,gs,l⟩:=p
  rw [wayR_eq,wayR_eq]
  split
  ·exact h1
  ·split
   ·exact Nat.add_le_add (Nat.le_refl _) h2
   ·split
    ·exact way_mono_while (fun i=>wayB_pos l i) f
    ·exact Nat.le_refl _
theorem mono_way(p:PR)(f:Nat):wayR p f<=wayR p (f+1):=mono_way_n f _ p (Nat.le_refl _)
theorem GFit.way0{k:KN}{t:TR}{f:Int}(g:GFit k t f):errX k t f=0->wayR k.root f.toNat<=2000:=fun h=>Nat.le_trans (mono_way k.root f.toNat) (g.way h)
theorem great19_p(k:KN)(hk:SmN k)(t:TR)(f:Int): ∃b,Pure Tryz.prog gs0 13 [encN k,trA t,AI f] (AB b)/\(b=false->GFit k t f):=by
 have n1:((k.vars.map encV).length:Int)=k.vars.length:=by rw [List.length_map]
 have n2:((k.chans.map AU8).length:Int)=k.chans.length:=by rw [List.length_map]
 have n3:((k.procs.map AI).length:Int)=k.procs.length:=by rw [List.length_map]
 have nt:=trA_len t
 have hf:=fault_p k hk t f
 by_cases c1:300<k.vars.length
 ·refine ⟨true,?_,fun h=>by cases h⟩
  refine p_ tt_ok Tryz.func13 53 fun w0 h0 F hgs=>?_
  (refine b_ fun bx=>?_;refine y_ ?_)
  refine T_ rfl (by rw [n1];show decide _=true;rw [decide_eq_true_eq];omega) ?_
  exact r_
 by_cases c2:100<k.chans.length
 ·refine ⟨true,?_,fun h=>by cases h⟩
  refine p_ tt_ok Tryz.func13 53 fun w0 h0 F hgs=>?_
  (refine b_ fun bx=>?_;refine y_ ?_)
  refine F_ rfl (by rw [n1];show decide _=false;rw [decide_eq_false_iff_not];omega) ?_
  refine T_ rfl (by rw [n2];show decide _=true;rw [decide_eq_true_eq];omega) ?_
  exact r_
 by_cases c3:100<k.procs.length
 ·refine ⟨true,?_,fun h=>by cases h⟩
  refine p_ tt_ok Tryz.func13 53 fun w0 h0 F hgs=>?_
  (refine b_ fun bx=>?_;refine y_ ?_)
  refine F_ rfl (by rw [n1];show decide _=false;rw [decide_eq_false_iff_not];omega) ?_
  refine F_ rfl (by rw [n2];show decide _=false;rw [decide_eq_false_iff_not];omega) ?_
  refine T_ rfl (by rw [n3];show decide _=true;rw [decide_eq_true_eq];omega) ?_
  exact r_
 by_cases he:errX k t f=0
 case neg=>
  refine ⟨false,?_,fun _=>⟨by omega,by omega,by omega,fun h=>absurd h he,fun h=>absurd h he,fun h=>absurd h he,fun h=>absurd h he⟩⟩
  refine p_ tt_ok Tryz.func13 53 fun w0 h0 F hgs=>?_
  (refine b_ fun bx=>?_;refine y_ ?_)
  refine F_ rfl (by rw [n1];show decide _=false;rw [decide_eq_false_iff_not];omega) ?_
  refine F_ rfl (by rw [n2];show decide _=false;rw [decide_eq_false_iff_not];omega) ?_
  refine F_ rfl (by rw [n3];show decide _=false;rw [decide_eq_false_iff_not];omega) ?_
  refine c_ hf ?_
  refine F_ rfl (beq_eq_false_iff_ne.2 he) ?_
  exact r_
 have hx:=errX_ok he
 have hu:=un_root hk hx.may hx.unt
 have hsz:=(may_fits hx.may).2.1
 have hsp:=rsz_p hk.root (by omega)
 have hfl:=hx.f1
 have hf0:=hx.f0
 have hwp:=ways_p hu (f.toNat+1) (by omega)
 rw [show ((f.toNat+1:Nat):Int)=f+1 by omega] at hwp
 rw [he] at hf
 have hinc:IntKind.i64.wrap (f+1)=f+1:=by rw [wr64 _ (by omega)]
 by_cases c4:80<szR k.root
 ·refine ⟨true,?_,fun h=>by cases h⟩
  refine p_ tt_ok Tryz.func13 53 fun w0 h0 F hgs=>?_
  (refine b_ fun bx=>?_;refine y_ ?_)
  refine F_ rfl (by rw [n1];show decide _=false;rw [decide_eq_false_iff_not];omega) ?_
  refine F_ rfl (by rw [n2];show decide _=false;rw [decide_eq_false_iff_not];omega) ?_
  refine F_ rfl (by rw [n3];show decide _=false;rw [decide_eq_false_iff_not];omega) ?_
  refine c_ hf ?_
  refine c_ hsp ?_
  refine T_ rfl (by show decide ((80:Int)<(szR k.root:Nat))=true;rw [decide_eq_true_eq];omega) ?_
  exact r_
 by_cases c5:12<t.length
 ·refine ⟨true,?_,fun h=>by cases h⟩
  refine p_ tt_ok Tryz.func13 53 fun w0 h0 F hgs=>?_
  (refine b_ fun bx=>?_;refine y_ ?_)
  refine F_ rfl (by rw [n1];show decide _=false;rw [decide_eq_false_iff_not];omega) ?_
  refine F_ rfl (by rw [n2];show decide _=false;rw [decide_eq_false_iff_not];omega) ?_
  refine F_ rfl (by rw [n3];show decide _=false;rw [decide_eq_false_iff_not];omega) ?_
  refine c_ hf ?_
  refine c_ hsp ?_
  refine F_ rfl (by show decide ((80:Int)<(szR k.root:Nat))=false;rw [decide_eq_false_iff_not];omega) ?_
  refine T_ rfl (by show (bif false then true else decide ((12:Int)<((t.map evA).length:Int)))=true;rw [nt,decide_eq_true (by omega)];rfl) ?_
  exact r_
 by_cases c6:5<f
 ·refine ⟨true,?_,fun h=>by cases h⟩
  refine p_ tt_ok Tryz.func13 53 fun w0 h0 F hgs=>?_
  (refine b_ fun bx=>?_;refine y_ ?_)
  refine F_ rfl (by rw [n1];show decide _=false;rw [decide_eq_false_iff_not];omega) ?_
  refine F_ rfl (by rw [n2];show decide _=false;rw [decide_eq_false_iff_not];omega) ?_
  refine F_ rfl (by rw [n3];show decide _=false;rw [decide_eq_false_iff_not];omega) ?_
  refine c_ hf ?_
  refine c_ hsp ?_
  refine F_ rfl (by show decide ((80:Int)<(szR k.root:Nat))=false;rw [decide_eq_false_iff_not];omega) ?_
  refine F_ rfl (by show (bif false then true else decide ((12:Int)<((t.map evA).length:Int)))=false;rw [nt,decide_eq_false (by omega)];rfl) ?_
  refine T_ rfl (by show (bif false then true else decide (5<f))=true;rw [decide_eq_true c6];rfl) ?_
  exact r_
 refine ⟨decide (2000<capW (wayR k.root (f.toNat+1))),?_,fun h=>⟨by omega,by omega,by omega,fun _=>by omega,fun _=>by omega,fun _=>by omega,fun _=>?_⟩⟩
 ·refine p_ tt_ok Tryz.func13 53 fun w0 h0 F hgs=>?_
  (refine b_ fun bx=>?_;refine y_ ?_)
  refine F_ rfl (by rw [n1];show decide _=false;rw [decide_eq_false_iff_not];omega) ?_
  refine F_ rfl (by rw [n2];show decide _=false;rw [decide_eq_false_iff_not];omega) ?_
  refine F_ rfl (by rw [n3];show decide _=false;rw [decide_eq_false_iff_not];omega) ?_
  refine c_ hf ?_
  refine c_ hsp ?_
  refine F_ rfl (by show decide ((80:Int)<(szR k.root:Nat))=false;rw [decide_eq_false_iff_not];omega) ?_
  refine F_ rfl (by show (bif false then true else decide ((12:Int)<((t.map evA).length:Int)))=false;rw [nt,decide_eq_false (by omega)];rfl) ?_
  refine F_ rfl (by show (bif false then true else decide (5<f))=false;rw [decide_eq_false c6];rfl) ?_
  refine A.valE 47 rfl (x':=AI (f+1)) (ai_eq hinc) ?_
  refine c_ hwp ?_
  refine R_ ?_
  refine Sb.eq (ab_eq ?_)
  show decide ((2000:Int)<((capW (wayR k.root (f.toNat+1)):Nat):Int))=_
  rw [Bool.eq_iff_iff,decide_eq_true_eq,decide_eq_true_eq]
  omega
 ·have h:=of_decide_eq_false h
  have h2:=capW_exact (n:=wayR k.root (f.toNat+1)) (by omega)
  omega
section
variable{α:Type} [DecidableEq α]{lt:α->α->Bool}{cmp:α->α->Int}
def lexB(lt:α->α->Bool):List α->List α->Bool
 | [],[]=>false
 | [],_::_=>true
 |_::_,[]=>false
 |x::a,y::b=>if x=y then lexB lt a b else lt x y
theorem lexB_irrefl: ∀a:List α,lexB lt a a=false
 | []=>rfl
 |x::a=>by rw [lexB,if_pos rfl,lexB_irrefl a]
theorem lexB_trans(o:Ord lt): ∀a b c:List α,lexB lt a b=true->lexB lt b c=true->lexB lt a c=true
 | [],[],_,h,_=>by rw [lexB] at h;cases h
 | [],_::_,[],_,h=>by rw [lexB] at h;cases h
 | [],_::_,_::_,_,_=>by rw [lexB]
 |_::_,[],_,h,_=>by rw [lexB] at h;cases h
 |_::_,_::_,[],_,h=>by rw [lexB] at h;cases h
 |x::a,y::b,z::c,h1,h2=>by
  rw [lexB] at h1 h2⊢
  by_cases e1:x=y
  ·subst e1
   rw [if_pos rfl] at h1
   by_cases e2:x=z
   ·subst e2;rw [if_pos rfl] at h2⊢;exact lexB_trans o a b c h1 h2
   ·rw [if_neg e2] at h2⊢;exact h2
  ·rw [if_neg e1] at h1
   by_cases e2:y=z
   ·subst e2;rw [if_neg e1];exact h1
   ·rw [if_neg e2] at h2
    have h3:=o.trans _ _ _ h1 h2
    rw [if_neg (fun e=>by subst e;rw [o.irrefl] at h3;cases h3)]
    exact h3
theorem lexB_tri(o:Ord lt): ∀a b:List α,lexB lt a b=false->lexB lt b a=false->a=b
 | [],[],_,_=>rfl
 | [],_::_,h,_=>by rw [lexB] at h;cases h
 |_::_,[],_,h=>by rw [lexB] at h;cases h
 |x::a,y::b,h1,h2=>by
  rw [lexB] at h1 h2
  by_cases e:x=y
  ·subst e
   rw [if_pos rfl] at h1 h2
   rw [lexB_tri o a b h1 h2]
  ·rw [if_neg e] at h1
   rw [if_neg (Ne.symm e)] at h2
   exact absurd (o.tri _ _ h1 h2) e
theorem ord_lex(o:Ord lt):Ord (lexB lt):=⟨lexB_irrefl,lexB_trans o,lexB_tri o⟩
def lexC(cmp:α->α->Int):List α->List α->Int
 | [],[]=>0
 | [],_::_=> -1
 |_::_,[]=>1
 |x::a,y::b=>if cmp x y=0 then lexC cmp a b else cmp x y
theorem lexC_zero{β:Type}{cmp:β->β->Int}(h: ∀x y,cmp x y=0↔x=y): ∀a b:List β,lexC cmp a b=0↔a=b
 | [],[]=>by simp [lexC]
 | [],_::_=>by simp [lexC]
 |_::_,[]=>by simp [lexC]
 |x::a,y::b=>by
  rw [lexC]
  by_cases h0:cmp x y=0
  ·rw [if_pos h0,lexC_zero h a b]
   have:=(h x y).1 h0
   subst this;simp
  ·rw [if_neg h0]
   exact ⟨fun h1=>absurd h1 h0,fun h1=>by injection h1 with h1 _;exact absurd ((h x y).2 h1) h0⟩
theorem lexC_lt(h: ∀x y,cmp x y=0↔x=y)(hl: ∀x y,cmp x y<0↔lt x y=true): ∀a b:List α,lexC cmp a b<0↔lexB lt a b=true
 | [],[]=>by simp [lexC,lexB]
 | [],_::_=>by simp [lexC,lexB]
 |_::_,[]=>by simp [lexC,lexB]
 |x::a,y::b=>by
  rw [lexC,lexB]
  by_cases h0:cmp x y=0
  ·rw [if_pos h0,if_pos ((h x y).1 h0)];exact lexC_lt h hl a b
  ·rw [if_neg h0,if_neg (fun e=>h0 ((h x y).2 e))];exact hl x y
end
abbrev ltRw:List Int->List Int->Bool:=lexB ltI
abbrev ltSt:Sto->Sto->Bool:=lexB ltRw
theorem ord_st:Ord ltSt:=ord_lex (ord_lex ord_int)
def cmpN(x y:Int):Int:=if x<y then-1 else if y<x then 1 else 0
theorem cmpN_zero(x y:Int):cmpN x y=0↔x=y:=by unfold cmpN;repeat' split;all_goals omega
theorem cmpN_lt(x y:Int):cmpN x y<0↔ltI x y=true:=by
 unfold cmpN ltI
 rw [decide_eq_true_eq]
 repeat' split
 all_goals omega
abbrev cmpRw:List Int->List Int->Int:=lexC cmpN
abbrev cmpSt:Sto->Sto->Int:=lexC cmpRw
theorem cmpRw_zero(a b:List Int):cmpRw a b=0↔a=b:=lexC_zero cmpN_zero a b
theorem cmpSt_lt(a b:Sto):cmpSt a b<0↔ltSt a b=true:=lexC_lt cmpRw_zero (lexC_lt cmpN_zero cmpN_lt) a b
def endsM(r:RN)(n:Nat):List Sto:=insAll ltSt [] (endsAt r n)
theorem endsM_mem{r:RN}{n:Nat}{s:Sto}:s∈endsM r n↔(n,s)∈r.ends:=by
 unfold endsM
 rw [mem_insAll,endsAt_mem];simp
theorem nod_ends{r:RN}(h:r.ends.Nodup)(n:Nat):(endsAt r n).Nodup:=by
 unfold endsAt
 have h1:(r.ends.filter fun e=>decide (e.1=n)).Nodup:=h.sublist (List.filter_sublist ..)
 show (List.map _ _).Pairwise _
 rw [List.pairwise_map]
 refine h1.imp_of_mem fun {x y} hx hy hne e=>hne ?_
 have h2:=(List.mem_filter.1 hx).2
 have h3:=(List.mem_filter.1 hy).2
 simp only [decide_eq_true_eq] at h2 h3
 exact Prod.ext (h2.trans h3.symm) e
theorem sort_ends{l m:List Sto}(hn:m.Nodup)(hp:l.Perm m)(hs:l.Pairwise fun x y=>ltSt y x=false):l=insAll ltSt [] m:=by
 have hl:l.Nodup:=hp.nodup_iff.2 hn
 refine asc_eq ord_st ?_ (asc_insAll ord_st List.Pairwise.nil) fun z=>?_
 ·refine (hs.and hl).imp fun {a b} hab=>?_
  cases h:ltSt a b with
  |true=>rfl
  |false=>exact absurd (ord_st.tri a b h hab.1) hab.2
 ·rw [mem_insAll,hp.mem_iff];simp
theorem takeN{α:Type}{l:List α}{i:Nat}{x:α}(h:l[i]? =some x):l.take (i+1)=l.take i++[x]:=by rw [List.take_add_one,h];rfl
end Go.Proofs.YtkbolbpojpmicaaGreat
namespace Go.Tp
open Go Go.RowKit
theorem flat_at{k:Nat}(hk:0<k): ∀(zs:List Value) (hz: ∀z,z∈zs->(cellsL z).length=k) (j:Nat),j<zs.length*k->(catL zs)[j]? =(zs[j / k]?).bind fun z=>(cellsL z)[j % k]?
 | [],_,j,hj=>by simp at hj
 |z::zs,hz,j,hj=>by
  have h0:=hz z (List.mem_cons_self ..)
  show (cellsL z++catL zs)[j]? =_
  rcases Nat.lt_or_ge j k with h|h
  ·rw [List.getElem?_append_left (by omega),Nat.div_eq_of_lt h,Nat.mod_eq_of_lt h];rfl
  ·rw [List.getElem?_append_right (by omega),h0,flat_at hk zs (fun z hz'=>hz z (List.mem_cons_of_mem _ hz')) (j-k) (by simp only [List.length_cons,Nat.succ_mul] at hj;omega)]
   have e1:j / k=(j-k) / k+1:=by rw [Nat.div_eq j k,if_pos ⟨hk,h⟩]
   have e2:j % k=(j-k) % k:=by rw [Nat.mod_eq_sub_mod h]
   rw [e1,e2,List.getElem?_cons_succ]
def atW{α:Type}(l:List α)(h:0<l.length)(i:Nat):α:=l[i % l.length]'(Nat.mod_lt _ h)
theorem atW_lt{α:Type}{l:List α}(h:0<l.length){i:Nat}(hi:i<l.length):l[i]? =some (atW l h i):=by
 unfold atW
 have:i % l.length=i:=Nat.mod_eq_of_lt hi
 simp [this,hi]
theorem atW_mem{α:Type}{l:List α}(h:0<l.length)(i:Nat):atW l h i∈l:=List.getElem_mem ..
theorem map_atW{α:Type}{l:List α}(h:0<l.length):(List.range l.length).map (atW l h)=l:=by
 apply List.ext_getElem?
 intro i
 rcases Nat.lt_or_ge i l.length with hi|hi
 ·rw [List.getElem?_map,List.getElem?_range hi,Option.map_some,atW_lt h hi]
 ·rw [List.getElem?_eq_none (by simpa using hi),List.getElem?_eq_none hi]
theorem RpC.atW{h:GH}{l:List AV}{zs:List Value}(r:RpC h l zs)(h1:0<l.length)(h2:0<zs.length)(i:Nat):Rp h (atW l h1 i) (atW zs h2 i):=by
 have hl:=r.len
 obtain ⟨v,e,q⟩:=r.at (i:=i % l.length) (x:=Go.Tp.atW l h1 i) (by simp [Go.Tp.atW])
 have:Go.Tp.atW zs h2 i=v:=by
  unfold Go.Tp.atW
  have e':zs[i % zs.length]? =some v:=by rw [hl];exact e
  rw [List.getElem?_eq_getElem (Nat.mod_lt _ h2)] at e'
  exact Option.some.inj e'
 rw [this];exact q
theorem RpC_map{h:GH}{ι:Type}{f:ι->AV}{z:ι->Value}(r: ∀i,Rp h (f i) (z i)): ∀l:List ι,RpC h (l.map f) (l.map z)
 | []=>RpC_nil.2 rfl
 |x::l=>RpC_cons.2 ⟨_,_,rfl,r x,RpC_map r l⟩
section
variable{κ:Type}{P:Program}{gs:Ua}{ρ:Shelf.Ren}
theorem mono_swo{α β:Type}{lt:α->α->Bool}(f:β->α)(h:Sort.SWO lt):Sort.SWO fun x y=>lt (f x) (f y):=
 ⟨fun x=>h.irrefl _,fun x y z=>h.trans _ _ _,fun x y z=>h.ntrans _ _ _⟩
theorem perm_of_in{n:Nat}{d d':Array Nat}(hd:d.size=n)(h:Sort.PermIn 0 n d d'):d'.toList.Perm d.toList:=by
 obtain ⟨h1,_,h3⟩:=h
 have e1:d'.extract 0 n=d':=by rw [<-hd,<-h1];simp
 have e2:d.extract 0 n=d:=by rw [<-hd];simp
 rwa [e1,e2] at h3
theorem sorted_of_in{lt:Nat->Nat->Bool}{n:Nat}{d:Array Nat}(hd:d.size=n)(h:Sort.SortedIn lt 0 n d):d.toList.Pairwise fun x y=>lt y x=false:=by
 rw [List.pairwise_iff_getElem]
 intro i j hi hj hij
 have hi':i<d.size:=by simpa using hi
 have hj':j<d.size:=by simpa using hj
 have:=h i j (Nat.zero_le _) hij (by omega)
 rw [getElem!_pos d i hi',getElem!_pos d j hj'] at this
 simpa using this
theorem sort1_fun(L:Go.Proofs.SlLaysF.n6 P ρ)(hfn: ∃g c,P.funcs[ρ.f 6]? =some g/\g.body=some c/\(g.name== "runtime.NumGoroutine")=false)
 (enc:κ->AV) (cf:κ->κ->Int) (hO:Sort.SWO fun x y=>decide (cf x y<0)) (g:FuncId) (eg: ∀args w,(callFunc g args).run P w= .ok (.enter g args) w) (z:Value) (n:Nat) (ks:List κ) (h1: ∀x,x∈ks->(enc x).one=true)
 (hc: ∀x,x∈ks-> ∀y,y∈ks->Pure P gs g [enc x,enc y] (.v (.int .i64 (cf x y)))) (hsz:ks.length<4611686018427387904):
 Fun P gs (ρ.f 6) [.ms z 1 n, .fn g [] []] [.row 1 z (ks.map enc)] fun y Λ'=> ∃ks':List κ,ks'.Perm ks/\ks'.Pairwise (fun a b=>0<=cf b a)/\y= .tp []/\Λ'=[.row 1 z (ks'.map enc)]:=by
 intro w0 h vs LL F hg r q
 rw [RpC_cons] at r
 obtain ⟨u,us,rfl,r1,r2⟩:=r
 rw [RpC_cons] at r2
 obtain ⟨u2,us2,rfl,r2,r3⟩:=r2
 rw [RpC_nil] at r3;subst r3
 rw [Rp_ms] at r1
 obtain ⟨rfl,_⟩:=r1
 rw [Rp_fn] at r2
 obtain ⟨c1,c2,rfl,r4,r5⟩:=r2
 rw [RpC_nil] at r4 r5;subst r4;subst r5
 obtain ⟨M,L2,rfl,⟨p,hrow,rfl⟩,q2⟩:=q
 have q2:L2=[]:=q2
 subst q2
 refine ⟨hfn,fun w s=>?_⟩
 have hrow':=hrow
 obtain ⟨a,cap,zs,e1,e2,e3,e4,e5⟩:=hrow
 rw [List.length_map] at e1 e2
 subst e1
 by_cases hn:0<ks.length
 ·rcases e5 with ⟨e5,_⟩|⟨b,o,sp,rfl,rfl,e6⟩
  ·simp at e5;subst e5;simp at hn
  have hzl:zs.length=ks.length:=by rw [e3.rp.len,List.length_map]
  have hz:0<zs.length:=by omega
  have hel: ∀i,Rp h (enc (atW ks hn i)) (atW zs hz i):=fun i=>by
   have:=e3.rp.atW (by rw [List.length_map];exact hn) hz i
   have e:atW (ks.map enc) (by rw [List.length_map];exact hn) i=enc (atW ks hn i):=by simp [atW]
   rwa [e] at this
  have hon: ∀i,oneC (atW zs hz i)=true:=fun i=>(hel i).one (h1 _ (atW_mem hn i))
  have hcat: ∀l:List Nat,catL (l.map (atW zs hz))=l.map (atW zs hz):=fun l=>by
   induction l with
   |nil=>rfl
   |cons x l ih=>show cellsL _++catL (l.map _)=_;rw [cellsL_one (hon x),ih];rfl
  have hzz:(List.range ks.length).map (atW zs hz)=zs:=by rw [<-hzl];exact map_atW hz
  let d:Array Nat:=(List.range ks.length).toArray
  have hds:d.size=ks.length:=by simp [d]
  have hcz:catL zs=zs:=by rw [<-hzz];exact hcat _
  have hH:Sort.Holds (atW zs hz) w b o d:=by
   intro j hj
   rw [hds] at hj
   have kk:=s.own _ (List.mem_cons_self ..)
   have hv:zs[j]? =some (atW zs hz d[j]!):=by
    rw [getElem!_pos d j (by rw [hds];exact hj)]
    have:d[j]'(by rw [hds];exact hj)=j:=by simp [d]
    rw [this];exact atW_lt hz (by omega)
   exact ⟨kk.cell j _ (by show (catL zs++sp)[j]? =_;rw [hcz,List.getElem?_append_left (by omega)];exact hv),kk.warm j (by show j<(catL zs++sp).length;rw [hcz,List.length_append];omega)⟩
  have hst: ∀(m:Nat) (os:Array Obj) (dk:Array Nat),dk.size=d.size->St w0 h (⟨b,o,catL (dk.toList.map (atW zs hz))++sp,none⟩::([]++F)) (Go.Proofs.sortWorld (atW zs hz) w b o m dk os):=fun m os dk hdk=>by
   have:=s.sorted (enc:=atW zs hz) (d:=d) (d':=dk) (n:=m) (os:=os) (by rw [hds,hcz,List.length_append];omega) (by rw [hds];exact hn) hH hdk (fun j hj=>hon _)
   rw [hds,hcz,<-hzl,List.drop_left] at this
   rw [hcat];exact this
  have hcmp:Go.Proofs.CmpLays1 P g #[] (atW zs hz) (fun i j=>cf (atW ks hn i) (atW ks hn j)) b o d.size w:=by
   intro m os dk hdk x y
   exact pure_grown (hc _ (atW_mem hn x) _ (atW_mem hn y)) (hst m os dk hdk).self hg (RpC_cons.2 ⟨_,_,rfl,hel x,RpC_cons.2 ⟨_,_,rfl,hel y,RpC_nil.2 rfl⟩⟩)
  have hcall:=Go.Proofs.Any.slices_SortFunc L (atW zs hz) (fun i=>by rw [<-oneC_eq];exact hon i) (fun i j=>cf (atW ks hn i) (atW ks hn j)) (mono_swo (atW ks hn) hO) g #[] b o cap d w eg hcmp hH (lt_of_cell (hH 0 (by rw [hds];exact hn)).1) (by rw [hds];exact hsz)
  rw [hds] at hcall
  refine hcall.mono fun e w' ⟨he,d',m,os,h1,h2,h3⟩=>?_
  subst h3
  have hd':d'.size=d.size:=h1.1
  have hperm:=perm_of_in hds h1
  have hsort:=sorted_of_in (hd'.trans hds) h2
  have hdl:d'.toList.length=ks.length:=by rw [<-hds,<-hd'];simp
  refine ⟨_,h,_,he,⟨.tp [],_,_,⟨d'.toList.map (atW ks hn),?_,?_,rfl,rfl⟩,?_,GH.le_refl _,⟨[_],[],rfl,⟨_,⟨some ⟨b,o,none⟩,cap,d'.toList.map (atW zs hz),?_,?_,⟨?_,?_,?_⟩,rfl, .inr ⟨b,o,sp,rfl,rfl,?_⟩⟩,rfl⟩,rfl⟩,rfl⟩,hst m os d' hd'⟩
  ·have:=hperm.map (atW ks hn)
   rwa [show d.toList.map (atW ks hn)=ks from map_atW hn] at this
  ·rw [List.pairwise_map]
   refine hsort.imp fun {x y} hxy=>?_
   have hxy:decide (cf (atW ks hn y) (atW ks hn x)<0)=false:=hxy
   simpa using hxy
  ·rw [Rp_tp];exact ⟨[],rfl,RpC_nil.2 rfl⟩
  ·rw [List.length_map,List.length_map,hdl]
  ·rw [List.length_map,List.length_map,hdl];exact e2
  ·rw [List.map_map];exact RpC_map hel _
  ·intro z hz';obtain ⟨i,_,rfl⟩:=List.mem_map.1 hz';rw [cellsL_one (hon i)];rfl
  ·intro z hz';obtain ⟨i,_,rfl⟩:=List.mem_map.1 hz';rw [cellsL_one (hon i)];exact allOne_of fun v hv=>by rw [List.mem_singleton.1 hv];exact hon i
  ·rw [e6,List.length_map,List.length_map,List.length_map,hdl]
 ·have hk0:ks=[]:=List.eq_nil_of_length_eq_zero (by omega)
  subst hk0
  refine (Go.Proofs.AnyF.slices_SortFunc_none {L with} a cap (.func (.func g) #[] #[]) w).mono fun e w' ⟨he,hw⟩=>?_
  subst hw
  exact ⟨_,h,_,he,⟨.tp [],_,_,⟨[], .refl _,List.Pairwise.nil,rfl,rfl⟩,Rp_tp.2 ⟨[],rfl,RpC_nil.2 rfl⟩,GH.le_refl _,⟨[p],[],rfl,⟨p,hrow',rfl⟩,rfl⟩,rfl⟩,s⟩
end
end Go.Tp
namespace Go.Proofs
open Go.Shelf
def Tryz.sortS_ren:Go.Shelf.Ren:=⟨fun|6=>48|15=>94|14=>93|28=>163|29=>164|20=>155|21=>156|22=>157|23=>158|24=>159|25=>160|26=>161|27=>162|46=>234|47=>235|48=>236|49=>237|50=>238|57=>293|n=>n,fun|22=>43|24=>56|25=>98|3=>3|39=>167|0=>0|53=>234|55=>236|4=>4|46=>228|45=>227|50=>143|5=>5|9=>9|66=>315|70=>319|76=>354|77=>355|n=>n,fun|n=>n⟩
theorem Tryz.sortS:Go.Proofs.SlLaysF.n6 Tryz.prog Tryz.sortS_ren:={
 mixed:=by kernel_rfl
 f6:=⟨Tryz.f48.name,by decide,Tryz.func48.trans (congrArg some (by kernel_rfl))⟩
 f14:=⟨Tryz.f93.name,by decide,Tryz.func93.trans (congrArg some (by kernel_rfl))⟩
 f15:=Tryz.func94.trans (congrArg some (by kernel_rfl))
 f20:=⟨Tryz.f155.name,by decide,Tryz.func155.trans (congrArg some (by kernel_rfl))⟩
 f21:=⟨Tryz.f156.name,by decide,Tryz.func156.trans (congrArg some (by kernel_rfl))⟩
 f22:=⟨Tryz.f157.name,by decide,Tryz.func157.trans (congrArg some (by kernel_rfl))⟩
 f23:=⟨Tryz.f158.name,by decide,Tryz.func158.trans (congrArg some (by kernel_rfl))⟩
 f24:=⟨Tryz.f159.name,by decide,Tryz.func159.trans (congrArg some (by kernel_rfl))⟩
 f25:=⟨Tryz.f160.name,by decide,Tryz.func160.trans (congrArg some (by kernel_rfl))⟩
 f26:=⟨Tryz.f161.name,by decide,Tryz.func161.trans (congrArg some (by kernel_rfl))⟩
 f27:=⟨Tryz.f162.name,by decide,Tryz.func162.trans (congrArg some (by kernel_rfl))⟩
 f28:=Tryz.func163.trans (congrArg some (by kernel_rfl))
 f29:=Tryz.func164.trans (congrArg some (by kernel_rfl))
 f46:=⟨Tryz.f234.name,by decide,Tryz.func234.trans (congrArg some (by kernel_rfl))⟩
 f47:=Tryz.func235.trans (congrArg some (by kernel_rfl))
 f48:=Tryz.func236.trans (congrArg some (by kernel_rfl))
 f49:=⟨Tryz.f237.name,by decide,Tryz.func237.trans (congrArg some (by kernel_rfl))⟩
 f50:=⟨Tryz.f238.name,by decide,Tryz.func238.trans (congrArg some (by kernel_rfl))⟩
 f57:=⟨Tryz.f293.name,by decide,Tryz.func293.trans (congrArg some (by kernel_rfl))⟩
 t0:=Tryz.underlying0
 a0:=Tryz.isAgg0
 z0:=Tryz.sizeOf0
 v0:=Tryz.zeroValue0
 t3:=Tryz.underlying3
 a3:=Tryz.isAgg3
 z3:=Tryz.sizeOf3
 v3:=Tryz.zeroValue3
 t4:=Tryz.underlying4
 a4:=Tryz.isAgg4
 z4:=Tryz.sizeOf4
 v4:=Tryz.zeroValue4
 t5:=Tryz.underlying5
 a5:=Tryz.isAgg5
 z5:=Tryz.sizeOf5
 v5:=Tryz.zeroValue5
 t9:=Tryz.underlying9
 a9:=Tryz.isAgg9
 z9:=Tryz.sizeOf9
 v9:=Tryz.zeroValue9
 t22:=Tryz.underlying43
 a22:=Tryz.isAgg43
 z22:=Tryz.sizeOf43
 v22:=Tryz.zeroValue43
 a24:=Tryz.isAgg56
 z24:=Tryz.sizeOf56
 t25:=Tryz.underlying98
 a25:=Tryz.isAgg98
 z25:=Tryz.sizeOf98
 v25:=Tryz.zeroValue98
 t39:=Tryz.underlying167
 a39:=Tryz.isAgg167
 z39:=Tryz.sizeOf167
 v39:=Tryz.zeroValue167
 t45:=Tryz.underlying227
 a45:=Tryz.isAgg227
 z45:=Tryz.sizeOf227
 v45:=Tryz.zeroValue227
 t46:=Tryz.underlying228
 a46:=Tryz.isAgg228
 z46:=Tryz.sizeOf228
 v46:=Tryz.zeroValue228
 t50:=Tryz.underlying143
 a50:=Tryz.isAgg143
 z50:=Tryz.sizeOf143
 v50:=Tryz.zeroValue143
 t53:=Tryz.underlying234
 a53:=Tryz.isAgg234
 z53:=Tryz.sizeOf234
 v53:=Tryz.zeroValue234
 t55:=Tryz.underlying236
 a55:=Tryz.isAgg236
 z55:=Tryz.sizeOf236
 v55:=Tryz.zeroValue236
 t66:=Tryz.underlying315
 a66:=Tryz.isAgg315
 z66:=Tryz.sizeOf315
 v66:=Tryz.zeroValue315
 t70:=Tryz.underlying319
 a70:=Tryz.isAgg319
 z70:=Tryz.sizeOf319
 v70:=Tryz.zeroValue319
 t76:=Tryz.underlying354
 a76:=Tryz.isAgg354
 z76:=Tryz.sizeOf354
 v76:=Tryz.zeroValue354
 t77:=Tryz.underlying355
 a77:=Tryz.isAgg355
 z77:=Tryz.sizeOf355
 v77:=Tryz.zeroValue355}
end Go.Proofs
namespace Go.Proofs.YtkbolbpojpmicaaGreat
open Go Go.Tp
theorem cmpJN(x y:Int):cmpJ x y=cmpN x y:=by unfold cmpJ cmpN;repeat' split;all_goals omega
theorem lexC_step{α:Type}{cmp:α->α->Int}{a b:List α}{i:Nat}{x y:α}(hx:a[i]? =some x)(hy:b[i]? =some y):lexC cmp (a.drop i) (b.drop i)=if cmp x y=0 then lexC cmp (a.drop (i+1)) (b.drop (i+1)) else cmp x y:=by
 rw [drop_at hx,drop_at hy,lexC]
theorem cmpRw_p(a b:List Int)(ha:a.length<=281474976710656)(hb:b.length<=281474976710656):Pure Tryz.prog gs0 95 [rowA a,rowA b] (AI (cmpRw a b)):=by
 have na:((a.map AI32).length:Int)=a.length:=by rw [List.length_map]
 have nb:((b.map AI32).length:Int)=b.length:=by rw [List.length_map]
 refine Exists.elim (show∃R,R=cmpRw a b from ⟨_,rfl⟩) fun R hR=>?_
 rw [<-hR]
 refine p_ tt_ok Tryz.func95 36 fun w0 h0 F hgs=>?_
 refine y_ ?_
 refine A.keep [0,1,9,10,11] rfl ?_
 refine A.loopP (ι:=Nat) (fun i=>(⟨[(0,rowA a),(1,rowA b),(9,rowA a),(10,AI ((a.map AI32).length:Int)),(11,AI (i:Nat))],[]⟩,[])) (fun i=>i<=a.length/\i<=b.length/\R=cmpRw (a.drop i) (b.drop i)) (fun i=>a.length-i) 0 ⟨Nat.zero_le _,Nat.zero_le _,hR⟩ rfl fun i hi ih=>?_
 obtain ⟨hi1,hi2,hi3⟩:=hi
 refine y_ ?_
 by_cases hca:i<a.length
 ·refine Exists.elim (at_exN (l:=a) (i:=i) hca) fun x hx=>?_
  refine T_ rfl (by show decide ((i:Int)<((a.map AI32).length:Int))=true;rw [na,decide_eq_true_eq];omega) ?_
  refine i_ rfl (map_at hx) rfl ?_
  by_cases hcb:i<b.length
  ·refine Exists.elim (at_exN (l:=b) (i:=i) hcb) fun y hy=>?_
   have hc:=cmp32_p x y
   rw [cmpJN] at hc
   have hs:=lexC_step (cmp:=cmpN) hx hy
   have hi3:R=lexC cmpN (a.drop i) (b.drop i):=hi3
   rw [hs] at hi3
   refine F_ rfl (by show decide (((b.map AI32).length:Int)<=(i:Nat))=false;rw [nb,decide_eq_false_iff_not];omega) ?_
   refine i_ rfl (map_at hy) rfl ?_
   refine c_ hc ?_
   by_cases h0:cmpN x y=0
   ·rw [if_pos h0] at hi3
    refine F_ rfl (by rw [h0];rfl) ?_
    refine A.valE 11 rfl (x':=AI ((i+1:Nat):Int)) (inc_eq i (by omega)) ?_
    refine u_ (ih (i+1) ⟨by omega,by omega,hi3⟩ (by omega))
   ·rw [if_neg h0] at hi3
    refine T_ rfl (bne_iff_ne.2 h0) ?_
    refine R_ ?_
    rw [hi3]
    exact .refl
  ·have hb0:b.drop i=[]:=List.drop_eq_nil_of_le (by omega)
   rw [hb0,drop_at hx] at hi3
   refine T_ rfl (by show decide (((b.map AI32).length:Int)<=(i:Nat))=true;rw [nb,decide_eq_true_eq];omega) ?_
   refine R_ ?_
   rw [hi3]
   exact .refl
 ·have ha0:a.drop i=[]:=List.drop_eq_nil_of_le (by omega)
  rw [ha0] at hi3
  clear ih
  refine F_ rfl (by show decide ((i:Int)<((a.map AI32).length:Int))=false;rw [na,decide_eq_false_iff_not];omega) ?_
  by_cases hcb:i<b.length
  ·refine Exists.elim (at_exN (l:=b) (i:=i) hcb) fun y hy=>?_
   rw [drop_at hy] at hi3
   refine T_ rfl (by show decide (((a.map AI32).length:Int)<((b.map AI32).length:Int))=true;rw [na,nb,decide_eq_true_eq];omega) ?_
   refine R_ ?_
   rw [hi3]
   exact .refl
  ·rw [List.drop_eq_nil_of_le (by omega:b.length<=i)] at hi3
   refine F_ rfl (by show decide (((a.map AI32).length:Int)<((b.map AI32).length:Int))=false;rw [na,nb,decide_eq_false_iff_not];omega) ?_
   refine R_ ?_
   rw [hi3]
   exact .refl
theorem order19_p(a b:Sto)(hab:a.length=b.length)(hl:a.length<=1073741824)(ha: ∀r,r∈a->r.length<=281474976710656)(hb: ∀r,r∈b->r.length<=281474976710656):Pure Tryz.prog gs0 49 [rowsA a,rowsA b] (AI (cmpSt a b)):=by
 have na:((a.map rowA).length:Int)=a.length:=by rw [List.length_map]
 refine Exists.elim (show∃R,R=cmpSt a b from ⟨_,rfl⟩) fun R hR=>?_
 rw [<-hR]
 refine p_ tt_ok Tryz.func49 25 fun w0 h0 F hgs=>?_
 refine y_ ?_
 refine A.keep [0,1,8,9] rfl ?_
 refine A.loopP (ι:=Nat) (fun i=>(⟨[(0,rowsA a),(1,rowsA b),(8,AI ((a.map rowA).length:Int)),(9,AI (i:Nat))],[]⟩,[])) (fun i=>i<=a.length/\R=cmpSt (a.drop i) (b.drop i)) (fun i=>a.length-i) 0 ⟨Nat.zero_le _,hR⟩ rfl fun i hi ih=>?_
 obtain ⟨hi1,hi3⟩:=hi
 refine y_ ?_
 by_cases hca:i<a.length
 ·refine Exists.elim (at_exN (l:=a) (i:=i) hca) fun x hx=>?_
  refine Exists.elim (at_exN (l:=b) (i:=i) (by omega)) fun y hy=>?_
  have hc:=cmpRw_p x y (ha x (List.mem_of_getElem? hx)) (hb y (List.mem_of_getElem? hy))
  have hs:=lexC_step (cmp:=cmpRw) hx hy
  have hi3:R=lexC cmpRw (a.drop i) (b.drop i):=hi3
  rw [hs] at hi3
  refine T_ rfl (by show decide ((i:Int)<((a.map rowA).length:Int))=true;rw [na,decide_eq_true_eq];omega) ?_
  refine d_ 9 [0,1,2,3,4,5,6,7,8] [(8,AI (cmpRw x y))] ?_
  refine iw_ rfl (map_at hx) rfl ?_
  refine iw_ rfl (map_at hy) rfl ?_
  refine WA.c rfl rfl hc (.sub s_) ?_
  refine z_ ?_
  by_cases h0:cmpRw x y=0
  ·rw [if_pos h0] at hi3
   refine F_ rfl (by rw [h0];rfl) ?_
   refine A.valE 9 rfl (x':=AI ((i+1:Nat):Int)) (inc_eq i (by omega)) ?_
   refine u_ (ih (i+1) ⟨by omega,hi3⟩ (by omega))
  ·rw [if_neg h0] at hi3
   refine T_ rfl (bne_iff_ne.2 h0) ?_
   refine R_ ?_
   rw [hi3]
   exact .refl
 ·rw [List.drop_eq_nil_of_le (by omega:a.length<=i),List.drop_eq_nil_of_le (by omega:b.length<=i)] at hi3
  clear ih
  refine F_ rfl (by show decide ((i:Int)<((a.map rowA).length:Int))=false;rw [na,decide_eq_false_iff_not];omega) ?_
  refine R_ ?_
  rw [hi3]
  exact .refl
theorem cmpSt_dec(a b:Sto):decide (cmpSt a b<0)=ltSt a b:=by rw [Bool.eq_iff_iff,decide_eq_true_eq,cmpSt_lt]
theorem swo19{α:Type}{lt:α->α->Bool}(o:Ord lt):Sort.SWO lt where
 irrefl:=o.irrefl
 trans:=o.trans
 ntrans x y z h1 h2:=by
  cases h:lt x z with
  |false=>rfl
  |true=>
   cases h3:lt y x with
   |true=>rw [o.trans _ _ _ h3 h] at h2;cases h2
   |false=>rw [o.tri _ _ h1 h3] at h;rw [h] at h2;cases h2
theorem sortS_p{V:List KV}(z:Value)(n:Nat)(l:List Sto)(hb:l.length<=1099511627776)(hl: ∀s,s∈l->StOk V s):FunE Tryz.prog gs0 48 [.ms z 1 n, .fn 49 [] []] [.row 1 z (l.map rowsA)] (fun _:List Sto=> .tp []) (fun l'=>[.row 1 z (l'.map rowsA)]) (fun l'=>l'.Perm l/\l'.Pairwise fun x y=>ltSt y x=false):=by
 refine (sort1_fun (ρ:=Tryz.sortS_ren) Tryz.sortS ⟨_,_,Tryz.func48,rfl,rfl⟩
  rowsA cmpSt ?_ 49 (enters_of Tryz.func49 (by kernel_rfl) rfl) z n l (fun x _=>rfl) (fun x hx y hy=>order19_p x y ((mayB_rows (hl x hx).may).1.trans (mayB_rows (hl y hy).may).1.symm) (by have:=(shp_short (hl x hx)).1;omega) (fun r hr=>by have:=(shp_short (hl x hx)).2 r hr;omega) (fun r hr=>by have:=(shp_short (hl y hy)).2 r hr;omega)) (by omega)).mono fun y Λ' ⟨l',h1,h2,h3,h4⟩=>⟨l',by rw [h3];exact .refl,h4,h1,h2.imp fun {a b} h=>?_⟩
 ·have:=swo19 ord_st
  simp only [cmpSt_dec]
  exact this
 ·rw [<-cmpSt_dec];simpa using h
def endE(k:KN)(t:TR)(f:Int):Int:=if errX k t f=0 then (if (runX k t f).miss=true then 190 else 0) else errX k t f
def endX(k:KN)(t:TR)(f:Int):List Sto:=if endE k t f=0 then endsM (runX k t f) t.length else []
abbrev stsA(l:List Sto):AV:= .sl 1 (l.map rowsA) none
theorem put_no19(s:Sto):putM s (-1) 0 0=s:=by
 unfold putM
 rw [if_neg]
 unfold atM
 simp
abbrev eT(q:RN)(n i:Nat):List Sto:=((q.ends.take i).filter fun e=>decide (e.1=n)).map (·.2)
theorem tends_p(k:KN)(hk:SmN k)(t:TR)(ht:TrI t)(f:Int)(hw:errX k t f=0->wayR k.root f.toNat<=2000):Pure Tryz.prog gs0 17 [encN k,trA t,AI f] (.tp [stsA (endX k t f),AI (endE k t f)]):=by
 have h1:=tof_p k hk t ht f hw
 have nt:=trA_len t
 by_cases he:errX k t f=0
 case neg=>
  have e2:endE k t f=errX k t f:=by unfold endE;rw [if_neg he]
  have e1:endX k t f=[]:=by unfold endX;rw [e2,if_neg he]
  rw [e1,e2]
  refine p_ tt_ok Tryz.func17 47 fun w0 h0 F hgs=>?_
  (repeat refine A.s rfl ?_)
  refine A.b rfl fun b3=>?_
  refine y_ ?_
  refine n_ h1 ?_
  (repeat refine A.s rfl ?_)
  refine A.b rfl fun b8=>?_
  refine y_ ?_
  refine T_ rfl (by show (errX k t f !=0)=true;exact bne_iff_ne.2 he) ?_
  refine q_ ?_
  exact s_
 have hO:ofX k t f=runX k t f:=by unfold ofX;rw [if_pos he]
 have hxo:=errX_ok he
 have hu:=un_root hk hxo.may hxo.unt
 have hqo:QOk k.vars (runX k t f) t.length (wayR k.root f.toNat):=one_ok hu [0,1] t _ ht (stX hxo.may)
 have hww:=hw he
 rw [he,hO] at h1
 unfold endX endE
 rw [he,if_pos rfl]
 refine Exists.elim (show∃q,q=runX k t f from ⟨_,rfl⟩) fun q hq=>?_
 rw [<-hq] at h1 hqo⊢
 have hlen:=hqo.len
 have nq:((q.ends.map enA).length:Int)=q.ends.length:=by rw [List.length_map]
 cases hmi:q.miss with
 |true=>
  rw [if_pos rfl,if_neg (by decide)]
  refine p_ tt_ok Tryz.func17 47 fun w0 h0 F hgs=>?_
  (repeat refine A.s rfl ?_)
  refine A.b rfl fun b3=>?_
  refine y_ ?_
  refine n_ h1 ?_
  (repeat refine A.s rfl ?_)
  refine A.b rfl fun b8=>?_
  refine y_ ?_
  refine T_ rfl hmi ?_
  refine q_ ?_
  exact s_
 |false=>
  rw [show (if false=true then (190:Int) else 0)=0 from rfl,if_pos rfl]
  have hall: ∀s,s∈eT q t.length q.ends.length->StOk k.vars s:=fun s hs=>by
   rw [eT,List.take_length] at hs
   obtain ⟨e,he',rfl⟩:=List.mem_map.1 hs
   exact hqo.ok e (List.mem_filter.1 he').1
  have hel: ∀i,(eT q t.length i).length<=2000:=fun i=>by
   rw [eT,List.length_map]
   have h1:=List.length_filter_le (fun e=>decide (e.1=t.length)) (q.ends.take i)
   have h2:=List.length_take_le i q.ends
   have h3:(q.ends.take i).length<=q.ends.length:=by rw [List.length_take];omega
   omega
  refine p_ tt_ok Tryz.func17 47 fun w0 h0 F hgs=>?_
  (repeat refine A.s rfl ?_)
  refine A.b rfl fun b3=>?_
  refine y_ ?_
  refine n_ h1 ?_
  (repeat refine A.s rfl ?_)
  refine A.b rfl fun b8=>?_
  refine y_ ?_
  refine F_ rfl hmi ?_
  refine A.nilRow 1 ?_
  refine A.valR 10 (x':= .ms (.slice none 0 0) 1 0) rfl (fun h y r=>nil_ms19 1 r) ?_
  refine l_ (Λ':=[.row 1 (.slice none 0 0) []]) ?_
  refine A.keep [1,10,26,27,28] rfl ?_
  refine A.loopP (ι:=Nat×Value) (fun u=>(⟨[(1,trA t),(10, .ms u.2 1 (eT q t.length u.1).length),(26, .sl 2 (q.ends.map enA) none),(27,AI ((q.ends.map enA).length:Int)),(28,AI (u.1:Nat))],[]⟩,[.row 1 u.2 ((eT q t.length u.1).map rowsA)])) (fun u=>u.1<=q.ends.length) (fun u=>q.ends.length-u.1) (0, .slice none 0 0) (Nat.zero_le _) rfl fun u hu' ih=>?_
  obtain ⟨i,z⟩:=u
  have hi1:i<=q.ends.length:=hu'
  have hli:=hel i
  refine y_ ?_
  by_cases hci:i<q.ends.length
  ·refine Exists.elim (at_exN (l:=q.ends) (i:=i) hci) fun e he'=>?_
   have hput:=(hqo.ok e (List.mem_of_getElem? he')).small.put_p (-1) 0 0
   rw [put_no19] at hput
   refine T_ rfl (by show decide ((i:Int)<((q.ends.map enA).length:Int))=true;rw [nq,decide_eq_true_eq];omega) ?_
   refine j_ rfl (map_at he') rfl ?_
   (repeat refine A.s rfl ?_)
   refine A.b rfl fun b12=>?_
   refine y_ ?_
   by_cases hn:e.1=t.length
   ·have hap:eT q t.length (i+1)=eT q t.length i++[e.2]:=by
     rw [eT,takeN he',List.filter_append,List.map_append]
     simp [hn]
    refine T_ rfl (by show ((e.1:Int)==((t.map evA).length:Int))=true;rw [nt,hn];exact beq_self_eq_true _) ?_
    refine n_ hput ?_
    refine t_ fun bl=>?_
    refine A.appendRowE rfl rfl rfl rfl rfl rfl rfl rfl rfl rfl rfl rfl rfl rfl (by show (((eT q t.length i).map rowsA).length+1)*1<=_;rw [List.length_map];omega) (by show (((eT q t.length i).map rowsA).length+1)*1*24<=_;rw [List.length_map];omega) fun zz=>?_
    refine A.s rfl ?_
    refine A.valE 10 rfl (x':= .ms zz 1 (eT q t.length (i+1)).length) (by rw [hap,List.length_append,List.length_map];rfl) ?_
    refine l_ (Λ':=[.row 1 zz ((eT q t.length i).map rowsA++[rowsA e.2])]) ?_
    refine A.entsEq (Λ':=[.row 1 zz ((eT q t.length (i+1)).map rowsA)]) (by rw [hap,List.map_append];rfl) ?_
    refine y_ ?_
    refine A.valE 28 rfl (x':=AI ((i+1:Nat):Int)) (inc_eq i (by omega)) ?_
    refine u_ (ih (i+1,zz) (by show i+1<=_;omega) (by show _-(i+1)<_-i;omega))
   ·have hap:eT q t.length i=eT q t.length (i+1):=by
     rw [eT,eT,takeN he',List.filter_append,List.map_append]
     simp [hn]
    refine F_ rfl (by show ((e.1:Int)==((t.map evA).length:Int))=false;rw [nt,beq_eq_false_iff_ne];omega) ?_
    refine l_ (Λ':=[.row 1 z ((eT q t.length i).map rowsA)]) ?_
    refine A.entsEq (Λ':=[.row 1 z ((eT q t.length (i+1)).map rowsA)]) (by rw [hap]) ?_
    refine A.valE 10 rfl (x':= .ms z 1 (eT q t.length (i+1)).length) (by rw [hap]) ?_
    refine A.valE 28 rfl (x':=AI ((i+1:Nat):Int)) (inc_eq i (by omega)) ?_
    refine u_ (ih (i+1,z) (by show i+1<=_;omega) (by show _-(i+1)<_-i;omega))
  ·refine A.gF rfl (by show decide ((i:Int)<((q.ends.map enA).length:Int))=false;rw [nq,decide_eq_false_iff_not];omega) ?_
   clear ih
   have hii:i=q.ends.length:=by omega
   subst hii
   have hso:=sortS_p z (eT q t.length q.ends.length).length (eT q t.length q.ends.length) (by omega) hall
   refine y_ ?_
   refine A.e rfl hso .refl (.refl _) fun l' hl'=>?_
   have hfin:l'=endsM q t.length:=by
    have hnod:=nod_ends hqo.wf.nod t.length
    have hp:=hl'.1
    rw [eT,List.take_length] at hp
    exact sort_ends hnod hp hl'.2
   refine A.entsEq (Λ':=[.row 1 z ((endsM q t.length).map rowsA)]) (by rw [hfin];rfl) ?_
   refine y_ ?_
   refine A.freezeRow 6 rfl ?_
   refine q_ ?_
   exact s_
end Go.Proofs.YtkbolbpojpmicaaGreat
namespace Go.Proofs.YtkbolbpojpmicaaGreat
open Go Go.Tp
theorem alike_iff{α:Type}{f:α->α->Bool}(hf: ∀x y,f x y=true↔x=y)(a b:List α):alikeB f a b=true↔a=b:=by
 constructor
 ·intro h
  simp only [alikeB,allEq,Bool.and_eq_true,decide_eq_true_eq,List.all_eq_true,List.mem_range] at h
  obtain ⟨h1,h2⟩:=h
  apply List.ext_getElem?
  intro i
  rcases Nat.lt_or_ge i a.length with hi|hi
  ·have h3:=h2 i hi
   have hi2:i<b.length:=by omega
   rw [List.getElem?_eq_getElem hi,List.getElem?_eq_getElem hi2] at h3⊢
   simp only [hf] at h3
   rw [h3]
  ·rw [List.getElem?_eq_none hi,List.getElem?_eq_none (by omega)]
 ·rintro rfl;exact alike_refl (fun x=>(hf x x).2 rfl) a
theorem same_iff(a b:List (List Int)):sameB a b=true↔a=b:=alike_iff (fun x y=>alike_iff (fun u v=>by simp) x y) a b
theorem sameB_dec(a b:Sto):sameB a b=decide (a=b):=by rw [Bool.eq_iff_iff,same_iff,decide_eq_true_eq]
theorem sameAll_p(a b:List Sto)(ha: ∀s,s∈a->short s)(hl:a.length<=281474976710656):Pure Tryz.prog gs0 19 [stsA a,stsA b] (AB (decide (a=b))):=by
 have na:((a.map rowsA).length:Int)=a.length:=by rw [List.length_map]
 have nb:((b.map rowsA).length:Int)=b.length:=by rw [List.length_map]
 by_cases hlen:a.length=b.length
 case neg=>
  rw [decide_eq_false (fun e=>hlen (by rw [e]))]
  refine p_ tt_ok Tryz.func19 27 fun w0 h0 F hgs=>?_
  refine y_ ?_
  refine T_ rfl (by rw [na,nb,bne_iff_ne];omega) ?_
  exact r_
 refine Exists.elim (show∃R,R=decide (a=b) from ⟨_,rfl⟩) fun R hR=>?_
 rw [<-hR]
 refine p_ tt_ok Tryz.func19 27 fun w0 h0 F hgs=>?_
 refine y_ ?_
 refine F_ rfl (by rw [na,nb,hlen];simp) ?_
 refine A.keep [0,1,5] rfl ?_
 refine A.loopP (ι:=Nat) (fun i=>(⟨[(0,stsA a),(1,stsA b),(5,AI (i:Nat))],[]⟩,[])) (fun i=>i<=a.length/\R=decide (a.drop i=b.drop i)) (fun i=>a.length-i) 0 ⟨Nat.zero_le _,hR⟩ rfl fun i hi ih=>?_
 obtain ⟨hi1,hi3⟩:=hi
 refine y_ ?_
 by_cases hca:i<a.length
 ·refine Exists.elim (at_exN (l:=a) (i:=i) hca) fun x hx=>?_
  refine Exists.elim (at_exN (l:=b) (i:=i) (by omega)) fun y hy=>?_
  have hc:=rSame_p x y (ha x (List.mem_of_getElem? hx))
  rw [sameB_dec] at hc
  rw [drop_at hx,drop_at hy] at hi3
  refine T_ rfl (by show decide ((i:Int)<((a.map rowsA).length:Int))=true;rw [na,decide_eq_true_eq];omega) ?_
  refine d_ 10 [0,1,2,3,4,5,6,7,8,9] [(8,AB (decide (x=y)))] ?_
  refine iw_ rfl (map_at hx) rfl ?_
  refine iw_ rfl (map_at hy) rfl ?_
  refine cw_ hc ?_
  refine z_ ?_
  by_cases hxy:x=y
  ·refine F_ rfl (by rw [decide_eq_true hxy];rfl) ?_
   refine A.valE 5 rfl (x':=AI ((i+1:Nat):Int)) (inc_eq i (by omega)) ?_
   refine u_ (ih (i+1) ⟨by omega,by rw [hi3,hxy];simp⟩ (by omega))
  ·refine T_ rfl (by rw [decide_eq_false hxy];rfl) ?_
   refine R_ ?_
   rw [hi3,decide_eq_false (fun e=>hxy (by injection e))]
   exact .refl
 ·rw [List.drop_eq_nil_of_le (by omega:a.length<=i),List.drop_eq_nil_of_le (by omega:b.length<=i)] at hi3
  clear ih
  refine F_ rfl (by show decide ((i:Int)<((a.map rowsA).length:Int))=false;rw [na,decide_eq_false_iff_not];omega) ?_
  refine R_ ?_
  rw [hi3]
  exact .refl
abbrev setA(z:Value)(n:Nat)(f:FuncId):AV:= .ag [.ms z 12 n, .fn f [] []]
section
variable{α:Type}
end
end Go.Proofs.YtkbolbpojpmicaaGreat
namespace Go.Proofs.YtkbolbpojpmicaaGreat
end Go.Proofs.YtkbolbpojpmicaaGreat
namespace Go.Proofs.YtkbolbpojpmicaaGreat
open Go Go.Tp
theorem set_same{α:Type}: ∀{l:List α} {i:Nat} {x:α},l[i]? =some x->l.set i x=l
 | [],_,_,h=>by simp at h
 |y::r,0,x,h=>by injection h with h;subst h;rfl
 |y::r,i+1,x,h=>by rw [List.set_cons_succ,set_same (by simpa using h)]
end Go.Proofs.YtkbolbpojpmicaaGreat
namespace Go.Proofs
open Go.Shelf
end Go.Proofs
namespace Go.Proofs.YtkbolbpojpmicaaGreat
open Go Go.Tp
end Go.Proofs.YtkbolbpojpmicaaGreat
namespace Go.Proofs.YtkbolbpojpmicaaGreat
open Go Go.Tp
abbrev oP(c n:Int):PR:=⟨6,c,0,1,[],[knum n],[],[]⟩
abbrev iP(c:Int):PR:=⟨5,c,0,1,[⟨0,[]⟩],[],[],[]⟩
abbrev exK:KN:=⟨[⟨1,0⟩],[1,2,0],⟨10,0,0,0,[],[],[],[oP 2 7,iP 2]⟩,[]⟩
abbrev exO:KN:=⟨[⟨1,0⟩],[1,2,0],oP 2 7,[]⟩
theorem ex_sm:SmN exK where
 wf:=⟨by show 1<=_;decide,by show 3<=_;decide,by show 0<=_;decide,by
  simp [wfR,wfRl,wfGl,wfKl,wfK,wfPl,i32,i64,Go.Tp.u8];try omega⟩
 root:=by simp [smR,smRl,smGl,smK,smKl,smP]
theorem exo_sm:SmN exO where
 wf:=⟨by show 1<=_;decide,by show 3<=_;decide,by show 0<=_;decide,by
  simp [wfR,wfRl,wfGl,wfKl,wfK,wfPl,i32,i64,Go.Tp.u8];try omega⟩
 root:=by simp [smR,smRl,smGl,smK,smKl,smP]
theorem ev_i{c v:Int}(h:i32 v):TrI [(c,v)]:=fun e he=>by rw [List.mem_singleton.1 he];exact h
theorem exw:wayR exK.root (0:Int).toNat<=2000:=by decide+kernel
theorem exw2:wayR exO.root (0:Int).toNat<=2000:=by decide+kernel
theorem x1:hasX exK [(2,7)] 0=true:=by kernel_rfl
theorem x2:hasE exK [(2,7)] 0=0:=by kernel_rfl
theorem x3:hasX exK [(2,8)] 0=false:=by kernel_rfl
theorem x4:hasE exK [(2,8)] 0=0:=by kernel_rfl
theorem x5:endX exK [(2,7)] 0=[[[7]]]:=by kernel_rfl
theorem x6:endE exK [(2,7)] 0=0:=by kernel_rfl
theorem x7:hasX exO [(2,7)] 0=false:=by kernel_rfl
theorem x8:hasE exO [(2,7)] 0=0:=by kernel_rfl
theorem example_p:Pure Tryz.prog gs0 44 [] (encN exK):=by
 refine p_ tt_ok Tryz.func44 13 fun w0 h0 F hgs=>?_
 (refine b_ fun bx=>?_;refine t_ fun bl=>?_;refine t_ fun bl=>?_;refine t_ fun bl=>?_;refine t_ fun bl=>?_;refine t_ fun bl=>?_;refine y_ ?_)
 refine A.retC (Λ':=[]) rfl rfl rfl rfl rfl (List.nil_sublist _) ⟨?_,rfl⟩
 exact s_
theorem head19_p:Pure Tryz.prog gs0 14 [] (AB true):=by
 have h0':=example_p
 have h1:=thas_p exK ex_sm [(2,7)] (ev_i (by unfold i32;omega)) 0 (fun _=>exw)
 have h2:=thas_p exK ex_sm [(2,8)] (ev_i (by unfold i32;omega)) 0 (fun _=>exw)
 have h3:=tends_p exK ex_sm [(2,7)] (ev_i (by unfold i32;omega)) 0 (fun _=>exw)
 have h4:=thas_p exO exo_sm [(2,7)] (ev_i (by unfold i32;omega)) 0 (fun _=>exw2)
 rw [x1,x2] at h1
 rw [x3,x4] at h2
 rw [x5,x6] at h3
 rw [x7,x8] at h4
 refine p_ tt_ok Tryz.func14 101 fun w0 h0 F hgs=>?_
 refine y_ ?_
 refine n_ h0' ?_
 refine A.b rfl fun b1=>?_
 refine t_ fun bl=>?_
 refine n_ h1 ?_
 refine t_ fun bl=>?_
 refine n_ h2 ?_
 refine t_ fun bl=>?_
 refine c_ h3 ?_
 refine j_ rfl rfl rfl ?_
 refine t_ fun bl=>?_
 refine c_ h4 ?_
 refine i_ rfl rfl rfl ?_
 refine i_ rfl rfl rfl ?_
 refine i_ rfl rfl rfl ?_
 refine i_ rfl rfl rfl ?_
 refine i_ rfl rfl rfl ?_
 refine i_ rfl rfl rfl ?_
 exact r_
theorem errX_cases(k:KN)(t:TR)(f:Int):errX k t f=0\/errX k t f=2\/errX k t f=3:=by unfold errX;repeat' split;all_goals omega
theorem xOk_run{k:KN}(hk:SmN k){t:TR}(ht:TrI t){f:Int}(h:XOk k t f):QOk k.vars (runX k t f) t.length (wayR k.root f.toNat):=one_ok (un_root hk h.may h.unt) [0,1] t _ ht (stX h.may)
theorem endE_ok{k:KN}{t:TR}{f:Int}(h:endE k t f=0):errX k t f=0/\(runX k t f).miss=false:=by
 unfold endE at h
 by_cases he:errX k t f=0
 ·rw [if_pos he] at h
  refine ⟨he,?_⟩
  cases hm:(runX k t f).miss with
  |false=>rfl
  |true=>rw [hm,if_pos rfl] at h;omega
 ·rw [if_neg he] at h;exact absurd h he
theorem endX_ok{k:KN}(hk:SmN k){t:TR}(ht:TrI t){f:Int}: ∀s,s∈endX k t f->StOk k.vars s:=fun s hs=>by
 unfold endX at hs
 split at hs
 ·rename_i h
  have hx:=errX_ok (endE_ok h).1
  exact (xOk_run hk ht hx).ok _ (endsM_mem.1 hs)
 ·cases hs
theorem endX_len{k:KN}(hk:SmN k){t:TR}(ht:TrI t){f:Int}(hw:errX k t f=0->wayR k.root f.toNat<=2000):(endX k t f).length<=2000:=by
 unfold endX
 split
 ·rename_i h
  have hx:=errX_ok (endE_ok h).1
  have h1:=(xOk_run hk ht hx).len
  have h2:=hw (endE_ok h).1
  unfold endsM
  have h3:=insAll19_len (lt:=ltSt) (endsAt (runX k t f) t.length) []
  have h4:(endsAt (runX k t f) t.length).length<=(runX k t f).ends.length:=by
   unfold endsAt
   rw [List.length_map]
   exact List.length_filter_le _ _
  rw [List.length_nil] at h3
  omega
 ·exact Nat.zero_le _
theorem sto_short{V:List KV}{s:Sto}(h:StOk V s):short s:=⟨by have:=(shp_short h).1;omega,fun r hr=>by have:=(shp_short h).2 r hr;omega⟩
theorem hasX_iff{k:KN}{t:TR}{f:Int}(h:XOk k t f):hasX k t f=decide ((runX k t f).reach=t.length):=by
 unfold hasX
 rw [errX_zero h,show ((0:Int)==0)=true from rfl,Bool.true_and]
 rw [Bool.eq_iff_iff,beq_iff_eq,decide_eq_true_eq]
theorem hasE_true{k:KN}{t:TR}{f:Int}(h:XOk k t f)(hh:hasX k t f=true):hasE k t f=0:=by
 rw [hasX_iff h,decide_eq_true_eq] at hh
 unfold hasE
 rw [errX_zero h,if_pos rfl,if_neg (fun h=>h.1 hh)]
theorem hasE_some{k:KN}{t:TR}{f:Int}(h:XOk k t f):hasE k t f=0\/hasE k t f=190:=by
 unfold hasE
 rw [errX_zero h,if_pos rfl]
 split
 ·exact .inr rfl
 ·exact .inl rfl
end Go.Proofs.YtkbolbpojpmicaaGreat
namespace Go.Proofs.YtkbolbpojpmicaaGreat
open Go Go.Tp Go.ChangeShapes Go.WideShapes Go.ChangeAt Go.RowKit
theorem own:ownKnob Tryz.prog.godebug=none:=by kernel_rfl
theorem laidOut:laidOutB Tryz.prog=true:=by kernel_rfl
section
variable{H:Type}{enc:TypeId×Value->H}{W:World}{base:Nat}{sp:Nat->Bool}{hd:Bool}
abbrev cellsKl(e:KE):List AV:=[AU8 e.kind,AU8 e.oper,AU8 e.to,AI32 e.n,AI e.v, .sl 6 (encKl e.l) none]
abbrev cellsRl(p:PR):List AV:=[AU8 p.kind,AI p.c,AI p.v,AU8 p.item,plsA p.to,kesA p.e,gsA p.gs,rsA p.l]
abbrev cellsGl(g:GD):List AV:=[AU8 g.kind,AU8 g.cond.kind,AU8 g.cond.oper,AU8 g.cond.to,AI32 g.cond.n,AI g.cond.v,kesA g.cond.l,AI g.c,AU8 g.item,AI g.to.v,kesA g.to.ix,AU8 g.time.kind,AU8 g.time.oper,AU8 g.time.to,AI32 g.time.n,AI g.time.v,kesA g.time.l,rsA g.body]
theorem encKl_ag(l:List KE):encKl l=l.map fun e=> .ag (cellsKl e):=by rw [encKl_map];congr 1;funext e;exact encK_eq e
theorem encRl_ag(l:List PR):encRl l=l.map fun e=> .ag (cellsRl e):=by rw [encRl_map];congr 1;funext e;exact encR_eq e
theorem encGl_ag(l:List GD):encGl l=l.map fun e=> .ag (cellsGl e):=by rw [encGl_map];congr 1;funext e;exact encG_eq e
abbrev OkE(e:KE):Prop:=wfK e/\smK e
abbrev OkP(p:PL):Prop:=wfPl p/\smP p
abbrev OkR(p:PR):Prop:=wfR p/\smR p
abbrev OkG(g:GD):Prop:=wfG g/\smG g
theorem okEl_of: ∀{l:List KE},(∀a,a∈l->OkE a)->wfKl l/\smKl l
 | [],_=>by rw [wfKl,smKl];exact ⟨trivial,trivial⟩
 |x::r,h=>by
  have h1:=h x (List.mem_cons_self ..)
  have h2:=okEl_of (l:=r) fun a ha=>h a (List.mem_cons_of_mem _ ha)
  rw [wfKl,smKl];exact ⟨⟨h1.1,h2.1⟩,⟨h1.2,h2.2⟩⟩
theorem okRl_of: ∀{l:List PR},(∀a,a∈l->OkR a)->wfRl l/\smRl l
 | [],_=>by rw [wfRl,smRl];exact ⟨trivial,trivial⟩
 |x::r,h=>by
  have h1:=h x (List.mem_cons_self ..)
  have h2:=okRl_of (l:=r) fun a ha=>h a (List.mem_cons_of_mem _ ha)
  rw [wfRl,smRl];exact ⟨⟨h1.1,h2.1⟩,⟨h1.2,h2.2⟩⟩
theorem okGl_of: ∀{l:List GD},(∀a,a∈l->OkG a)->wfGl l/\smGl l
 | [],_=>by rw [wfGl,smGl];exact ⟨trivial,trivial⟩
 |x::r,h=>by
  have h1:=h x (List.mem_cons_self ..)
  have h2:=okGl_of (l:=r) fun a ha=>h a (List.mem_cons_of_mem _ ha)
  rw [wfGl,smGl];exact ⟨⟨h1.1,h2.1⟩,⟨h1.2,h2.2⟩⟩
theorem op_ke: ∀n,Opn enc Tryz.prog W base sp hd n 105 cellsKl OkE
 |0=>Opn.zero
 |n+1=>by
  have ih:=op_ke n
  have hl:=(Opn.sliceA (t:=27) (sz:=6) (bt:=40) (by kernel_rfl) (by kernel_rfl) (by kernel_rfl) (by decide) ih).mono (Nat.le_succ n)
  have hf:=OpnF.cons (f:=⟨"Kind",102,0,false, "", "",0⟩) (Opn.u8 (by kernel_rfl) n) rfl 1 (by kernel_rfl) (OpnF.cons (f:=⟨"Oper",103,1,false, "", "",1⟩) (Opn.u8 (by kernel_rfl) n) rfl 1 (by kernel_rfl)
   (OpnF.cons (f:=⟨"To",25,2,false, "", "",2⟩) (Opn.u8 (by kernel_rfl) n) rfl 1 (by kernel_rfl) (OpnF.cons (f:=⟨"N",21,3,false, "", "",4⟩) (Opn.i32 (by kernel_rfl) n) rfl 1 (by kernel_rfl)
   (OpnF.cons (f:=⟨"V",3,4,false, "", "",8⟩) (Opn.i64 (by kernel_rfl) n) rfl 1 (by kernel_rfl) (OpnF.cons (f:=⟨"L",27,5,false, "", "",16⟩) hl rfl 1 (by kernel_rfl) OpnF.nil)))))
  refine (Opn.struct (t:=105) (sz:=6) (fs:= #[⟨"Kind",102,0,false, "", "",0⟩,⟨"Oper",103,1,false, "", "",1⟩,⟨"To",25,2,false, "", "",2⟩,⟨"N",21,3,false, "", "",4⟩,⟨"V",3,4,false, "", "",8⟩,⟨"L",27,5,false, "", "",16⟩]) (by kernel_rfl) (by kernel_rfl) hf (by kernel_rfl)).map (fun p=>⟨p.1,p.2.1,p.2.2.1,p.2.2.2.1,p.2.2.2.2.1,p.2.2.2.2.2.1⟩) (fun p=>?_) (fun p hp=>?_)
  ·show cellsKl _=[_]++([_]++([_]++([_]++([_]++([AV.sl 6 _ none]++[])))))
   rw [<-encKl_ag];rfl
  ·obtain ⟨k,o,t,n,s,l,u⟩:=p
   obtain ⟨h1,h2,h3,h4,h5,⟨h6,h7⟩,_⟩:=hp
   have h8:=okEl_of h6
   unfold reachBytes at h7
   refine ⟨?_,?_⟩
   ·rw [wfK];exact ⟨⟨h1,h2,h3,h4,h5⟩,h8.1⟩
   ·rw [smK];exact ⟨Nat.le_trans h7 (by decide),h8.2⟩
theorem op_kes(n:Nat):Opn enc Tryz.prog W base sp hd n 27 (fun l:List KE=>[kesA l]) (fun l=>(∀x,x∈l->OkE x)/\l.length*40<=140737488355328):=by
 refine ((Opn.sliceA (t:=27) (sz:=6) (bt:=40) (by kernel_rfl) (by kernel_rfl) (by kernel_rfl) (by decide) (op_ke n)).mono (Nat.le_succ n)).map (fun l=>l) (fun l=>?_) (fun l h=>⟨h.1,by have:=h.2;unfold reachBytes at this;exact Nat.le_trans this (by decide)⟩)
 show [AV.sl 6 (encKl l) none]=_
 rw [encKl_ag]
theorem op_pl(n:Nat):Opn enc Tryz.prog W base sp hd n 107 (fun p:PL=>[AI p.v,kesA p.ix]) OkP:=by
 have hf:=OpnF.cons (f:=⟨"V",3,0,false, "", "",0⟩) (Opn.i64 (enc:=enc) (P:=Tryz.prog) (W:=W) (base:=base) (sp:=sp) (hd:=hd) (by kernel_rfl) n) rfl 1 (by kernel_rfl) (OpnF.cons (f:=⟨"Index",27,1,false, "", "",8⟩) (op_kes n) rfl 1 (by kernel_rfl) OpnF.nil)
 exact ((Opn.struct (t:=107) (sz:=2) (fs:= #[⟨"V",3,0,false, "", "",0⟩,⟨"Index",27,1,false, "", "",8⟩]) (by kernel_rfl) (by kernel_rfl) hf (by kernel_rfl)).mono (Nat.le_succ n)).map (fun p=>⟨p.1,p.2.1⟩) (fun p=>rfl) (fun p hp=>⟨(okEl_of hp.2.1.1).1,hp.2.1.2,fun x hx=>(hp.2.1.1 x hx).2⟩)
theorem op_pls(n:Nat):Opn enc Tryz.prog W base sp hd n 26 (fun l:List PL=>[plsA l]) (fun l=>(∀t,t∈l->OkP t)/\l.length*32<=140737488355328):=
 ((Opn.sliceA (t:=26) (sz:=2) (bt:=32) (by kernel_rfl) (by kernel_rfl) (by kernel_rfl) (by decide) (op_pl n)).mono (Nat.le_succ n)).map (fun l=>l) (fun l=>rfl) (fun l h=>⟨h.1,by have:=h.2;unfold reachBytes at this;exact Nat.le_trans this (by decide)⟩)
theorem op_prs{n:Nat}(ih:Opn enc Tryz.prog W base sp hd n 31 cellsRl OkR):Opn enc Tryz.prog W base sp hd n 29 (fun l:List PR=>[rsA l]) (fun l=>(∀t,t∈l->OkR t)/\l.length*128<=140737488355328):=by
 refine ((Opn.sliceA (t:=29) (sz:=8) (bt:=128) (by kernel_rfl) (by kernel_rfl) (by kernel_rfl) (by decide) ih).mono (Nat.le_succ n)).map (fun l=>l) (fun l=>?_) (fun l h=>⟨h.1,by have:=h.2;unfold reachBytes at this;exact Nat.le_trans this (by decide)⟩)
 show [AV.sl 8 (encRl l) none]=_
 rw [encRl_ag]
theorem op_gd{n:Nat}(ih:Opn enc Tryz.prog W base sp hd n 31 cellsRl OkR):Opn enc Tryz.prog W base sp hd n 109 cellsGl OkG:=by
 have hf:=OpnF.cons (f:=⟨"Kind",101,0,false, "", "",0⟩) (Opn.u8 (enc:=enc) (P:=Tryz.prog) (W:=W) (base:=base) (sp:=sp) (hd:=hd) (by kernel_rfl) n) rfl 1 (by kernel_rfl) (OpnF.cons (f:=⟨"Cond",105,1,false, "", "",8⟩) (op_ke n) rfl 6 (by kernel_rfl)
  (OpnF.cons (f:=⟨"C",3,7,false, "", "",48⟩) (Opn.i64 (by kernel_rfl) n) rfl 1 (by kernel_rfl) (OpnF.cons (f:=⟨"Item",25,8,false, "", "",56⟩) (Opn.u8 (by kernel_rfl) n) rfl 1 (by kernel_rfl)
  (OpnF.cons (f:=⟨"To",107,9,false, "", "",64⟩) (op_pl n) rfl 2 (by kernel_rfl) (OpnF.cons (f:=⟨"Time",105,11,false, "", "",96⟩) (op_ke n) rfl 6 (by kernel_rfl)
  (OpnF.cons (f:=⟨"Body",29,17,false, "", "",136⟩) (op_prs ih) rfl 1 (by kernel_rfl) OpnF.nil))))))
 refine ((Opn.struct (t:=109) (sz:=18) (fs:= #[⟨"Kind",101,0,false, "", "",0⟩,⟨"Cond",105,1,false, "", "",8⟩,⟨"C",3,7,false, "", "",48⟩,⟨"Item",25,8,false, "", "",56⟩,⟨"To",107,9,false, "", "",64⟩,⟨"Time",105,11,false, "", "",96⟩,⟨"Body",29,17,false, "", "",136⟩]) (by kernel_rfl) (by kernel_rfl) hf (by kernel_rfl)).mono (Nat.le_succ n)).map (fun p=>⟨p.1,p.2.1,p.2.2.1,p.2.2.2.1,p.2.2.2.2.1,p.2.2.2.2.2.1,p.2.2.2.2.2.2.1⟩) (fun p=>rfl) (fun p hp=>?_)
 obtain ⟨h1,h2,h3,h4,h5,h6,⟨h7,h8⟩,_⟩:=hp
 have h9:=okRl_of h7
 refine ⟨?_,?_⟩
 ·rw [wfG];exact ⟨⟨h2.1,h6.1,h5.1⟩,h9.1⟩
 ·rw [smG];exact ⟨⟨h2.2,h6.2,h5.2,h8⟩,h9.2⟩
theorem op_gds{n:Nat}(ih:Opn enc Tryz.prog W base sp hd n 31 cellsRl OkR):Opn enc Tryz.prog W base sp hd n 28 (fun l:List GD=>[gsA l]) (fun l=>(∀t,t∈l->OkG t)/\l.length*160<=140737488355328):=by
 refine ((Opn.sliceA (t:=28) (sz:=18) (bt:=160) (by kernel_rfl) (by kernel_rfl) (by kernel_rfl) (by decide) (op_gd ih)).mono (Nat.le_succ n)).map (fun l=>l) (fun l=>?_) (fun l h=>⟨h.1,by have:=h.2;unfold reachBytes at this;exact Nat.le_trans this (by decide)⟩)
 show [AV.sl 18 (encGl l) none]=_
 rw [encGl_ag]
theorem op_pr: ∀n,Opn enc Tryz.prog W base sp hd n 31 cellsRl OkR
 |0=>Opn.zero
 |n+1=>by
  have ih:=op_pr n
  have hf:=OpnF.cons (f:=⟨"Kind",24,0,false, "", "",0⟩) (Opn.u8 (enc:=enc) (P:=Tryz.prog) (W:=W) (base:=base) (sp:=sp) (hd:=hd) (by kernel_rfl) n) rfl 1 (by kernel_rfl) (OpnF.cons (f:=⟨"C",3,1,false, "", "",8⟩) (Opn.i64 (by kernel_rfl) n) rfl 1 (by kernel_rfl)
   (OpnF.cons (f:=⟨"V",3,2,false, "", "",16⟩) (Opn.i64 (by kernel_rfl) n) rfl 1 (by kernel_rfl) (OpnF.cons (f:=⟨"Item",25,3,false, "", "",24⟩) (Opn.u8 (by kernel_rfl) n) rfl 1 (by kernel_rfl)
   (OpnF.cons (f:=⟨"To",26,4,false, "", "",32⟩) (op_pls n) rfl 1 (by kernel_rfl) (OpnF.cons (f:=⟨"E",27,5,false, "", "",56⟩) (op_kes n) rfl 1 (by kernel_rfl)
   (OpnF.cons (f:=⟨"Guards",28,6,false, "", "",80⟩) (op_gds ih) rfl 1 (by kernel_rfl) (OpnF.cons (f:=⟨"L",29,7,false, "", "",104⟩) (op_prs ih) rfl 1 (by kernel_rfl) OpnF.nil)))))))
  refine (Opn.struct (t:=31) (sz:=8) (fs:= #[⟨"Kind",24,0,false, "", "",0⟩,⟨"C",3,1,false, "", "",8⟩,⟨"V",3,2,false, "", "",16⟩,⟨"Item",25,3,false, "", "",24⟩,⟨"To",26,4,false, "", "",32⟩,⟨"E",27,5,false, "", "",56⟩,⟨"Guards",28,6,false, "", "",80⟩,⟨"L",29,7,false, "", "",104⟩]) (by kernel_rfl) (by kernel_rfl) hf (by kernel_rfl)).map (fun p=>⟨p.1,p.2.1,p.2.2.1,p.2.2.2.1,p.2.2.2.2.1,p.2.2.2.2.2.1,p.2.2.2.2.2.2.1,p.2.2.2.2.2.2.2.1⟩) (fun p=>rfl) (fun p hp=>?_)
  obtain ⟨h1,h2,h3,h4,⟨h5,h5'⟩,⟨h6,h6'⟩,⟨h7,h7'⟩,⟨h8,h8'⟩,_⟩:=hp
  have h9:=okRl_of h8
  have h10:=okGl_of h7
  refine ⟨?_,?_⟩
  ·rw [wfR];exact ⟨⟨fun t ht=>(h5 t ht).1,(okEl_of h6).1,by omega,by omega,by omega⟩,h10.1,h9.1⟩
  ·rw [smR];exact ⟨⟨fun t ht=>(h5 t ht).2,fun x hx=>(h6 x hx).2,h5',h6',h7',h8'⟩,h10.2,h9.2⟩
theorem op_vars(n:Nat):Opn enc Tryz.prog W base sp hd n 22 (fun l:List KV=>[varsA l]) (fun l=>l.length<=281474976710656):=by
 have hf:=OpnF.cons (f:=⟨"Kind",25,0,false, "", "",0⟩) (Opn.u8 (enc:=enc) (P:=Tryz.prog) (W:=W) (base:=base) (sp:=sp) (hd:=hd) (by kernel_rfl) n) rfl 1 (by kernel_rfl) (OpnF.cons (f:=⟨"Dim",3,1,false, "", "",8⟩) (Opn.i64 (by kernel_rfl) n) rfl 1 (by kernel_rfl) OpnF.nil)
 have hv:Opn enc Tryz.prog W base sp hd n 118 (fun v:KV=>[AU8 v.kind,AI v.dim]) (fun _=>True):=((Opn.struct (t:=118) (sz:=2) (fs:= #[⟨"Kind",25,0,false, "", "",0⟩,⟨"Dim",3,1,false, "", "",8⟩]) (by kernel_rfl) (by kernel_rfl) hf (by kernel_rfl)).mono (Nat.le_succ n)).map (fun p=>⟨p.1,p.2.1⟩) (fun p=>rfl) (fun p hp=>trivial)
 exact ((Opn.sliceA (t:=22) (sz:=2) (bt:=16) (by kernel_rfl) (by kernel_rfl) (by kernel_rfl) (by decide) hv).mono (Nat.le_succ n)).map (fun l=>l) (fun l=>rfl) (fun l h=>by have:=h.2;unfold reachBytes at this;omega)
theorem op_chans(n:Nat):Opn enc Tryz.prog W base sp hd n 23 (fun l:List Int=>[chsA l]) (fun l=>l.length<=281474976710656):=
 ((Opn.slice1 (t:=23) (e:=119) (bt:=1) (by kernel_rfl) (by kernel_rfl) (by kernel_rfl) (Opn.u8 (by kernel_rfl) n)).mono (Nat.le_succ n)).map (fun l=>l) (fun l=>rfl) (fun l h=>by have:=h.2;unfold reachBytes at this;omega)
theorem op_ints(n:Nat):Opn enc Tryz.prog W base sp hd n 32 (fun l:List Int=>[intsA l]) (fun l=>l.length<=281474976710656):=
 ((Opn.slice1 (t:=32) (e:=3) (bt:=8) (by kernel_rfl) (by kernel_rfl) (by kernel_rfl) (Opn.i64 (by kernel_rfl) n)).mono (Nat.le_succ n)).map (fun l=>l) (fun l=>rfl) (fun l h=>by have:=h.2;unfold reachBytes at this;omega)
abbrev cellsN(k:KN):List AV:=[varsA k.vars,chsA k.chans,AU8 k.root.kind,AI k.root.c,AI k.root.v,AU8 k.root.item,plsA k.root.to,kesA k.root.e,gsA k.root.gs,rsA k.root.l,intsA k.procs]
theorem op_kernel(n:Nat):Opn enc Tryz.prog W base sp hd n 34 cellsN SmN:=by
 have hf:=OpnF.cons (f:=⟨"Vars",22,0,false, "", "",0⟩) (op_vars (enc:=enc) (W:=W) (base:=base) (sp:=sp) (hd:=hd) n) rfl 1 (by kernel_rfl) (OpnF.cons (f:=⟨"Chans",23,1,false, "", "",24⟩) (op_chans n) rfl 1 (by kernel_rfl)
  (OpnF.cons (f:=⟨"Root",31,2,false, "", "",48⟩) (op_pr n) rfl 8 (by kernel_rfl) (OpnF.cons (f:=⟨"Procs",32,10,false, "", "",176⟩) (op_ints n) rfl 1 (by kernel_rfl) OpnF.nil)))
 refine ((Opn.struct (t:=34) (sz:=11) (fs:= #[⟨"Vars",22,0,false, "", "",0⟩,⟨"Chans",23,1,false, "", "",24⟩,⟨"Root",31,2,false, "", "",48⟩,⟨"Procs",32,10,false, "", "",176⟩]) (by kernel_rfl) (by kernel_rfl) hf (by kernel_rfl)).mono (Nat.le_succ n)).map (fun p=>⟨p.1,p.2.1,p.2.2.1,p.2.2.2.1⟩) (fun p=>rfl) (fun p hp=>?_)
 obtain ⟨h1,h2,h3,h4,_⟩:=hp
 exact ⟨⟨h1,h2,h4,h3.1⟩,h3.2⟩
theorem argKern{v:Value}{d:DataW H}{p:List MemPlace}(hval:Value.okWide Tryz.prog W .any base 34 v)(h:DataW.Trod enc Tryz.prog W 0 (fun _=>true) true 34 v d p)(hw:Wt Tryz.prog 34 d):
 ∃k:KN,SmN k/\Rp (hOf W) (encN k) v:=by
 obtain ⟨k,h1,h2⟩:=arg_struct (fs:= #[⟨"Vars",22,0,false, "", "",0⟩,⟨"Chans",23,1,false, "", "",24⟩,⟨"Root",31,2,false, "", "",48⟩,⟨"Procs",32,10,false, "", "",176⟩]) (by kernel_rfl) op_kernel hval h hw
 exact ⟨k,h1,h2⟩
end
section
variable{H:Type}{enc:TypeId×Value->H}{W:World}{base:Nat}{sp:Nat->Bool}{hd:Bool}
theorem op_evs(n:Nat):Opn enc Tryz.prog W base sp hd (n+1) 35 (fun l:TR=>[trA l]) (fun l=>TrI l/\l.length<=281474976710656):=by
 have hf:=OpnF.cons (f:=⟨"C",3,0,false, "", "",0⟩) (Opn.i64 (enc:=enc) (P:=Tryz.prog) (W:=W) (base:=base) (sp:=sp) (hd:=hd) (by kernel_rfl) n) rfl 1 (by kernel_rfl) (OpnF.cons (f:=⟨"V",21,1,false, "", "",8⟩) (Opn.i32 (by kernel_rfl) n) rfl 1 (by kernel_rfl) OpnF.nil)
 have hv:Opn enc Tryz.prog W base sp hd n 83 (fun v:EL=>[AI v.1,AI32 v.2]) (fun v=>i32 v.2):=((Opn.struct (t:=83) (sz:=2) (fs:= #[⟨"C",3,0,false, "", "",0⟩,⟨"V",21,1,false, "", "",8⟩]) (by kernel_rfl) (by kernel_rfl) hf (by kernel_rfl)).mono (Nat.le_succ n)).map (fun p=>⟨p.1,p.2.1⟩) (fun p=>rfl) (fun p hp=>hp.2.1)
 exact (Opn.sliceA (t:=35) (sz:=2) (bt:=16) (by kernel_rfl) (by kernel_rfl) (by kernel_rfl) (by decide) hv).map (fun l=>l) (fun l=>rfl) (fun l h=>⟨h.1,by have:=h.2;unfold reachBytes at this;omega⟩)
theorem argTr{v:Value}{d:DataW H}{p:List MemPlace}(hval:Value.okWide Tryz.prog W .any base 35 v)(h:DataW.Trod enc Tryz.prog W 0 (fun _=>true) true 35 v d p)(hw:Wt Tryz.prog 35 d):
 ∃l:TR,(TrI l/\l.length<=281474976710656)/\Rp (hOf W) (trA l) v:=by
 obtain ⟨l,h1,h3⟩:=arg_slice (e:=83) (t:=35) (en:=fun l:TR=>trA l) (by kernel_rfl) (fun n=>(op_evs n).mono (Nat.le_succ n)) hval h hw
 exact ⟨l,h1,h3⟩
theorem argI{v:Value}{d:DataW H}{p:List MemPlace}(hval:Value.okWide Tryz.prog W .any base 3 v)(h:DataW.Trod enc Tryz.prog W 0 (fun _=>true) true 3 v d p)(hw:Wt Tryz.prog 3 d): ∃n,i64 n/\Rp (hOf W) (AI n) v:=
 arg_int (by kernel_rfl) (fun n=>Opn.i64 (by kernel_rfl) n) hval h hw
end
theorem big_k2:mapsRowed Tryz.pinned.checked.prog=true:=by kernel_rfl
theorem big_k24:Tryz.pinned.checked.prog.stopsHeard=true:=by kernel_rfl
theorem big_k25:Tryz.pinned.checked.prog.mayEnter=true:=by kernel_rfl
theorem big_k26:Tryz.pinned.checked.prog.liftsFinal=Rows.traceEndsRow.lifted:=by kernel_rfl
theorem big_k27:Tryz.pinned.checked.prog.make=some Rows.traceEndsRow.make:=by kernel_rfl
theorem big_k22:Tryz.pinned.checked.prog.plainKeys=Rows.traceEndsRow.plainKeys:=by kernel_rfl
end Go.Proofs.YtkbolbpojpmicaaGreat
