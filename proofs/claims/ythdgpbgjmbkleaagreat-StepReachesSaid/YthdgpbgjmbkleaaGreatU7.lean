/-
  Texts T18a T18b T18c T18d T18e T18g T18o. Conditions: as each theorem says.
-/
import Derived.Test.YthdgpbgjmbkleaaGreatU3
import Derived.Test.YthdgpbgjmbkleaaGreatU6
set_option linter.unusedVariables false
set_option linter.unusedSimpArgs false
set_option maxRecDepth 100000
set_option maxHeartbeats 4000000
namespace Go.Proofs.YthdgpbgjmbkleaaGreat
open Go Go.Tp
abbrev wordsB(a b:List Int):Bool:=alikeB (· == ·) a b
theorem lwords_p(a b:List Int)(hb:a.length≤281474976710656):Pure Tryz.prog gs0 26 [rowA a,rowA b] (AB (wordsB a b)):=by
 by_cases hlen:a.length=b.length
 case neg=>
  refine p_ tt_ok Tryz.func26 26 fun w0 h0 F hgs=>?_
  refine y_ ?_
  refine e_ 10 rfl (x':=AB true) (ab_eq (by simp;omega)) ?_;refine R_ ?_;refine Sb.eq (ab_eq ?_);simp [alikeB,hlen]
 refine p_ tt_ok Tryz.func26 26 fun w0 h0 F hgs=>?_
 refine y_ ?_
 refine e_ 10 rfl (x':=AB false) (ab_eq (by simp;omega)) ?_
 refine A.keep [0,1,5] rfl ?_
 refine A.loopP (ι:=Nat) (fun i=>(⟨[(0,rowA a),(1,rowA b),(5,AI (i:Int))],[]⟩,[])) (fun i=>i≤a.length∧allEq (· == ·) a b i=true) (fun i=>a.length-i) 0 ⟨by omega,rfl⟩ rfl fun i hi ih=>?_
 refine y_ ?_
 refine k_ (fun hc=>?_) fun hc=>?_
 ·simp at hc
  refine Exists.elim (at_exN (l:=a) (i:=i) (by omega)) fun u hu=>Exists.elim (at_exN (l:=b) (i:=i) (by omega)) fun w hw=>?_
  have h3:=allEq_succ (· == ·) hu hw
  refine y_ ?_
  refine d_ 9 [0,1,2,3,4,5,6,7,8] [] ?_;refine iw_ rfl (map_at hu) rfl ?_;refine iw_ rfl (map_at hw) rfl ?_;refine WA.nil (l:=[]) rfl ?_
  refine A.entsEq (Λ':=[]) rfl ?_
  refine y_ ?_
  refine k_ (fun he=>?_) fun he=>?_
  ·simp at he
   refine y_ ?_;refine R_ ?_;refine Sb.eq (ab_eq ?_)
   have h4:=allEq_le (f:=(· == ·)) (a:=a) (b:=b) (j:=i+1) (by rw [h3];simp [he]) a.length (by omega)
   simp [alikeB,h4]
  ·simp at he
   refine y_ ?_
   refine A.valE 5 rfl (x':=AI ((i+1:Nat):Int)) (inc_eq i (by omega)) ?_
   refine u_ (ih (i+1) ⟨by omega,by rw [h3];simp [hi.2,he]⟩ (by omega))
 ·simp at hc
  have:i=a.length:=by omega
  subst this
  refine y_ ?_;refine R_ ?_;refine Sb.eq (ab_eq ?_);show true=alikeB (· == ·) a b;unfold alikeB;rw [hi.2,decide_eq_true hlen];rfl
theorem rwords_p(a b:List Int)(hb:a.length≤281474976710656):Pure Tryz.prog gs0 14 [rowA a,rowA b] (AB (wordsB a b)):=by
 by_cases hlen:a.length=b.length
 case neg=>
  refine p_ tt_ok Tryz.func14 26 fun w0 h0 F hgs=>?_
  refine y_ ?_
  refine e_ 10 rfl (x':=AB true) (ab_eq (by simp;omega)) ?_;refine R_ ?_;refine Sb.eq (ab_eq ?_);simp [alikeB,hlen]
 refine p_ tt_ok Tryz.func14 26 fun w0 h0 F hgs=>?_
 refine y_ ?_
 refine e_ 10 rfl (x':=AB false) (ab_eq (by simp;omega)) ?_
 refine A.keep [0,1,5] rfl ?_
 refine A.loopP (ι:=Nat) (fun i=>(⟨[(0,rowA a),(1,rowA b),(5,AI (i:Int))],[]⟩,[])) (fun i=>i≤a.length∧allEq (· == ·) a b i=true) (fun i=>a.length-i) 0 ⟨by omega,rfl⟩ rfl fun i hi ih=>?_
 refine y_ ?_
 refine k_ (fun hc=>?_) fun hc=>?_
 ·simp at hc
  refine Exists.elim (at_exN (l:=a) (i:=i) (by omega)) fun u hu=>Exists.elim (at_exN (l:=b) (i:=i) (by omega)) fun w hw=>?_
  have h3:=allEq_succ (· == ·) hu hw
  refine y_ ?_
  refine d_ 9 [0,1,2,3,4,5,6,7,8] [] ?_;refine iw_ rfl (map_at hu) rfl ?_;refine iw_ rfl (map_at hw) rfl ?_;refine WA.nil (l:=[]) rfl ?_
  refine A.entsEq (Λ':=[]) rfl ?_
  refine y_ ?_
  refine k_ (fun he=>?_) fun he=>?_
  ·simp at he
   refine y_ ?_;refine R_ ?_;refine Sb.eq (ab_eq ?_)
   have h4:=allEq_le (f:=(· == ·)) (a:=a) (b:=b) (j:=i+1) (by rw [h3];simp [he]) a.length (by omega)
   simp [alikeB,h4]
  ·simp at he
   refine y_ ?_
   refine A.valE 5 rfl (x':=AI ((i+1:Nat):Int)) (inc_eq i (by omega)) ?_
   refine u_ (ih (i+1) ⟨by omega,by rw [h3];simp [hi.2,he]⟩ (by omega))
 ·simp at hc
  have:i=a.length:=by omega
  subst this
  refine y_ ?_;refine R_ ?_;refine Sb.eq (ab_eq ?_);show true=alikeB (· == ·) a b;unfold alikeB;rw [hi.2,decide_eq_true hlen];rfl
theorem ewords_p(a b:List Int)(hb:a.length≤281474976710656):Pure Tryz.prog gs0 39 [rowA a,rowA b] (AB (wordsB a b)):=by
 by_cases hlen:a.length=b.length
 case neg=>
  refine p_ tt_ok Tryz.func39 26 fun w0 h0 F hgs=>?_
  refine y_ ?_
  refine e_ 10 rfl (x':=AB true) (ab_eq (by simp;omega)) ?_;refine R_ ?_;refine Sb.eq (ab_eq ?_);simp [alikeB,hlen]
 refine p_ tt_ok Tryz.func39 26 fun w0 h0 F hgs=>?_
 refine y_ ?_
 refine e_ 10 rfl (x':=AB false) (ab_eq (by simp;omega)) ?_
 refine A.valE 12 rfl (x':=AI (a.length:Nat)) (ai_eq (by simp)) ?_
 refine A.keep [0,1,12,13] rfl ?_
 refine A.loopP (ι:=Nat) (fun i=>(⟨[(0,rowA a),(1,rowA b),(12,AI (a.length:Nat)),(13,AI (i:Int))],[]⟩,[])) (fun i=>i≤a.length∧allEq (· == ·) a b i=true) (fun i=>a.length-i) 0 ⟨by omega,rfl⟩ rfl fun i hi ih=>?_
 refine y_ ?_
 refine k_ (fun hc=>?_) fun hc=>?_
 ·simp at hc
  refine Exists.elim (at_exN (l:=a) (i:=i) (by omega)) fun u hu=>Exists.elim (at_exN (l:=b) (i:=i) (by omega)) fun w hw=>?_
  have h3:=allEq_succ (· == ·) hu hw
  refine y_ ?_
  refine d_ 9 [0,1,2,3,4,5,6,7,8] [] ?_;refine iw_ rfl (map_at hu) rfl ?_;refine iw_ rfl (map_at hw) rfl ?_;refine WA.nil (l:=[]) rfl ?_
  refine A.entsEq (Λ':=[]) rfl ?_
  refine y_ ?_
  refine k_ (fun he=>?_) fun he=>?_
  ·simp at he
   refine y_ ?_;refine R_ ?_;refine Sb.eq (ab_eq ?_)
   have h4:=allEq_le (f:=(· == ·)) (a:=a) (b:=b) (j:=i+1) (by rw [h3];simp [he]) a.length (by omega)
   simp [alikeB,h4]
  ·simp at he
   refine y_ ?_
   refine A.valE 13 rfl (x':=AI ((i+1:Nat):Int)) (inc_eq i (by omega)) ?_
   refine u_ (ih (i+1) ⟨by omega,by rw [h3];simp [hi.2,he]⟩ (by omega))
 ·simp at hc
  have:i=a.length:=by omega
  subst this
  refine y_ ?_;refine R_ ?_;refine Sb.eq (ab_eq ?_);show true=alikeB (· == ·) a b;unfold alikeB;rw [hi.2,decide_eq_true hlen];rfl
def sameStB(a b:ST):Bool:=(a.time==b.time)&&(wordsB a.inn b.inn&&(sameB a.store b.store&&eqR a.root b.root))
structure SmS(a:ST):Prop where
 inn:a.inn.length≤281474976710656
 store:short a.store
 root:smR a.root
theorem ssame_p(a b:ST)(h:SmS a):Pure Tryz.prog gs0 15 [encST a,encST b] (AB (sameStB a b)):=by
 have h1:=ewords_p a.inn b.inn h.inn
 have h2:=Same_p a.store b.store h.store
 have h3:=psame_p a.root b.root h.root
 unfold sameStB
 generalize hq0:(a.time==b.time)=q0
 generalize wordsB a.inn b.inn=q1 at h1⊢
 generalize sameB a.store b.store=q2 at h2⊢
 generalize eqR a.root b.root=q3 at h3⊢
 cases q0 with
 |false=>refine p_ tt_ok Tryz.func15 31 fun w0 h0 F hgs=>?_;(refine b_ fun bx=>?_;refine b_ fun bx=>?_;refine y_ ?_);refine F_ rfl hq0 ?_;exact r_
 |true=>
  cases q1 with
  |false=>refine p_ tt_ok Tryz.func15 31 fun w0 h0 F hgs=>?_;(refine b_ fun bx=>?_;refine b_ fun bx=>?_;refine y_ ?_);refine T_ rfl hq0 ?_;exact cr_ h1
  |true=>
   cases q2 with
   |false=>refine p_ tt_ok Tryz.func15 31 fun w0 h0 F hgs=>?_;(refine b_ fun bx=>?_;refine b_ fun bx=>?_;refine y_ ?_);refine T_ rfl hq0 ?_;refine c_ h1 ?_;exact cr_ h2
   |true=>refine p_ tt_ok Tryz.func15 31 fun w0 h0 F hgs=>?_;(refine b_ fun bx=>?_;refine b_ fun bx=>?_;refine y_ ?_);refine T_ rfl hq0 ?_;refine c_ h1 ?_;refine c_ h2 ?_;exact cr_ h3
theorem rsame_p(a b:ST)(h:SmS a):Pure Tryz.prog gs0 13 [encST a,encST b] (AB (sameStB a b)):=by
 have h1:=rwords_p a.inn b.inn h.inn
 have h2:=rSame_p a.store b.store h.store
 have h3:=procs_p [a.root] [b.root] (by simp) (fun x hx=>by rw [List.mem_singleton] at hx;subst hx;exact h.root)
 have h4:eqRl [a.root] [b.root]=eqR a.root b.root:=by rw [eqRl,eqRl,Bool.and_true]
 rw [h4] at h3
 have e1: ∀q:PR,rsA [q]= .sl 8 [cellsR q] none:=fun q=>by show AV.sl 8 (encRl [q]) none=_;rw [encRl_cells];rfl
 rw [e1,e1] at h3
 unfold sameStB
 generalize hq0:(a.time==b.time)=q0
 generalize wordsB a.inn b.inn=q1 at h1⊢
 generalize sameB a.store b.store=q2 at h2⊢
 generalize eqR a.root b.root=q3 at h3⊢
 cases q0 with
 |false=>refine p_ tt_ok Tryz.func13 33 fun w0 h0 F hgs=>?_;(refine b_ fun bx=>?_;refine b_ fun bx=>?_;refine y_ ?_);refine F_ rfl hq0 ?_;exact r_
 |true=>
  cases q1 with
  |false=>refine p_ tt_ok Tryz.func13 33 fun w0 h0 F hgs=>?_;(refine b_ fun bx=>?_;refine b_ fun bx=>?_;refine y_ ?_);refine T_ rfl hq0 ?_;exact cr_ h1
  |true=>
   cases q2 with
   |false=>refine p_ tt_ok Tryz.func13 33 fun w0 h0 F hgs=>?_;(refine b_ fun bx=>?_;refine b_ fun bx=>?_;refine y_ ?_);refine T_ rfl hq0 ?_;refine c_ h1 ?_;exact cr_ h2
   |true=>refine p_ tt_ok Tryz.func13 33 fun w0 h0 F hgs=>?_;(refine b_ fun bx=>?_;refine b_ fun bx=>?_;refine y_ ?_);refine T_ rfl hq0 ?_;refine c_ h1 ?_;refine n_ h2 ?_;(refine t_ fun bl=>?_;refine t_ fun bl=>?_);exact cr_ h3
theorem sdone_p(a:ST)(h:smR a.root):Pure Tryz.prog gs0 16 [encST a] (AB (doneR a.root)):=by
 have h1:=done_p a.root h
 refine p_ tt_ok Tryz.func16 6 fun w0 h0 F hgs=>?_;(refine b_ fun bx=>?_;refine y_ ?_);exact cr_ h1
theorem bl_lt{p x:PR}{g:GD}(hg:g∈p.gs)(h:x∈g.body):SizeOf.sizeOf x<SizeOf.sizeOf p:=by
 have h1:=gg_lt hg
 have h2:=bd_lt h
 omega
theorem skol18{P:PR→Int→Prop}{S:PR→Prop}(h: ∀x,S x→ ∃n,P x n): ∃f:PR→Int,∀x,S x→P x (f x):=by
 classical
 exact ⟨fun x=>if hx:S x then (h x hx).choose else 0,fun x hx=>by simp only [dif_pos hx];exact (h x hx).choose_spec⟩
def addS(f:PR→Int)(n:Int)(x:PR):Int:=IntKind.i64.wrap (n+f x)
def sumS(f:PR→Int)(p:PR):Int:=p.gs.foldl (fun n g=>g.body.foldl (addS f) n) (p.l.foldl (addS f) 1)
theorem rsz_f(p:PR)(hs:smR p)(f:PR→Int)(hl: ∀x,x∈p.l→Pure Tryz.prog gs0 29 [cellsR x] (AI (f x)))(hg: ∀g,g∈p.gs→ ∀x,x∈g.body→Pure Tryz.prog gs0 29 [cellsR x] (AI (f x))):
 Pure Tryz.prog gs0 29 [cellsR p] (AI (sumS f p)):=by
 have hsa:=smR_all hs
 have hll:=hsa.ll
 have hgl:=hsa.gl
 have n1:((encRl p.l).length:Int)=p.l.length:=by rw [encRl_len]
 have n2:((encGl p.gs).length:Int)=p.gs.length:=by rw [encGl_len]
 unfold sumS
 refine p_ tt_ok Tryz.func29 53 fun w0 h0 F hgs=>?_
 (refine b_ fun bx=>?_;refine y_ ?_)
 refine A.freeze 1 (sz:=8) rfl rfl rfl ?_
 refine A.keep [1,3,4] rfl ?_
 refine A.loopP (ι:=Nat) (fun i=>(⟨[(1, .pe 8 (cellsR p)),(3,AI ((p.l.take i).foldl (addS f) 1)),(4,AI (i:Nat))],[]⟩,[])) (fun i=>i≤p.l.length) (fun i=>p.l.length-i) 0 (Nat.zero_le _) rfl fun i hi ih=>?_
 refine y_ ?_
 refine k_ (fun hc=>?_) fun hc=>?_
 ·have hc':i<p.l.length:=by have:=hc;simp only [n1,decide_eq_true_eq] at this;omega
  refine Exists.elim (at_exN (l:=p.l) (i:=i) hc') fun x hx=>?_
  have hsz:=hl x (List.mem_of_getElem? hx)
  have htk:p.l.take (i+1)=p.l.take i++[x]:=by rw [List.take_add_one,hx];rfl
  refine y_ ?_
  refine i_ rfl (encRl_at hx) (encR_eq x) ?_
  refine c_ hsz ?_
  refine A.valE 3 rfl (x':=AI ((p.l.take (i+1)).foldl (addS f) 1)) (by rw [htk,List.foldl_append];rfl) ?_
  refine A.valE 4 rfl (x':=AI ((i+1:Nat):Int)) (inc_eq i (by omega)) ?_
  refine u_ (ih (i+1) (by omega) (by omega))
 have hc': ¬i<p.l.length:=by have:=hc;simp only [n1,decide_eq_false_iff_not] at this;omega
 have hil:i=p.l.length:=by omega
 refine e_ 3 rfl (x':=AI (p.l.foldl (addS f) 1)) (by rw [hil,List.take_length]) ?_
 refine A.keep [1,3,5] rfl ?_
 refine A.loopP (ι:=Nat) (fun j=>(⟨[(1, .pe 8 (cellsR p)),(3,AI ((p.gs.take j).foldl (fun n g=>g.body.foldl (addS f) n) (p.l.foldl (addS f) 1))),(5,AI (j:Nat))],[]⟩,[])) (fun j=>j≤p.gs.length) (fun j=>p.gs.length-j) 0 (Nat.zero_le _) rfl fun j hj jh=>?_
 refine y_ ?_
 refine k_ (fun hc=>?_) fun hc=>?_
 ·have hc':j<p.gs.length:=by have:=hc;simp only [n2,decide_eq_true_eq] at this;omega
  refine Exists.elim (at_exN (l:=p.gs) (i:=j) hc') fun g hgj=>?_
  have hgm:=List.mem_of_getElem? hgj
  have htk:p.gs.take (j+1)=p.gs.take j++[g]:=by rw [List.take_add_one,hgj];rfl
  have n3:((encRl g.body).length:Int)=g.body.length:=by rw [encRl_len]
  have hbl:=(smG_all (hsa.g g hgm)).bl
  refine Exists.elim (show∃n0,n0=(p.gs.take j).foldl (fun n g=>g.body.foldl (addS f) n) (p.l.foldl (addS f) 1) from ⟨_,rfl⟩) fun n0 hn0=>?_
  refine e_ 3 rfl (x':=AI n0) (by rw [hn0]) ?_
  refine A.keep [1,3,5,6] rfl ?_
  refine A.loopP (ι:=Nat) (fun t=>(⟨[(1, .pe 8 (cellsR p)),(3,AI ((g.body.take t).foldl (addS f) n0)),(5,AI (j:Nat)),(6,AI (t:Nat))],[]⟩,[])) (fun t=>t≤g.body.length) (fun t=>g.body.length-t) 0 (Nat.zero_le _) rfl fun t ht th=>?_
  refine y_ ?_
  refine i_ rfl (encGl_at hgj) (encG_eq g) ?_
  refine k_ (fun hc=>?_) fun hc=>?_
  ·have hct:t<g.body.length:=by have:=hc;simp only [n3,decide_eq_true_eq] at this;omega
   refine Exists.elim (at_exN (l:=g.body) (i:=t) hct) fun x hx=>?_
   have hsz:=hg g hgm x (List.mem_of_getElem? hx)
   have htk2:g.body.take (t+1)=g.body.take t++[x]:=by rw [List.take_add_one,hx];rfl
   refine y_ ?_
   refine i_ rfl (encGl_at hgj) (encG_eq g) ?_
   refine i_ rfl (encRl_at hx) (encR_eq x) ?_
   refine c_ hsz ?_
   refine A.valE 3 rfl (x':=AI ((g.body.take (t+1)).foldl (addS f) n0)) (by rw [htk2,List.foldl_append];rfl) ?_
   refine A.valE 6 rfl (x':=AI ((t+1:Nat):Int)) (inc_eq t (by omega)) ?_
   refine u_ (th (t+1) (by omega) (by omega))
  have hct: ¬t<g.body.length:=by have:=hc;simp only [n3,decide_eq_false_iff_not] at this;omega
  have htl:t=g.body.length:=by omega
  refine e_ 3 rfl (x':=AI ((p.gs.take (j+1)).foldl (fun n g=>g.body.foldl (addS f) n) (p.l.foldl (addS f) 1))) (by rw [htl,List.take_length,htk,List.foldl_append,←hn0];rfl) ?_
  refine A.valE 5 rfl (x':=AI ((j+1:Nat):Int)) (inc_eq j (by omega)) ?_
  refine u_ (jh (j+1) (by omega) (by omega))
 have hc': ¬j<p.gs.length:=by have:=hc;simp only [n2,decide_eq_false_iff_not] at this;omega
 have hjl:j=p.gs.length:=by omega
 rw [hjl,List.take_length]
 exact yr_
theorem rsz_ex: ∀(m:Nat) (p:PR),SizeOf.sizeOf p≤m→smR p→ ∃n,Pure Tryz.prog gs0 29 [cellsR p] (AI n)
 |0,p,h,_=>by
  obtain ⟨k,c,v,i,to,e,gs,l⟩:=p
  simp only [PR.mk.sizeOf_spec] at h;omega
 |m+1,p,h,hw=>by
  have hwa:=smR_all hw
  obtain ⟨f,hf⟩:=skol18 (S:=fun x=>SizeOf.sizeOf x≤m∧smR x) (P:=fun x n=>Pure Tryz.prog gs0 29 [cellsR x] (AI n)) fun x hx=>rsz_ex m x hx.1 hx.2
  exact ⟨_,rsz_f p hw f (fun x hx=>hf x ⟨by have:=pr_lt hx;omega,hwa.l x hx⟩) (fun g hg x hx=>hf x ⟨by have:=bl_lt hg hx;omega,(smG_all (hwa.g g hg)).body x hx⟩)⟩
theorem fold_szL: ∀(l:List PR) (n:Int),0≤n→n+(szL l:Nat)≤4294967296→l.foldl (addS fun x=>(szR x:Nat)) n=n+(szL l:Nat)
 | [],n,_,_=>by rw [szL];simp
 |x::r,n,h0,h=>by
  rw [szL] at h⊢
  have e:addS (fun x=>(szR x:Nat)) n x=n+(szR x:Nat):=by
   show IntKind.i64.wrap (n+((szR x:Nat):Int))=_
   exact wr64 _ (by omega)
  rw [List.foldl_cons,e,fold_szL r _ (by omega) (by omega)]
  omega
theorem fold_szGs: ∀(l:List GD) (n:Int),0≤n→n+(szGs l:Nat)≤4294967296→l.foldl (fun n g=>g.body.foldl (addS fun x=>(szR x:Nat)) n) n=n+(szGs l:Nat)
 | [],n,_,_=>by rw [szGs];simp
 |g::r,n,h0,h=>by
  rw [szGs,szG_eq] at h⊢
  rw [List.foldl_cons,fold_szL g.body n h0 (by omega),fold_szGs r _ (by omega) (by omega)]
  omega
theorem rsz_n: ∀(m:Nat) (p:PR),SizeOf.sizeOf p≤m→smR p→szR p≤1000000→Pure Tryz.prog gs0 29 [cellsR p] (AI (szR p:Nat))
 |0,p,h,_,_=>by
  obtain ⟨k,c,v,i,to,e,gs,l⟩:=p
  simp only [PR.mk.sizeOf_spec] at h;omega
 |m+1,p,h,hw,hz=>by
  have hwa:=smR_all hw
  have e:=szR_eq p
  have h1:=rsz_f p hw (fun x=>(szR x:Nat)) (fun x hx=>rsz_n m x (by have:=pr_lt hx;omega) (hwa.l x hx) (by have:=szL_le hx;omega))
   (fun g hg x hx=>rsz_n m x (by have:=bl_lt hg hx;omega) ((smG_all (hwa.g g hg)).body x hx) (by have:=szGs_le hg;have:=szL_le hx;rw [szG_eq] at*;omega))
  have e2:sumS (fun x=>(szR x:Nat)) p=(szR p:Nat):=by
   unfold sumS
   rw [fold_szL p.l 1 (by omega) (by omega),fold_szGs p.gs _ (by omega) (by omega)]
   omega
  rw [e2] at h1;exact h1
theorem rsz_p{p:PR}(hw:smR p)(hz:szR p≤1000000):Pure Tryz.prog gs0 29 [cellsR p] (AI (szR p:Nat)):=rsz_n _ p (Nat.le_refl _) hw hz
theorem rsz_if{p:PR}(hw:smR p): ∃n,Pure Tryz.prog gs0 29 [cellsR p] (AI n)∧(szR p≤1000000→n=(szR p:Nat)):=by
 by_cases hz:szR p≤1000000
 ·exact ⟨_,rsz_p hw hz,fun _=>rfl⟩
 ·obtain ⟨n,hn⟩:=rsz_ex _ p (Nat.le_refl _) hw
  exact ⟨n,hn,fun h=>absurd h hz⟩
structure SmN(k:KN):Prop where
 wf:WfN k
 root:smR k.root
structure Fit(k:KN)(s:ST):Prop where
 vars:k.vars.length≤60
 chans:k.chans.length≤70
 procs:k.procs.length≤20
 store:s.store.length≤60
 inn:s.inn.length≤60
 rows: ∀r,r∈s.store→r.length≤70
 size:szR k.root≤1000000→szR k.root≤100
 sizeS:szR s.root≤1000000→szR s.root≤250
theorem large_p(k:KN)(s:ST)(hk:SmN k)(hs:SmS s): ∃b,Pure Tryz.prog gs0 9 [encN k,encST s] (AB b)∧(b=false→Fit k s):=by
 have n1:((k.vars.map encV).length:Int)=k.vars.length:=by rw [List.length_map]
 have n2:((k.chans.map AU8).length:Int)=k.chans.length:=by rw [List.length_map]
 have n3:((k.procs.map AI).length:Int)=k.procs.length:=by rw [List.length_map]
 have n4:((s.store.map rowA).length:Int)=s.store.length:=by rw [List.length_map]
 have n5:((s.inn.map AI32).length:Int)=s.inn.length:=by rw [List.length_map]
 obtain ⟨z1,hz1,he1⟩:=rsz_if hk.root
 obtain ⟨z2,hz2,he2⟩:=rsz_if hs.root
 have hst:=hs.store
 by_cases c1:60<k.vars.length
 ·refine ⟨true,?_,fun h=>by cases h⟩
  refine p_ tt_ok Tryz.func9 58 fun w0 h0 F hgs=>?_;(refine b_ fun bx=>?_;refine b_ fun bx=>?_;refine y_ ?_);refine T_ rfl (by rw [n1];show decide _=true;rw [decide_eq_true_eq];omega) ?_;exact r_
 by_cases c2:70<k.chans.length
 ·refine ⟨true,?_,fun h=>by cases h⟩
  refine p_ tt_ok Tryz.func9 58 fun w0 h0 F hgs=>?_;(refine b_ fun bx=>?_;refine b_ fun bx=>?_;refine y_ ?_);refine F_ rfl (by rw [n1];show decide _=false;rw [decide_eq_false_iff_not];omega) ?_;refine T_ rfl (by rw [n2];show decide _=true;rw [decide_eq_true_eq];omega) ?_;exact r_
 by_cases c3:20<k.procs.length
 ·refine ⟨true,?_,fun h=>by cases h⟩
  refine p_ tt_ok Tryz.func9 58 fun w0 h0 F hgs=>?_;(refine b_ fun bx=>?_;refine b_ fun bx=>?_;refine y_ ?_);refine F_ rfl (by rw [n1];show decide _=false;rw [decide_eq_false_iff_not];omega) ?_;refine F_ rfl (by rw [n2];show decide _=false;rw [decide_eq_false_iff_not];omega) ?_;refine T_ rfl (by rw [n3];show decide _=true;rw [decide_eq_true_eq];omega) ?_;exact r_
 by_cases c4:60<s.store.length
 ·refine ⟨true,?_,fun h=>by cases h⟩
  refine p_ tt_ok Tryz.func9 58 fun w0 h0 F hgs=>?_;(refine b_ fun bx=>?_;refine b_ fun bx=>?_;refine y_ ?_);refine F_ rfl (by rw [n1];show decide _=false;rw [decide_eq_false_iff_not];omega) ?_;refine F_ rfl (by rw [n2];show decide _=false;rw [decide_eq_false_iff_not];omega) ?_;refine F_ rfl (by rw [n3];show decide _=false;rw [decide_eq_false_iff_not];omega) ?_;refine T_ rfl (by rw [n4];show decide _=true;rw [decide_eq_true_eq];omega) ?_;exact r_
 by_cases c5:60<s.inn.length
 ·refine ⟨true,?_,fun h=>by cases h⟩
  refine p_ tt_ok Tryz.func9 58 fun w0 h0 F hgs=>?_;(refine b_ fun bx=>?_;refine b_ fun bx=>?_;refine y_ ?_);refine F_ rfl (by rw [n1];show decide _=false;rw [decide_eq_false_iff_not];omega) ?_;refine F_ rfl (by rw [n2];show decide _=false;rw [decide_eq_false_iff_not];omega) ?_;refine F_ rfl (by rw [n3];show decide _=false;rw [decide_eq_false_iff_not];omega) ?_;refine F_ rfl (by rw [n4];show decide _=false;rw [decide_eq_false_iff_not];omega) ?_;refine T_ rfl (by rw [n5];show decide _=true;rw [decide_eq_true_eq];omega) ?_;exact r_
 refine ⟨(s.store.any fun r=>decide (70<r.length))||(decide (100<z1)||decide (250<z2)),?_,fun h=>?_⟩
 ·generalize hq2:decide (100<z1)=q2
  generalize hq3:decide (250<z2)=q3
  generalize hq1:(s.store.any fun r=>decide (70<r.length))=q1
  refine p_ tt_ok Tryz.func9 58 fun w0 h0 F hgs=>?_;(refine b_ fun bx=>?_;refine b_ fun bx=>?_;refine y_ ?_);refine F_ rfl (by rw [n1];show decide _=false;rw [decide_eq_false_iff_not];omega) ?_;refine F_ rfl (by rw [n2];show decide _=false;rw [decide_eq_false_iff_not];omega) ?_;refine F_ rfl (by rw [n3];show decide _=false;rw [decide_eq_false_iff_not];omega) ?_;refine F_ rfl (by rw [n4];show decide _=false;rw [decide_eq_false_iff_not];omega) ?_;refine F_ rfl (by rw [n5];show decide _=false;rw [decide_eq_false_iff_not];omega) ?_
  refine A.keep [2,3,5] rfl ?_
  refine A.loopP (ι:=Nat) (fun i=>(⟨[(2,_),(3,_),(5,AI (i:Nat))],[]⟩,_)) (fun i=>i≤s.store.length∧ ∀j r,j<i→s.store[j]? =some r→r.length≤70) (fun i=>s.store.length-i) 0 ⟨Nat.zero_le _,fun j r h=>by omega⟩ rfl fun i hi ih=>?_
  refine y_ ?_
  refine k_ (fun hc=>?_) fun hc=>?_
  ·have hci:i<s.store.length:=by have:=hc;simp only [n4,decide_eq_true_eq] at this;omega
   clear hc
   refine Exists.elim (at_exN (l:=s.store) (i:=i) hci) fun r hr=>?_
   have nr:((r.map AI32).length:Int)=r.length:=by rw [List.length_map]
   refine y_ ?_
   refine i_ rfl (map_at hr) rfl ?_
   refine k_ (fun hc=>?_) fun hc=>?_
   ·have hcr:70<r.length:=by have:=hc;simp only [nr,decide_eq_true_eq] at this;omega
    have e:q1=true:=by
     rw [←hq1,List.any_eq_true]
     exact ⟨r,List.mem_of_getElem? hr,decide_eq_true hcr⟩
    rw [e]
    exact yr_
   have hcr: ¬70<r.length:=by have:=hc;simp only [nr,decide_eq_false_iff_not] at this;omega
   refine y_ ?_
   refine A.valE 5 rfl (x':=AI ((i+1:Nat):Int)) (inc_eq i (by omega)) ?_
   refine u_ (ih (i+1) ⟨by omega,fun j r' hj hr'=>?_⟩ (by omega))
   by_cases hji:j=i
   ·rw [hji,hr] at hr';injection hr' with hr';rw [←hr'];omega
   ·exact hi.2 j r' (by omega) hr'
  have hci: ¬i<s.store.length:=by have:=hc;simp only [n4,decide_eq_false_iff_not] at this;omega
  clear hc ih
  have e:q1=false:=by
   rw [←hq1,List.any_eq_false]
   intro r hr
   obtain ⟨j,hj,rfl⟩:=List.getElem_of_mem hr
   have:=hi.2 j _ (by omega) (List.getElem?_eq_getElem hj)
   simp;omega
  rw [e,Bool.false_or]
  refine y_ ?_
  refine n_ hz1 ?_
  cases q2 with
  |true=>
   refine y_ ?_
   refine T_ rfl hq2 ?_;exact r_
  |false=>
   refine y_ ?_
   refine F_ rfl hq2 ?_
   refine c_ hz2 ?_
   refine R_ ?_;exact Sb.eq (ab_eq hq3)
 ·simp only [Bool.or_eq_false_iff,List.any_eq_false,decide_eq_false_iff_not,decide_eq_true_eq] at h
  obtain ⟨h1,h2,h3⟩:=h
  refine ⟨by omega,by omega,by omega,by omega,by omega,fun r hr=>by have:=h1 r hr;omega,fun hz=>?_,fun hz=>?_⟩
  ·have:=he1 hz;omega
  ·have:=he2 hz;omega
def zeroS:ST:=⟨[],⟨0,0,0,0,[],[],[],[]⟩,[],0⟩
theorem start_no(k:KN)(hk:SmN k)(hm:mayK k=false)(inn:List Int):Pure Tryz.prog gs0 11 [encN k,rowA inn] (.tp [encST zeroS,AI 2]):=by
 have h1:=kmay_p k hk.wf
 rw [hm] at h1
 refine p_ tt_ok Tryz.func11 19 fun w0 h0 F hgs=>?_
 (refine b_ fun bx=>?_;refine b_ fun bx=>?_;refine y_ ?_)
 refine c_ h1 ?_
 refine m_ (ResA.cell rfl rfl rfl (ResA.tmp rfl ResA.nil)) ?_;exact s_
theorem rstart_no(k:KN)(hk:SmN k)(hm:mayK k=false)(inn:List Int):Pure Tryz.prog gs0 12 [encN k,rowA inn] (.tp [encST zeroS,AI 2]):=by
 have h1:=rmay16_p k hk.wf
 rw [hm] at h1
 refine p_ tt_ok Tryz.func12 20 fun w0 h0 F hgs=>?_
 (refine b_ fun bx=>?_;refine b_ fun bx=>?_;refine y_ ?_)
 refine c_ h1 ?_
 refine m_ (ResA.cell rfl rfl rfl (ResA.tmp rfl ResA.nil)) ?_;exact s_
theorem start_yes(k:KN)(hk:SmN k)(hm:mayK k=true)(inn:List Int)(hi:inn.length≤35184372088832):Pure Tryz.prog gs0 11 [encN k,rowA inn] (.tp [encST (startS k inn),AI 0]):=by
 have h1:=kmay_p k hk.wf
 rw [hm] at h1
 have h2:=storeS_pN k.vars k.chans k.root k.procs hk.wf.vars
 obtain ⟨w1,w2,w3⟩:=okF_sm (start_root hm hk.wf hk.root)
 have h3:=norm_p k.root w2 w3
 have h4:=copied_p (normR k.root) (norm_sm w2)
 have h5:=cloned_p inn hi
 refine p_ tt_ok Tryz.func11 19 fun w0 h0 F hgs=>?_
 (refine b_ fun bx=>?_;refine b_ fun bx=>?_;refine y_ ?_)
 refine c_ h1 ?_
 refine d_ 9 [0,2,3,6,1,4,5,7,8] [(1,rowsA (storeS k.vars)),(4,cellsR (normR k.root)),(5,cellsR (normR k.root)),(7,rowA inn)] ?_
 refine cw_ h2 ?_
 refine cw_ h3 ?_
 refine cw_ h4 ?_
 refine cw_ h5 ?_
 refine z_ ?_
 refine m_ (ResA.cell rfl rfl rfl (ResA.tmp rfl ResA.nil)) ?_;exact s_
theorem rstart_yes(k:KN)(hk:SmN k)(hm:mayK k=true)(inn:List Int)(hi:inn.length≤1000000):Pure Tryz.prog gs0 12 [encN k,rowA inn] (.tp [encST (startS k inn),AI 0]):=by
 have h1:=rmay16_p k hk.wf
 rw [hm] at h1
 have h2:=rStore_pN k.vars k.chans k.root k.procs hk.wf.vars
 obtain ⟨w1,w2,w3⟩:=okF_sm (start_root hm hk.wf hk.root)
 have h3:=ref_norm_p k.root w2 w3
 refine p_ tt_ok Tryz.func12 20 fun w0 h0 F hgs=>?_
 (refine b_ fun bx=>?_;refine b_ fun bx=>?_;refine y_ ?_)
 refine c_ h1 ?_
 refine A.nilTail 6 1 rfl ?_
 refine A.drawT 7 1 (.slice none 0 0) 9 [0,2,3,5,6,1,4,7,8] noPubs [(1,rowsA (storeS k.vars)),(4,cellsR (normR k.root))] (by decide) (by kernel_rfl) (by kernel_rfl) ?_
 refine w_ ?_
 refine cw_ h2 ?_
 refine cw_ h3 ?_
 refine WA.append rfl rfl rfl rfl rfl rfl rfl rfl rfl rfl rfl rfl rfl rfl rfl rfl rfl rfl (.sub .refl) (by show (0+(inn.map AI32).length)*1≤_;rw [List.length_map];omega) fun z'=>?_
 refine w_ ?_
 refine WA.nil (l:=[.tail 1 z']) rfl ?_
 refine y_ ?_
 refine m_ (ResA.cell rfl rfl rfl (ResA.tmp rfl ResA.nil)) ?_;exact s_
theorem clone_own(x:Int)(r:List Int)(hr:(x::r).length≤35184372088832):FunE Tryz.prog gs0 35 [rowA (x::r)] [] (fun z:Value=> .ms z 1 (x::r).length) (fun z=>[.row 1 z ((x::r).map AI32)]) (fun _=>True):=by
 unfold FunE
 refine Fun.of (S:=tt) (fn:=Tryz.f35) (n:=8) tt_ok Tryz.func35 rfl rfl rfl rfl fun w0 h0 F hgs=>?_
 refine y_ ?_
 refine A.eqNil rfl rfl rfl rfl rfl rfl rfl rfl fun b hb=>?_
 cases b
 case true=>cases hb rfl
 refine y_ ?_
 refine A.lit0 rfl rfl rfl rfl rfl rfl rfl fun bl=>?_;refine y_ ?_;refine A.appendNewW rfl rfl rfl rfl rfl rfl rfl rfl rfl rfl rfl rfl rfl (by show (List.map AI32 _).length*1≤_;rw [List.length_map];omega) (by show (List.map AI32 _).length*1*4≤_;rw [List.length_map];omega) (fun x hx=>by injection hx with hx;subst hx;rfl) (row_one _) fun z=>?_;refine y_ ?_
 refine A.valE 2 rfl (x':= .ms z 1 (x::r).length) (by show AV.ms z _ _=_;congr 1;simp) ?_
 refine A.ret1 (Λ':=[.row 1 z _]) rfl rfl rfl sl_ ⟨z, .refl,rfl,trivial⟩
abbrev stOwn(k:KN)(z:Value)(n:Nat):AV:= .ag [rowsA (storeS k.vars),AU8 (normR k.root).kind,AI (normR k.root).c,AI (normR k.root).v,AU8 (normR k.root).item,plsA (normR k.root).to,kesA (normR k.root).e,gsA (normR k.root).gs,rsA (normR k.root).l, .ms z 1 n,AI32 0]
theorem start_own(k:KN)(hk:SmN k)(hm:mayK k=true)(x:Int)(r:List Int)(hi:(x::r).length≤35184372088832):
 FunE Tryz.prog gs0 11 [encN k,rowA (x::r)] [] (fun z:Value=> .tp [stOwn k z (x::r).length,AI 0]) (fun z=>[.row 1 z ((x::r).map AI32)]) (fun _=>True):=by
 have h1:=kmay_p k hk.wf
 rw [hm] at h1
 have h2:=storeS_pN k.vars k.chans k.root k.procs hk.wf.vars
 obtain ⟨w1,w2,w3⟩:=okF_sm (start_root hm hk.wf hk.root)
 have h3:=norm_p k.root w2 w3
 have h4:=copied_p (normR k.root) (norm_sm w2)
 have h5:=clone_own x r hi
 unfold FunE
 refine Fun.of (S:=tt) (fn:=Tryz.f11) (n:=19) tt_ok Tryz.func11 rfl rfl rfl rfl fun w0 h0 F hgs=>?_
 (refine b_ fun bx=>?_;refine b_ fun bx=>?_;refine y_ ?_)
 refine c_ h1 ?_
 refine A.draw 9 [0,2,3,6,1,4,5,7,8] (fun i=>if i=7 then [7] else []) [(1,rowsA (storeS k.vars)),(4,cellsR (normR k.root)),(5,cellsR (normR k.root))] (by kernel_rfl) (by kernel_rfl) ?_
 refine w_ ?_
 refine cw_ h2 ?_
 refine cw_ h3 ?_
 refine cw_ h4 ?_
 refine WA.callG rfl rfl rfl rfl rfl rfl rfl rfl rfl h5 s_ fun z _=>?_
 refine w_ ?_
 refine WA.nil (l:=[.row 1 z _]) rfl ?_
 refine y_ ?_
 refine A.retN (Λ':=[.row 1 z _]) rfl rfl (ResA.cell rfl rfl rfl (ResA.tmp rfl ResA.nil)) sl_ ⟨z,s_,rfl,trivial⟩
theorem evSt(a b c d:Int):EqSt Tryz.prog 57 [.int .i64 a, .int .i32 b] [.int .i64 c, .int .i32 d] (a==c&&b==d) where
 guard:=by kernel_rfl
 run:=fun w=>by
  have hS:Tryz.prog.underlying 57=some (.struct (Tryz.prog.fieldsOf 57)):=by kernel_rfl
  have hF:(Tryz.prog.fieldsOf 57).toList=(#[⟨"C",3,0,false, "", "",0⟩,⟨"V",21,1,false, "", "",8⟩]:Array Field).toList:=by kernel_rfl
  have hp:Tryz.prog.stoodInHeld 57=false:=by kernel_rfl
  have u1:Tryz.prog.underlying 3=some (.int .i64):=by kernel_rfl
  have u2:Tryz.prog.underlying 21=some (.int .i32):=by kernel_rfl
  have k1:=TT.Ok.get tt_ok (show tt.get 3=some _ from rfl)
  have k2:=TT.Ok.get tt_ok (show tt.get 21=some _ from rfl)
  have p1: ∀(x y:Int),(part 3 ⟨[.int .i64 x, .int .i32 y]⟩ 0).run Tryz.prog w= .ok (.int .i64 x) w:=fun x y=>run_part k1 rfl
  have p2: ∀(x y:Int),(part 21 ⟨[.int .i64 x, .int .i32 y]⟩ 1).run Tryz.prog w= .ok (.int .i32 y) w:=fun x y=>run_part k2 rfl
  have q1:=run_equalIn_int (P:=Tryz.prog) w 9998 3 .i64 .i64 a c u1
  have q2:=run_equalIn_int (P:=Tryz.prog) w 9998 21 .i32 .i32 b d u2
  rw [show (10000:Nat)=9999+1 from rfl,run_equalIn_agg w 9999 _ _ _ hS hp,hF]
  simp only [Op.eqFields,ne_eq,Sem.run_bind,Sem.run_ite,p1,p2,q1,q2,Result.andThen_ok,Sem.run_pure]
  cases h1:(a==c)<;>cases h2:(b==d)<;>simp
abbrev knum(n:Int):KE:=⟨1,0,0,n,0,[]⟩
abbrev kvar(v:Int):KE:=⟨2,0,0,0,v,[]⟩
theorem lnum_p(n:Int):Pure Tryz.prog gs0 55 [AI32 n] (encK (knum n)):=by
 refine p_ tt_ok Tryz.func55 5 fun w0 h0 F hgs=>?_
 (refine b_ fun bx=>?_;refine y_ ?_);refine A.retC (Λ':=[]) rfl rfl rfl rfl rfl (List.nil_sublist _) ⟨?_,rfl⟩;exact s_
theorem lvar_p(n:Int):Pure Tryz.prog gs0 56 [AI n] (encK (kvar n)):=by
 refine p_ tt_ok Tryz.func56 5 fun w0 h0 F hgs=>?_
 (refine b_ fun bx=>?_;refine y_ ?_);refine A.retC (Λ':=[]) rfl rfl rfl rfl rfl (List.nil_sublist _) ⟨?_,rfl⟩;exact s_
abbrev pOut:PR:=⟨6,2,0,1,[],[knum 5],[],[]⟩
abbrev pIn:PR:=⟨5,2,0,1,[⟨0,[]⟩],[],[],[]⟩
abbrev pTell:PR:=⟨6,1,0,1,[],[kvar 0],[],[]⟩
abbrev pSeq:PR:=⟨9,0,0,0,[],[],[],[pIn,pTell]⟩
abbrev pRoot:PR:=⟨10,0,0,0,[],[],[],[pOut,pSeq]⟩
abbrev sampleK:KN:=⟨[⟨1,0⟩],[1,2,0],pRoot,[]⟩
theorem sample_p:Pure Tryz.prog gs0 30 [] (encN sampleK):=by
 have h1:=lnum_p 5
 have h2:=lvar_p 0
 refine p_ tt_ok Tryz.func30 26 fun w0 h0 F hgs=>?_
 (refine b_ fun bx=>?_;refine y_ ?_)
 refine n_ h1 ?_
 (refine t_ fun bl=>?_;refine b_ fun bx=>?_;refine t_ fun bl=>?_;refine b_ fun bx=>?_;refine y_ ?_)
 refine n_ h2 ?_
 (refine t_ fun bl=>?_;refine b_ fun bx=>?_;refine t_ fun bl=>?_;refine b_ fun bx=>?_;refine t_ fun bl=>?_;refine t_ fun bl=>?_;refine t_ fun bl=>?_;refine y_ ?_)
 refine A.retC (Λ':=[]) rfl rfl rfl rfl rfl (List.nil_sublist _) ⟨?_,rfl⟩;exact s_
theorem sample_may:mayK sampleK=true:=by kernel_rfl
theorem zero_may:mayK ⟨[],[],⟨0,0,0,0,[],[],[],[]⟩,[]⟩=false:=by kernel_rfl
theorem sample_sm:SmN sampleK where
 wf:=⟨by decide,by decide,by decide,by simp [wfR,wfRl,wfGl,wfKl,wfK,wfPl,i32,i64,Go.Tp.u8]⟩
 root:=by simp [smR,smRl,smGl,smK,smKl,smP]
theorem zero_sm:SmN ⟨[],[],⟨0,0,0,0,[],[],[],[]⟩,[]⟩ where
 wf:=⟨by decide,by decide,by decide,by simp [wfR,wfRl,wfGl,wfKl,wfK,wfPl,i32,i64,Go.Tp.u8]⟩
 root:=by simp [smR,smRl,smGl,smK,smKl,smP]
abbrev rt1:PR:=⟨10,0,0,0,[],[],[],[skipR,pTell]⟩
abbrev st0:ST:=⟨[[0]],pRoot,[],0⟩
abbrev st1:ST:=⟨[[5]],rt1,[],0⟩
abbrev st2:ST:=⟨[[5]],skipR,[],0⟩
theorem start0:startS sampleK []=st0:=by kernel_rfl
theorem mv0:movesM st0=[⟨2,2,5,st1⟩,⟨3,0,0,⟨[[0]],pRoot,[],1⟩⟩]:=by kernel_rfl
theorem mv1:movesM st1=[⟨2,1,5,st2⟩,⟨3,0,0,⟨[[5]],rt1,[],1⟩⟩]:=by kernel_rfl
theorem mv2:movesM st2=[⟨3,0,0,⟨[[5]],skipR,[],1⟩⟩]:=by kernel_rfl
theorem good0:GoodK sampleK st0:=by
 have:=start_good sample_may sample_sm.wf sample_sm.root (inn:=[]) (fun x h=>by cases h) (by decide)
 rw [start0] at this;exact this
theorem good1:GoodK sampleK st1:=(moves_good good0 ⟨2,2,5,st1⟩ (by rw [mv0];exact .head _)).1
theorem good2:GoodK sampleK st2:=(moves_good good1 ⟨2,1,5,st2⟩ (by rw [mv1];exact .head _)).1
theorem wt0:wtR st0.root≤8000:=by decide+kernel
theorem wt1:wtR st1.root≤8000:=by decide+kernel
theorem wt2:wtR st2.root≤8000:=by decide+kernel
theorem GoodK.sms{k:KN}{s:ST}(h:GoodK k s):SmS s:=⟨by have:=h.innl;omega,h.short,(okF_sm h.root).2.1⟩
theorem head_p:Pure Tryz.prog gs0 10 [] (AB true):=by
 have h1:=start_yes sampleK sample_sm sample_may [] (by decide)
 rw [start0] at h1
 have h2:=sdone_p st0 good0.sms.root
 have e2:doneR st0.root=false:=by decide+kernel
 rw [e2] at h2
 have h3:=smay_p sampleK st0 good0
 have h4:=moves_p sampleK st0 good0 wt0
 rw [mv0] at h4
 have h5:=moves_p sampleK st1 good1 wt1
 rw [mv1] at h5
 have h6:=moves_p sampleK st2 good2 wt2
 rw [mv2] at h6
 have h7:=start_no ⟨[],[],⟨0,0,0,0,[],[],[],[]⟩,[]⟩ zero_sm zero_may []
 have h8:=sdone_p st2 good2.sms.root
 have e8:doneR st2.root=true:=by decide+kernel
 rw [e8] at h8
 have h9:=ssame_p st0 st2 good0.sms
 have e9:sameStB st0 st2=false:=by decide+kernel
 rw [e9] at h9
 have h10:=ssame_p st0 st0 good0.sms
 have e10:sameStB st0 st0=true:=by decide+kernel
 rw [e10] at h10
 refine p_ tt_ok Tryz.func10 158 fun w0 h0 F hgs=>?_
 refine y_ ?_
 refine n_ sample_p ?_
 (refine b_ fun bx=>?_;refine y_ ?_)
 refine n_ h1 ?_
 (refine b_ fun bx=>?_;refine y_ ?_)
 refine c_ h2 ?_
 refine c_ h3 ?_
 refine c_ h4 ?_
 refine i_ rfl rfl rfl ?_
 refine i_ rfl rfl rfl ?_
 refine A.eqSt rfl rfl rfl rfl rfl rfl rfl rfl (evSt 2 5 2 5) ?_
 refine y_ ?_
 refine i_ rfl rfl rfl ?_
 refine i_ rfl rfl rfl ?_
 refine d_ 6 [0,1,2,3,4,5] [(5, .sl 14 (movsA [⟨2,1,5,st2⟩,⟨3,0,0,⟨[[5]],rt1,[],1⟩⟩]) none)] ?_
 refine iw_ rfl rfl rfl ?_
 refine WA.c rfl rfl h5 (.sub s_) ?_
 refine z_ ?_
 refine i_ rfl rfl rfl ?_
 refine A.eqSt rfl rfl rfl rfl rfl rfl rfl rfl (evSt 1 5 1 5) ?_
 refine y_ ?_
 refine i_ rfl rfl rfl ?_
 refine i_ rfl rfl rfl ?_
 refine i_ rfl rfl rfl ?_
 refine i_ rfl rfl rfl ?_
 refine i_ rfl rfl rfl ?_
 refine i_ rfl rfl rfl ?_
 refine d_ 6 [0,1,2,3,4,5] [(5, .sl 14 (movsA [⟨3,0,0,⟨[[5]],skipR,[],1⟩⟩]) none)] ?_
 refine iw_ rfl rfl rfl ?_
 refine WA.c rfl rfl h6 (.sub s_) ?_
 refine z_ ?_
 refine n_ h7 ?_
 (refine b_ fun bx=>?_;refine y_ ?_)
 refine d_ 35 [0,1,2,3,4,5,6,7,8,9,10,11,12,13,14,15,16,17,18,19,20,21,22,23,24,25,26,27,28,29,30,31,32,33,34] [(4,AB true),(27,AB false),(33,AB true)] ?_
 refine iw_ rfl rfl rfl ?_
 refine cw_ h8 ?_
 refine iw_ rfl rfl rfl ?_
 refine iw_ rfl rfl rfl ?_
 refine cw_ h9 ?_
 refine cw_ h10 ?_
 refine z_ ?_
 exact r_
abbrev inS(inn:List Int):ST:=⟨[],⟨0,0,0,0,[],[],[],[]⟩,inn,0⟩
theorem inS_sm{inn:List Int}(h:inn.length≤281474976710656):SmS (inS inn):=⟨h,⟨Nat.zero_le _,fun r hr=>by cases hr⟩,by simp [smR,smRl,smGl]⟩
theorem zeroS_sm:SmS zeroS:=inS_sm (inn:=[]) (Nat.zero_le _)
structure Good1(k:KN)(inn:List Int):Prop where
 may:mayK k=true
 fit:Fit k (inS inn)
theorem first_p(k:KN)(hk:SmN k)(inn:List Int)(hi:inn.length≤35184372088832): ∃b,Pure Tryz.prog gs0 18 [encN k,rowA inn] (.tp [encST (if b then startS k inn else zeroS),AB b])∧(b=true→Good1 k inn):=by
 obtain ⟨b0,hl,hf⟩:=large_p k (inS inn) hk (inS_sm (by show inn.length≤_;omega))
 cases b0 with
 |true=>
  refine ⟨false,?_,fun h=>by cases h⟩
  refine p_ tt_ok Tryz.func18 33 fun w0 h0 F hgs=>?_
  (refine b_ fun bx=>?_;refine b_ fun bx=>?_;refine y_ ?_)
  refine c_ hl ?_
  refine m_ (ResA.cell rfl rfl rfl (ResA.tmp rfl ResA.nil)) ?_;exact s_
 |false=>
  have hf:=hf rfl
  have hm:=rmay16_p k hk.wf
  cases hmk:mayK k with
  |false=>
   rw [hmk] at hm
   refine ⟨false,?_,fun h=>by cases h⟩
   refine p_ tt_ok Tryz.func18 33 fun w0 h0 F hgs=>?_
   (refine b_ fun bx=>?_;refine b_ fun bx=>?_;refine y_ ?_)
   refine c_ hl ?_
   refine c_ hm ?_
   refine m_ (ResA.cell rfl rfl rfl (ResA.tmp rfl ResA.nil)) ?_;exact s_
  |true=>
   rw [hmk] at hm
   refine ⟨true,?_,fun _=>⟨hmk,hf⟩⟩
   have hs:=start_yes k hk hmk inn hi
   have hst:=store_ok (may_sounds hmk)
   have hmb:=rMay_pN k.vars k.chans k.root k.procs (storeS k.vars) hk.wf.vars (by
    rw [storeS_eq hmk]
    have:=hst.small
    exact ⟨by have:=this.1;omega,fun r hr=>by have:=this.2 r hr;omega⟩)
   rw [show mayB k.vars (storeS k.vars)=true from by rw [storeS_eq hmk];exact hst.may] at hmb
   refine p_ tt_ok Tryz.func18 33 fun w0 h0 F hgs=>?_
   refine y_ ?_
   refine A.b rfl fun b2=>?_
   refine A.b rfl fun b4=>?_
   refine y_ ?_
   refine c_ hl ?_
   refine c_ hm ?_
   refine n_ hs ?_
   (refine b_ fun bx=>?_;refine y_ ?_)
   refine A.drawB 0 b4 (x:= .ag (List.map AV.v ty39.zero)) 10 [0,1,2,3,4,5,6,7,8,9] (fun i=>if i=9 then [0] else []) [(7,AB true)] (by decide) (by kernel_rfl) (by kernel_rfl) ?_
   refine w_ ?_
   refine cw_ hmb ?_
   refine WA.store rfl rfl rfl rfl rfl rfl rfl rfl rfl rfl ?_
   refine WA.nil (l:=[.box b4 _]) rfl ?_
   refine y_ ?_
   refine m_ (ResA.cell rfl rfl rfl (ResA.tmp rfl ResA.nil)) ?_;exact s_
theorem alike_self{α:Type}{f:α→α→Bool}(hf: ∀x,f x x=true)(l:List α):alikeB f l l=true:=by
 have h: ∀n,n≤l.length→allEq f l l n=true:=fun n=>by
  induction n with
  |zero=>intro _;rfl
  |succ n ih=>
   intro hn
   obtain ⟨x,hx⟩:=at_exN (l:=l) (i:=n) (by omega)
   rw [allEq_succ f hx hx,ih (by omega),hf];rfl
 unfold alikeB
 rw [h _ (Nat.le_refl _)];simp
theorem sameSt_refl(a:ST):sameStB a a=true:=by
 unfold sameStB
 have h1:wordsB a.inn a.inn=true:=alike_self (fun x=>by simp) _
 have h2:sameB a.store a.store=true:=alike_self (fun x=>alike_self (fun x=>by simp) _) _
 rw [h1,h2,eqR_refl];simp
theorem pick_p(ms:List MV)(n:Int)(hn:Go.Tp.u8 n)(h0:0<ms.length)(hl:ms.length≤100000000): ∃m,m∈ms∧Pure Tryz.prog gs0 21 [.sl 14 (movsA ms) none,AU8 n] (encMV m):=by
 unfold Go.Tp.u8 at hn
 obtain ⟨q,rfl⟩: ∃q:Nat,n=(q:Int):=⟨n.toNat,by omega⟩
 have hlt:q % ms.length<ms.length:=Nat.mod_lt _ h0
 obtain ⟨m,hm⟩:=at_exN (l:=ms) (i:=q % ms.length) hlt
 refine ⟨m,List.mem_of_getElem? hm,?_⟩
 have n1:((movsA ms).length:Int)=ms.length:=by rw [List.length_map]
 refine p_ tt_ok Tryz.func21 13 fun w0 h0 F hgs=>?_
 (refine b_ fun bx=>?_;refine y_ ?_)
 refine A.valE 7 rfl (x':=AI (q:Int)) (ai_eq (wr64 _ (by omega))) ?_
 refine A.valE 9 rfl (x':=AI (ms.length:Nat)) (ai_eq n1) ?_
 refine A.divrem rfl rfl rfl rfl rfl rfl rfl (by omega) ?_
 refine A.valE 10 rfl (x':=AI ((q % ms.length:Nat):Int)) (ai_eq (by
  show Int.tmod (q:Int) (ms.length:Nat)=_
  rfl)) ?_
 refine i_ rfl (map_at hm) rfl ?_
 refine A.retC (Λ':=[]) rfl rfl rfl rfl rfl (List.nil_sublist _) ⟨?_,rfl⟩;exact .refl
theorem moves_len{k:KN}{s:ST}(hg:GoodK k s)(hw:wtR s.root≤8000):(realM s).length≤64008000:=by
 have h1:=acts_len hg
 have h2:=part_len (s:=s) (by omega) (actsM s).length
 unfold partM at h2
 rw [List.take_length] at h2
 exact h2
structure Walk(k:KN)(s:ST):Prop where
 good:GoodK k s
 wt:wtR s.root≤8000
theorem Walk.step{k:KN}{s:ST}(h:Walk k s){m:MV}(hm:m∈movesM s):Walk k m.next:=by
 have:=moves_good h.good m hm
 exact ⟨this.1,Nat.le_trans this.2 h.wt⟩
theorem Good1.walk{k:KN}{inn:List Int}(h:Good1 k inn)(hk:SmN k)(hi: ∀x,x∈inn→i32 x):Walk k (startS k inn) where
 good:=start_good h.may hk.wf hk.root hi (by have:=h.fit.inn;have e:(inS inn).inn.length=inn.length:=rfl;omega)
 wt:=by
  have h1:=may_fits h.may
  obtain ⟨_,f2,_⟩:=h1
  exact start_wt h.may (h.fit.size (by omega)) inn
theorem Walk.moves{k:KN}{s:ST}(h:Walk k s):Pure Tryz.prog gs0 19 [encN k,encST s] (.sl 14 (movsA (movesM s)) none):=moves_p k s h.good h.wt
abbrev bytA(l:List Int):AV:= .sl 1 (l.map AU8) none
inductive MK(s:ST)(m:MV):Prop
 |tau (h: ∃nx,m=⟨1,0,0,nx⟩∧nx.time=s.time)
 |comm (h: ∃ec ev nx,m=⟨2,ec,ev,nx⟩∧nx.time=s.time)
theorem real_mk{s:ST}{m:MV}(h:m∈realM s):MK s m:=by
 have h1:=real_kind m h
 obtain ⟨kd,ec,ev,nx⟩:=m
 obtain ⟨h2,h3⟩:=h1
 rcases h2 with ⟨rfl,rfl,rfl⟩|rfl
 ·exact .tau ⟨nx,rfl,h3⟩
 ·exact .comm ⟨ec,ev,nx,rfl,h3⟩
theorem reaches_law(k:KN)(hk:SmN k)(inn:List Int)(hi: ∀x,x∈inn→i32 x)(hil:inn.length≤35184372088832)(pk:List Int)(hp: ∀x,x∈pk→Go.Tp.u8 x)(hpl:pk.length≤281474976710656):Pure Tryz.prog gs0 5 [encN k,rowA inn,bytA pk] (AB true):=by
 obtain ⟨b0,hf,hg⟩:=first_p k hk inn hil
 have n1:((pk.map AU8).length:Int)=pk.length:=by rw [List.length_map]
 cases b0 with
 |false=>
  refine p_ tt_ok Tryz.func5 148 fun w0 h0 F hgs=>?_
  (refine b_ fun bx=>?_;refine y_ ?_)
  refine n_ hf ?_
  ((refine b_ fun bx=>?_;refine y_ ?_);exact cr_ head_p)
 |true=>
 have hw:=(hg rfl).walk hk hi
 by_cases h40:40<pk.length
 ·refine p_ tt_ok Tryz.func5 148 fun w0 h0 F hgs=>?_
  (refine b_ fun bx=>?_;refine y_ ?_)
  refine n_ hf ?_
  (refine b_ fun bx=>?_;refine y_ ?_)
  refine A.gT rfl (by rw [n1];show (bif false then true else decide _)=true;simp;omega) ?_
  (refine y_ ?_;exact cr_ head_p)
 refine p_ tt_ok Tryz.func5 148 fun w0 h0 F hgs=>?_
 refine y_ ?_
 refine A.b rfl fun b3=>?_
 refine y_ ?_
 refine c_ hf ?_
 refine A.b rfl fun b7=>?_
 refine y_ ?_
 refine F_ rfl (by rw [n1];show (bif false then true else decide _)=false;simp;omega) ?_
 refine A.keep [2,3,7,9] rfl ?_
 refine A.loopP (ι:=Nat×ST) (fun u=>(⟨[(2,bytA pk),(3,ptrA b3),(7,ptrA b7),(9,AI (u.1:Nat))],[]⟩,[.box b7 (encST u.2), .box b3 (encN k)])) (fun u=>u.1≤pk.length∧Walk k u.2) (fun u=>pk.length-u.1) (0,startS k inn) ⟨Nat.zero_le _,hw⟩ rfl fun u hu ih=>?_
 obtain ⟨i,s⟩:=u
 obtain ⟨hi1,hws⟩:=hu
 simp only at hi1 hws
 have hmay:=smay_p k s hws.good
 have hsm:=hws.good.sms
 refine y_ ?_
 refine k_ (fun hc=>?_) fun hc=>?_
 ·have hci:i<pk.length:=by have:=hc;simp only [n1,decide_eq_true_eq] at this;omega
  clear hc
  refine Exists.elim (at_exN (l:=pk) (i:=i) hci) fun n hn=>?_
  have hml:=moves_len hws.good hws.wt
  have hmp:=moves_pos s
  have hmt:=moves_tick s
  have hmv:=hws.moves
  have hdn:=sdone_p s hsm.root
  have hsame:=ssame_p s s hsm
  rw [sameSt_refl] at hsame
  refine Exists.elim (pick_p (movesM s) n (hp n (List.mem_of_getElem? hn)) (by omega) (by omega)) fun m hm=>?_
  have hws':=hws.step hm.1
  have hpk:=hm.2
  clear hm
  have n2:((movsA (movesM s)).length:Int)=((realM s).length:Nat)+1:=by rw [List.length_map];omega
  refine Exists.elim (show∃d,d=doneR s.root from ⟨_,rfl⟩) fun d hd=>?_
  rw [←hd] at hdn
  have hd1:d=true→(realM s).length=0:=fun h=>by
   have:=moves_done (s:=s) (by rw [←hd];exact h)
   have h2:(movesM s).length=1:=by rw [this];rfl
   omega
  refine y_ ?_
  refine c_ hmv ?_
  refine c_ hmay ?_
  refine F_ rfl (by show (bif false then true else _)=false;rw [n2];simp;omega) ?_
  refine c_ hdn ?_
  have hd2:d=true→(((movsA (movesM s)).length:Int) !=1)=false:=fun h=>by rw [n2,hd1 h];rfl
  clear hd hd1
  have e57:IntKind.i64.wrap (((movsA (movesM s)).length:Int)-1)=((realM s).length:Nat):=by rw [n2,wr64 _ (by omega)];omega
  have et:(IntKind.i32.wrap (s.time+1) !=IntKind.i32.wrap (s.time+1))=false:=by simp
  cases d
  case' true=>refine y_ ?_;refine A.gF rfl (hd2 rfl) ?_
  all_goals
   refine y_ ?_
   refine A.valE 57 rfl (x':=AI ((realM s).length:Nat)) (ai_eq e57) ?_
   refine i_ rfl (map_at hmt) rfl ?_
   refine A.b rfl fun b11=>?_
   refine y_ ?_
   refine F_ rfl (by exact et) ?_
   refine c_ hsame ?_
   refine A.keep [2,3,7,9,10,12] rfl ?_
   refine l_ (Λ':=[.box b7 (encST s), .box b3 (encN k)]) ?_
   refine A.loopP (ι:=Nat) (fun j=>(⟨[(2,bytA pk),(3,ptrA b3),(7,ptrA b7),(9,AI (i:Nat)),(10, .sl 14 (movsA (movesM s)) none),(12,AI (j:Nat))],[]⟩,[.box b7 (encST s), .box b3 (encN k)])) (fun j=>j≤(movesM s).length) (fun j=>(movesM s).length-j) 0 (Nat.zero_le _) rfl fun j hj jh=>?_
   refine y_ ?_
   refine A.valE 83 rfl (x':=AI ((movesM s).length:Nat)) (ai_eq (by rw [List.length_map])) ?_
   refine k_ (fun hc=>?_) fun hc=>?_
   ·have hcj:j<(movesM s).length:=by simpa using hc
    clear hc
    by_cases hjr:j=(realM s).length
    ·have hmj:=hmt
     rw [←hjr] at hmj
     have e97:(((j:Nat):Int)==IntKind.i64.wrap (((movsA (movesM s)).length:Int)-1))=true:=by rw [e57,hjr];simp
     refine y_ ?_
     refine d_ 45 [0,1,2,3,4,5,6,7,8,9,10,11,12,13,14,15,16,17,18,19,20,21,22,23,24,25,26,27,28,29,30,31,32,33,34,35,36,37,38,39,40,41,42,43,44] [] ?_
     refine iw_ rfl (map_at hmj) rfl ?_
     refine Fw_ rfl (by rw [e97];rfl) ?_
     refine iw_ rfl (map_at hmj) rfl ?_
     refine WA.gT rfl rfl ?_
     refine iw_ rfl (map_at hmj) rfl ?_
     refine WA.eqSt rfl rfl rfl rfl rfl rfl rfl rfl rfl (evSt 0 0 0 0) ?_
     refine w_ ?_
     refine WA.gF rfl rfl ?_
     refine iw_ rfl (map_at hmj) rfl ?_
     refine z_ ?_
     refine A.valE 12 rfl (x':=AI ((j+1:Nat):Int)) (inc_eq j (by omega)) ?_
     refine u_ (jh (j+1) (by omega) (by omega))
    ·have hjl:j<(realM s).length:=by omega
     have e97:(((j:Nat):Int)==IntKind.i64.wrap (((movsA (movesM s)).length:Int)-1))=false:=by rw [e57,beq_eq_false_iff_ne];omega
     refine Exists.elim (at_exN (l:=movesM s) (i:=j) hcj) fun mj hmj=>?_
     cases real_mk (moves_real hjl hmj) with
     |tau h=>
      obtain ⟨nx,rfl,htm⟩:=h
      refine y_ ?_
      refine d_ 45 [0,1,2,3,4,5,6,7,8,9,10,11,12,13,14,15,16,17,18,19,20,21,22,23,24,25,26,27,28,29,30,31,32,33,34,35,36,37,38,39,40,41,42,43,44] [] ?_
      refine iw_ rfl (map_at hmj) rfl ?_
      refine Fw_ rfl (by rw [e97];rfl) ?_
      refine iw_ rfl (map_at hmj) rfl ?_
      refine WA.gT rfl rfl ?_
      refine iw_ rfl (map_at hmj) rfl ?_
      refine WA.eqSt rfl rfl rfl rfl rfl rfl rfl rfl rfl (evSt 0 0 0 0) ?_
      refine w_ ?_
      refine WA.gF rfl rfl ?_
      refine iw_ rfl (map_at hmj) rfl ?_
      refine WA.gT rfl rfl ?_
      refine iw_ rfl (map_at hmj) rfl ?_
      refine z_ ?_
      refine F_ rfl (by show (bif false then true else bif true then (nx.time !=s.time) else false)=false;rw [htm];simp) ?_
      refine A.valE 12 rfl (x':=AI ((j+1:Nat):Int)) (inc_eq j (by omega)) ?_
      refine u_ (jh (j+1) (by omega) (by omega))
     |comm h=>
      obtain ⟨ec,ev,nx,rfl,htm⟩:=h
      refine y_ ?_
      refine d_ 45 [0,1,2,3,4,5,6,7,8,9,10,11,12,13,14,15,16,17,18,19,20,21,22,23,24,25,26,27,28,29,30,31,32,33,34,35,36,37,38,39,40,41,42,43,44] [] ?_
      refine iw_ rfl (map_at hmj) rfl ?_
      refine Fw_ rfl (by rw [e97];rfl) ?_
      refine iw_ rfl (map_at hmj) rfl ?_
      refine WA.gF rfl rfl ?_
      refine WA.gF rfl rfl ?_
      refine iw_ rfl (map_at hmj) rfl ?_
      refine WA.gT rfl rfl ?_
      refine iw_ rfl (map_at hmj) rfl ?_
      refine z_ ?_
      refine F_ rfl (by show (bif false then true else bif true then (nx.time !=s.time) else false)=false;rw [htm];simp) ?_
      refine A.valE 12 rfl (x':=AI ((j+1:Nat):Int)) (inc_eq j (by omega)) ?_
      refine u_ (jh (j+1) (by omega) (by omega))
   clear hc jh
   refine y_ ?_
   refine i_ rfl (map_at hn) rfl ?_
   refine c_ hpk ?_
   refine A.valE 9 rfl (x':=AI ((i+1:Nat):Int)) (inc_eq i (by omega)) ?_
   refine u_ (ih (i+1,m.next) ⟨by show i+1≤_;omega,hws'⟩ (by show _-(i+1)<_-i;omega))
 clear hc ih
 refine y_ ?_
 refine n_ hmay ?_
 (refine y_ ?_;exact cr_ head_p)
end Go.Proofs.YthdgpbgjmbkleaaGreat
namespace Go.Proofs.YthdgpbgjmbkleaaGreat
open Go Go.Tp Go.ChangeShapes Go.WideShapes Go.ChangeAt Go.RowKit
theorem own:ownKnob Tryz.prog.godebug=none:=by kernel_rfl
theorem laidOut:laidOutB Tryz.prog=true:=by kernel_rfl
section
variable{H:Type}{enc:TypeId×Value→H}{W:World}{base:Nat}{sp:Nat→Bool}{hd:Bool}
abbrev cellsKl(e:KE):List AV:=[AU8 e.kind,AU8 e.oper,AU8 e.to,AI32 e.n,AI e.v, .sl 6 (encKl e.l) none]
abbrev cellsRl(p:PR):List AV:=[AU8 p.kind,AI p.c,AI p.v,AU8 p.item,plsA p.to,kesA p.e,gsA p.gs,rsA p.l]
abbrev cellsGl(g:GD):List AV:=[AU8 g.kind,AU8 g.cond.kind,AU8 g.cond.oper,AU8 g.cond.to,AI32 g.cond.n,AI g.cond.v,kesA g.cond.l,AI g.c,AU8 g.item,AI g.to.v,kesA g.to.ix,AU8 g.time.kind,AU8 g.time.oper,AU8 g.time.to,AI32 g.time.n,AI g.time.v,kesA g.time.l,rsA g.body]
theorem encKl_ag(l:List KE):encKl l=l.map fun e=> .ag (cellsKl e):=by rw [encKl_map];congr 1;funext e;exact encK_eq e
theorem encRl_ag(l:List PR):encRl l=l.map fun e=> .ag (cellsRl e):=by rw [encRl_map];congr 1;funext e;exact encR_eq e
theorem encGl_ag(l:List GD):encGl l=l.map fun e=> .ag (cellsGl e):=by rw [encGl_map];congr 1;funext e;exact encG_eq e
abbrev OkE(e:KE):Prop:=wfK e∧smK e
abbrev OkP(p:PL):Prop:=wfPl p∧smP p
abbrev OkR(p:PR):Prop:=wfR p∧smR p
abbrev OkG(g:GD):Prop:=wfG g∧smG g
theorem okEl_of: ∀{l:List KE},(∀a,a∈l→OkE a)→wfKl l∧smKl l
 | [],_=>by rw [wfKl,smKl];exact ⟨trivial,trivial⟩
 |x::r,h=>by
  have h1:=h x (List.mem_cons_self ..)
  have h2:=okEl_of (l:=r) fun a ha=>h a (List.mem_cons_of_mem _ ha)
  rw [wfKl,smKl];exact ⟨⟨h1.1,h2.1⟩,⟨h1.2,h2.2⟩⟩
theorem okRl_of: ∀{l:List PR},(∀a,a∈l→OkR a)→wfRl l∧smRl l
 | [],_=>by rw [wfRl,smRl];exact ⟨trivial,trivial⟩
 |x::r,h=>by
  have h1:=h x (List.mem_cons_self ..)
  have h2:=okRl_of (l:=r) fun a ha=>h a (List.mem_cons_of_mem _ ha)
  rw [wfRl,smRl];exact ⟨⟨h1.1,h2.1⟩,⟨h1.2,h2.2⟩⟩
theorem okGl_of: ∀{l:List GD},(∀a,a∈l→OkG a)→wfGl l∧smGl l
 | [],_=>by rw [wfGl,smGl];exact ⟨trivial,trivial⟩
 |x::r,h=>by
  have h1:=h x (List.mem_cons_self ..)
  have h2:=okGl_of (l:=r) fun a ha=>h a (List.mem_cons_of_mem _ ha)
  rw [wfGl,smGl];exact ⟨⟨h1.1,h2.1⟩,⟨h1.2,h2.2⟩⟩
theorem op_ke: ∀n,Opn enc Tryz.prog W base sp hd n 94 cellsKl OkE
 |0=>Opn.zero
 |n+1=>by
  have ih:=op_ke n
  have hl:=(Opn.sliceA (t:=27) (sz:=6) (bt:=40) (by kernel_rfl) (by kernel_rfl) (by kernel_rfl) (by decide) ih).mono (Nat.le_succ n)
  have hf:=OpnF.cons (f:=⟨"Kind",91,0,false, "", "",0⟩) (Opn.u8 (by kernel_rfl) n) rfl 1 (by kernel_rfl) (OpnF.cons (f:=⟨"Oper",92,1,false, "", "",1⟩) (Opn.u8 (by kernel_rfl) n) rfl 1 (by kernel_rfl)
   (OpnF.cons (f:=⟨"To",25,2,false, "", "",2⟩) (Opn.u8 (by kernel_rfl) n) rfl 1 (by kernel_rfl) (OpnF.cons (f:=⟨"N",21,3,false, "", "",4⟩) (Opn.i32 (by kernel_rfl) n) rfl 1 (by kernel_rfl)
   (OpnF.cons (f:=⟨"V",3,4,false, "", "",8⟩) (Opn.i64 (by kernel_rfl) n) rfl 1 (by kernel_rfl) (OpnF.cons (f:=⟨"L",27,5,false, "", "",16⟩) hl rfl 1 (by kernel_rfl) OpnF.nil)))))
  refine (Opn.struct (t:=94) (sz:=6) (fs:= #[⟨"Kind",91,0,false, "", "",0⟩,⟨"Oper",92,1,false, "", "",1⟩,⟨"To",25,2,false, "", "",2⟩,⟨"N",21,3,false, "", "",4⟩,⟨"V",3,4,false, "", "",8⟩,⟨"L",27,5,false, "", "",16⟩]) (by kernel_rfl) (by kernel_rfl) hf (by kernel_rfl)).map (fun p=>⟨p.1,p.2.1,p.2.2.1,p.2.2.2.1,p.2.2.2.2.1,p.2.2.2.2.2.1⟩) (fun p=>?_) (fun p hp=>?_)
  ·show cellsKl _=[_]++([_]++([_]++([_]++([_]++([AV.sl 6 _ none]++[])))))
   rw [←encKl_ag];rfl
  ·obtain ⟨k,o,t,n,s,l,u⟩:=p
   obtain ⟨h1,h2,h3,h4,h5,⟨h6,h7⟩,_⟩:=hp
   have h8:=okEl_of h6
   unfold reachBytes at h7
   refine ⟨?_,?_⟩
   ·rw [wfK];exact ⟨⟨h1,h2,h3,h4,h5⟩,h8.1⟩
   ·rw [smK];exact ⟨Nat.le_trans h7 (by decide),h8.2⟩
theorem op_kes(n:Nat):Opn enc Tryz.prog W base sp hd n 27 (fun l:List KE=>[kesA l]) (fun l=>(∀x,x∈l→OkE x)∧l.length*40≤140737488355328):=by
 refine ((Opn.sliceA (t:=27) (sz:=6) (bt:=40) (by kernel_rfl) (by kernel_rfl) (by kernel_rfl) (by decide) (op_ke n)).mono (Nat.le_succ n)).map (fun l=>l) (fun l=>?_) (fun l h=>⟨h.1,by have:=h.2;unfold reachBytes at this;exact Nat.le_trans this (by decide)⟩)
 show [AV.sl 6 (encKl l) none]=_
 rw [encKl_ag]
theorem op_pl(n:Nat):Opn enc Tryz.prog W base sp hd n 96 (fun p:PL=>[AI p.v,kesA p.ix]) OkP:=by
 have hf:=OpnF.cons (f:=⟨"V",3,0,false, "", "",0⟩) (Opn.i64 (enc:=enc) (P:=Tryz.prog) (W:=W) (base:=base) (sp:=sp) (hd:=hd) (by kernel_rfl) n) rfl 1 (by kernel_rfl) (OpnF.cons (f:=⟨"Index",27,1,false, "", "",8⟩) (op_kes n) rfl 1 (by kernel_rfl) OpnF.nil)
 exact ((Opn.struct (t:=96) (sz:=2) (fs:= #[⟨"V",3,0,false, "", "",0⟩,⟨"Index",27,1,false, "", "",8⟩]) (by kernel_rfl) (by kernel_rfl) hf (by kernel_rfl)).mono (Nat.le_succ n)).map (fun p=>⟨p.1,p.2.1⟩) (fun p=>rfl) (fun p hp=>⟨(okEl_of hp.2.1.1).1,hp.2.1.2,fun x hx=>(hp.2.1.1 x hx).2⟩)
theorem op_pls(n:Nat):Opn enc Tryz.prog W base sp hd n 26 (fun l:List PL=>[plsA l]) (fun l=>(∀t,t∈l→OkP t)∧l.length*32≤140737488355328):=
 ((Opn.sliceA (t:=26) (sz:=2) (bt:=32) (by kernel_rfl) (by kernel_rfl) (by kernel_rfl) (by decide) (op_pl n)).mono (Nat.le_succ n)).map (fun l=>l) (fun l=>rfl) (fun l h=>⟨h.1,by have:=h.2;unfold reachBytes at this;exact Nat.le_trans this (by decide)⟩)
theorem op_prs{n:Nat}(ih:Opn enc Tryz.prog W base sp hd n 31 cellsRl OkR):Opn enc Tryz.prog W base sp hd n 29 (fun l:List PR=>[rsA l]) (fun l=>(∀t,t∈l→OkR t)∧l.length*128≤140737488355328):=by
 refine ((Opn.sliceA (t:=29) (sz:=8) (bt:=128) (by kernel_rfl) (by kernel_rfl) (by kernel_rfl) (by decide) ih).mono (Nat.le_succ n)).map (fun l=>l) (fun l=>?_) (fun l h=>⟨h.1,by have:=h.2;unfold reachBytes at this;exact Nat.le_trans this (by decide)⟩)
 show [AV.sl 8 (encRl l) none]=_
 rw [encRl_ag]
theorem op_gd{n:Nat}(ih:Opn enc Tryz.prog W base sp hd n 31 cellsRl OkR):Opn enc Tryz.prog W base sp hd n 98 cellsGl OkG:=by
 have hf:=OpnF.cons (f:=⟨"Kind",90,0,false, "", "",0⟩) (Opn.u8 (enc:=enc) (P:=Tryz.prog) (W:=W) (base:=base) (sp:=sp) (hd:=hd) (by kernel_rfl) n) rfl 1 (by kernel_rfl) (OpnF.cons (f:=⟨"Cond",94,1,false, "", "",8⟩) (op_ke n) rfl 6 (by kernel_rfl)
  (OpnF.cons (f:=⟨"C",3,7,false, "", "",48⟩) (Opn.i64 (by kernel_rfl) n) rfl 1 (by kernel_rfl) (OpnF.cons (f:=⟨"Item",25,8,false, "", "",56⟩) (Opn.u8 (by kernel_rfl) n) rfl 1 (by kernel_rfl)
  (OpnF.cons (f:=⟨"To",96,9,false, "", "",64⟩) (op_pl n) rfl 2 (by kernel_rfl) (OpnF.cons (f:=⟨"Time",94,11,false, "", "",96⟩) (op_ke n) rfl 6 (by kernel_rfl)
  (OpnF.cons (f:=⟨"Body",29,17,false, "", "",136⟩) (op_prs ih) rfl 1 (by kernel_rfl) OpnF.nil))))))
 refine ((Opn.struct (t:=98) (sz:=18) (fs:= #[⟨"Kind",90,0,false, "", "",0⟩,⟨"Cond",94,1,false, "", "",8⟩,⟨"C",3,7,false, "", "",48⟩,⟨"Item",25,8,false, "", "",56⟩,⟨"To",96,9,false, "", "",64⟩,⟨"Time",94,11,false, "", "",96⟩,⟨"Body",29,17,false, "", "",136⟩]) (by kernel_rfl) (by kernel_rfl) hf (by kernel_rfl)).mono (Nat.le_succ n)).map (fun p=>⟨p.1,p.2.1,p.2.2.1,p.2.2.2.1,p.2.2.2.2.1,p.2.2.2.2.2.1,p.2.2.2.2.2.2.1⟩) (fun p=>rfl) (fun p hp=>?_)
 obtain ⟨h1,h2,h3,h4,h5,h6,⟨h7,h8⟩,_⟩:=hp
 have h9:=okRl_of h7
 refine ⟨?_,?_⟩
 ·rw [wfG];exact ⟨⟨h2.1,h6.1,h5.1⟩,h9.1⟩
 ·rw [smG];exact ⟨⟨h2.2,h6.2,h5.2,h8⟩,h9.2⟩
theorem op_gds{n:Nat}(ih:Opn enc Tryz.prog W base sp hd n 31 cellsRl OkR):Opn enc Tryz.prog W base sp hd n 28 (fun l:List GD=>[gsA l]) (fun l=>(∀t,t∈l→OkG t)∧l.length*160≤140737488355328):=by
 refine ((Opn.sliceA (t:=28) (sz:=18) (bt:=160) (by kernel_rfl) (by kernel_rfl) (by kernel_rfl) (by decide) (op_gd ih)).mono (Nat.le_succ n)).map (fun l=>l) (fun l=>?_) (fun l h=>⟨h.1,by have:=h.2;unfold reachBytes at this;exact Nat.le_trans this (by decide)⟩)
 show [AV.sl 18 (encGl l) none]=_
 rw [encGl_ag]
theorem op_pr: ∀n,Opn enc Tryz.prog W base sp hd n 31 cellsRl OkR
 |0=>Opn.zero
 |n+1=>by
  have ih:=op_pr n
  have hf:=OpnF.cons (f:=⟨"Kind",24,0,false, "", "",0⟩) (Opn.u8 (enc:=enc) (P:=Tryz.prog) (W:=W) (base:=base) (sp:=sp) (hd:=hd) (by kernel_rfl) n) rfl 1 (by kernel_rfl) (OpnF.cons (f:=⟨"C",3,1,false, "", "",8⟩) (Opn.i64 (by kernel_rfl) n) rfl 1 (by kernel_rfl)
   (OpnF.cons (f:=⟨"V",3,2,false, "", "",16⟩) (Opn.i64 (by kernel_rfl) n) rfl 1 (by kernel_rfl) (OpnF.cons (f:=⟨"Item",25,3,false, "", "",24⟩) (Opn.u8 (by kernel_rfl) n) rfl 1 (by kernel_rfl)
   (OpnF.cons (f:=⟨"To",26,4,false, "", "",32⟩) (op_pls n) rfl 1 (by kernel_rfl) (OpnF.cons (f:=⟨"E",27,5,false, "", "",56⟩) (op_kes n) rfl 1 (by kernel_rfl)
   (OpnF.cons (f:=⟨"Guards",28,6,false, "", "",80⟩) (op_gds ih) rfl 1 (by kernel_rfl) (OpnF.cons (f:=⟨"L",29,7,false, "", "",104⟩) (op_prs ih) rfl 1 (by kernel_rfl) OpnF.nil)))))))
  refine (Opn.struct (t:=31) (sz:=8) (fs:= #[⟨"Kind",24,0,false, "", "",0⟩,⟨"C",3,1,false, "", "",8⟩,⟨"V",3,2,false, "", "",16⟩,⟨"Item",25,3,false, "", "",24⟩,⟨"To",26,4,false, "", "",32⟩,⟨"E",27,5,false, "", "",56⟩,⟨"Guards",28,6,false, "", "",80⟩,⟨"L",29,7,false, "", "",104⟩]) (by kernel_rfl) (by kernel_rfl) hf (by kernel_rfl)).map (fun p=>⟨p.1,p.2.1,p.2.2.1,p.2.2.2.1,p.2.2.2.2.1,p.2.2.2.2.2.1,p.2.2.2.2.2.2.1,p.2.2.2.2.2.2.2.1⟩) (fun p=>rfl) (fun p hp=>?_)
  obtain ⟨h1,h2,h3,h4,⟨h5,h5'⟩,⟨h6,h6'⟩,⟨h7,h7'⟩,⟨h8,h8'⟩,_⟩:=hp
  have h9:=okRl_of h8
  have h10:=okGl_of h7
  refine ⟨?_,?_⟩
  ·rw [wfR];exact ⟨⟨fun t ht=>(h5 t ht).1,(okEl_of h6).1,by omega,by omega,by omega⟩,h10.1,h9.1⟩
  ·rw [smR];exact ⟨⟨fun t ht=>(h5 t ht).2,fun x hx=>(h6 x hx).2,h5',h6',h7',h8'⟩,h10.2,h9.2⟩
theorem op_vars(n:Nat):Opn enc Tryz.prog W base sp hd n 22 (fun l:List KV=>[varsA l]) (fun l=>l.length≤281474976710656):=by
 have hf:=OpnF.cons (f:=⟨"Kind",25,0,false, "", "",0⟩) (Opn.u8 (enc:=enc) (P:=Tryz.prog) (W:=W) (base:=base) (sp:=sp) (hd:=hd) (by kernel_rfl) n) rfl 1 (by kernel_rfl) (OpnF.cons (f:=⟨"Dim",3,1,false, "", "",8⟩) (Opn.i64 (by kernel_rfl) n) rfl 1 (by kernel_rfl) OpnF.nil)
 have hv:Opn enc Tryz.prog W base sp hd n 102 (fun v:KV=>[AU8 v.kind,AI v.dim]) (fun _=>True):=((Opn.struct (t:=102) (sz:=2) (fs:= #[⟨"Kind",25,0,false, "", "",0⟩,⟨"Dim",3,1,false, "", "",8⟩]) (by kernel_rfl) (by kernel_rfl) hf (by kernel_rfl)).mono (Nat.le_succ n)).map (fun p=>⟨p.1,p.2.1⟩) (fun p=>rfl) (fun p hp=>trivial)
 exact ((Opn.sliceA (t:=22) (sz:=2) (bt:=16) (by kernel_rfl) (by kernel_rfl) (by kernel_rfl) (by decide) hv).mono (Nat.le_succ n)).map (fun l=>l) (fun l=>rfl) (fun l h=>by have:=h.2;unfold reachBytes at this;omega)
theorem op_chans(n:Nat):Opn enc Tryz.prog W base sp hd n 23 (fun l:List Int=>[chsA l]) (fun l=>l.length≤281474976710656):=
 ((Opn.slice1 (t:=23) (e:=109) (bt:=1) (by kernel_rfl) (by kernel_rfl) (by kernel_rfl) (Opn.u8 (by kernel_rfl) n)).mono (Nat.le_succ n)).map (fun l=>l) (fun l=>rfl) (fun l h=>by have:=h.2;unfold reachBytes at this;omega)
theorem op_ints(n:Nat):Opn enc Tryz.prog W base sp hd n 32 (fun l:List Int=>[intsA l]) (fun l=>l.length≤281474976710656):=
 ((Opn.slice1 (t:=32) (e:=3) (bt:=8) (by kernel_rfl) (by kernel_rfl) (by kernel_rfl) (Opn.i64 (by kernel_rfl) n)).mono (Nat.le_succ n)).map (fun l=>l) (fun l=>rfl) (fun l h=>by have:=h.2;unfold reachBytes at this;omega)
abbrev cellsN(k:KN):List AV:=[varsA k.vars,chsA k.chans,AU8 k.root.kind,AI k.root.c,AI k.root.v,AU8 k.root.item,plsA k.root.to,kesA k.root.e,gsA k.root.gs,rsA k.root.l,intsA k.procs]
theorem op_kernel(n:Nat):Opn enc Tryz.prog W base sp hd n 34 cellsN SmN:=by
 have hf:=OpnF.cons (f:=⟨"Vars",22,0,false, "", "",0⟩) (op_vars (enc:=enc) (W:=W) (base:=base) (sp:=sp) (hd:=hd) n) rfl 1 (by kernel_rfl) (OpnF.cons (f:=⟨"Chans",23,1,false, "", "",24⟩) (op_chans n) rfl 1 (by kernel_rfl)
  (OpnF.cons (f:=⟨"Root",31,2,false, "", "",48⟩) (op_pr n) rfl 8 (by kernel_rfl) (OpnF.cons (f:=⟨"Procs",32,10,false, "", "",176⟩) (op_ints n) rfl 1 (by kernel_rfl) OpnF.nil)))
 refine ((Opn.struct (t:=34) (sz:=11) (fs:= #[⟨"Vars",22,0,false, "", "",0⟩,⟨"Chans",23,1,false, "", "",24⟩,⟨"Root",31,2,false, "", "",48⟩,⟨"Procs",32,10,false, "", "",176⟩]) (by kernel_rfl) (by kernel_rfl) hf (by kernel_rfl)).mono (Nat.le_succ n)).map (fun p=>⟨p.1,p.2.1,p.2.2.1,p.2.2.2.1⟩) (fun p=>rfl) (fun p hp=>?_)
 obtain ⟨h1,h2,h3,h4,_⟩:=hp
 exact ⟨⟨h1,h2,h4,h3.1⟩,h3.2⟩
theorem argKern{v:Value}{d:DataW H}{p:List MemPlace}(hval:Value.okWide Tryz.prog W .any base 34 v)(h:DataW.Trod enc Tryz.prog W 0 (fun _=>true) true 34 v d p)(hw:Wt Tryz.prog 34 d):
 ∃k:KN,SmN k∧Rp (hOf W) (encN k) v:=by
 obtain ⟨k,h1,h2⟩:=arg_struct (fs:= #[⟨"Vars",22,0,false, "", "",0⟩,⟨"Chans",23,1,false, "", "",24⟩,⟨"Root",31,2,false, "", "",48⟩,⟨"Procs",32,10,false, "", "",176⟩]) (by kernel_rfl) op_kernel hval h hw
 exact ⟨k,h1,h2⟩
abbrev QR32(l:List Int):Prop:=(∀x,x∈l→i32 x)∧l.length*4≤reachBytes
theorem op_row(n:Nat):Opn enc Tryz.prog W base sp hd (n+1) 35 (fun l=>[rowA l]) QR32:=
 Opn.slice1 (bt:=4) (by kernel_rfl) (by kernel_rfl) (by kernel_rfl) (Opn.i32 (t:=21) (by kernel_rfl) n)
theorem argRow{v:Value}{d:DataW H}{p:List MemPlace}(hval:Value.okWide Tryz.prog W .any base 35 v)(h:DataW.Trod enc Tryz.prog W 0 (fun _=>true) true 35 v d p)(hw:Wt Tryz.prog 35 d):
 ∃l:List Int,((∀x,x∈l→i32 x)∧l.length≤35184372088832)∧Rp (hOf W) (rowA l) v:=by
 obtain ⟨l,⟨h1,h2⟩,h3⟩:=arg_slice (e:=21) (t:=35) (en:=fun l:List Int=>rowA l) (by kernel_rfl) (fun n=>(op_row n).mono (Nat.le_succ n)) hval h hw
 unfold reachBytes at h2
 exact ⟨l,⟨h1,by omega⟩,h3⟩
theorem argBytes{v:Value}{d:DataW H}{p:List MemPlace}(hval:Value.okWide Tryz.prog W .any base 50 v)(h:DataW.Trod enc Tryz.prog W 0 (fun _=>true) true 50 v d p)(hw:Wt Tryz.prog 50 d):
 ∃l:List Int,((∀x,x∈l→Go.Tp.u8 x)∧l.length≤281474976710656)∧Rp (hOf W) (bytA l) v:=by
 obtain ⟨l,⟨h1,h2⟩,h3⟩:=arg_slice (e:=5) (t:=50) (en:=fun l:List Int=>bytA l) (by kernel_rfl) (fun n=>((Opn.slice1 (bt:=1) (by kernel_rfl) (by kernel_rfl) (by kernel_rfl) (Opn.u8 (t:=5) (by kernel_rfl) n)).mono (Nat.le_succ n))) hval h hw
 unfold reachBytes at h2
 exact ⟨l,⟨h1,by omega⟩,h3⟩
end
end Go.Proofs.YthdgpbgjmbkleaaGreat
