/-
  Texts Q19ai. Conditions: as each theorem says.
-/
import Derived.Test.YtkbolbpojpmicaaGreatWb3
import Derived.Test.YtkbolbpojpmicaaGreatWb9
set_option linter.unusedVariables false
set_option linter.unusedSimpArgs false
set_option maxRecDepth 100000
set_option maxHeartbeats 4000000
namespace Go.Proofs.YtkbolbpojpmicaaGreat
open Go Go.Tp
structure FuelOk(k:KN)(t:TR)(f:Int):Prop where
 has:hasE k t f=0->hasX k t (f+1)=hasX k t f/\hasE k t (f+1)=0
 ends:endE k t f=0->endX k t (f+1)=endX k t f/\endE k t (f+1)=0
 some:endX k t f≠[]->hasX k t f=true/\hasE k t f=0
theorem fuel_ok{k:KN}(hk:SmN k){t:TR}(ht:TrI t){f:Int}(h:XOk k t f)(h5:f<=5):FuelOk k t f:=by
 have h0:=h.f0
 have hx1:XOk k t (f+1):=⟨h.may,h.unt,by omega,by omega,h.len⟩
 have hL:=les_run k.root f.toNat [0,1] t (storeS k.vars)
 rw [show f.toNat+1=(f+1).toNat by omega] at hL
 have hL:Les (runX k t f) (runX k t (f+1)):=hL
 have w1:=((run19 k.root).wf (f+1).toNat [0,1] t (storeS k.vars)).len
 have w1:(runX k t (f+1)).reach<=t.length:=w1
 have w0:=((run19 k.root).wf f.toNat [0,1] t (storeS k.vars))
 have w0:WfRN (runX k t f) t.length:=w0
 have same:(runX k t f).miss=false->runX k t (f+1)=runX k t f:=hL.same
 refine ⟨fun he=>?_,fun he=>?_,fun he=>?_⟩
 ·unfold hasE at he
  rw [errX_zero h,if_pos rfl] at he
  by_cases hr:(runX k t f).reach=t.length
  ·have hr1:(runX k t (f+1)).reach=t.length:=by have:=hL.reach;omega
   have a1:hasX k t f=true:=by rw [hasX_iff h,decide_eq_true_eq];exact hr
   have a2:hasX k t (f+1)=true:=by rw [hasX_iff hx1,decide_eq_true_eq];exact hr1
   exact ⟨by rw [a1,a2],hasE_true hx1 a2⟩
  ·cases hm:(runX k t f).miss with
   |true=>rw [if_pos ⟨hr,hm⟩] at he;omega
   |false=>
    have e:=same hm
    refine ⟨by rw [hasX_iff hx1,hasX_iff h,e],?_⟩
    unfold hasE
    rw [errX_zero hx1,if_pos rfl,e,if_neg (fun hh=>by rw [hm] at hh;cases hh.2)]
 ·obtain ⟨h1,h2⟩:=endE_ok he
  have e:=same h2
  have e2:endE k t (f+1)=0:=by unfold endE;rw [errX_zero hx1,if_pos rfl,e,h2];rfl
  refine ⟨?_,e2⟩
  unfold endX
  rw [e2,he,if_pos rfl,if_pos rfl,e]
 ·obtain ⟨s,hs⟩: ∃s,s∈endX k t f:=by
   cases hl:endX k t f with
   |nil=>exact absurd hl he
   |cons s r=>exact ⟨s, .head _⟩
  unfold endX at hs
  split at hs
  ·have h1:=w0.le _ (endsM_mem.1 hs)
   have h2:=w0.len
   have a1:hasX k t f=true:=by rw [hasX_iff h,decide_eq_true_eq];show _=_;have h1:t.length<=_:=h1;omega
   exact ⟨a1,hasE_true h a1⟩
  ·cases hs
theorem fuel19_law(k:KN)(hk:SmN k)(t:TR)(ht:TrI t)(f:Int):Pure Tryz.prog gs0 6 [encN k,trA t,AI f] (AB true):=by
 have hh:=head19_p
 obtain ⟨b,hgr,hfit⟩:=great19_p k hk t f
 cases b with
 |true=>
  refine p_ tt_ok Tryz.func6 103 fun w0 h0 F hgs=>?_
  (repeat refine A.s rfl ?_)
  refine A.b rfl fun b3=>?_
  refine y_ ?_
  refine c_ hgr ?_
  exact cr_ hh
 |false=>
 have hfit:=hfit rfl
 have h1:=thas_p k hk t ht f hfit.way0
 have h2:=tends_p k hk t ht f hfit.way0
 by_cases he:errX k t f=0
 case neg=>
  have e1:hasE k t f=errX k t f:=by unfold hasE;rw [if_neg he]
  rw [e1] at h1
  rcases errX_cases k t f with h|h|h
  ·exact absurd h he
  ·rw [h] at h1
   refine p_ tt_ok Tryz.func6 103 fun w0 h0 F hgs=>?_
   (repeat refine A.s rfl ?_)
   refine A.b rfl fun b3=>?_
   refine y_ ?_
   refine c_ hgr ?_
   refine c_ h1 ?_
   refine c_ h2 ?_
   exact cr_ hh
  ·rw [h] at h1
   refine p_ tt_ok Tryz.func6 103 fun w0 h0 F hgs=>?_
   (repeat refine A.s rfl ?_)
   refine A.b rfl fun b3=>?_
   refine y_ ?_
   refine c_ hgr ?_
   refine c_ h1 ?_
   refine c_ h2 ?_
   exact cr_ hh
 have hx:=errX_ok he
 have hwy:=hfit.way he
 have h5:=hfit.fuel he
 have hf0:=hx.f0
 have hx1:XOk k t (f+1):=⟨hx.may,hx.unt,by omega,by omega,hx.len⟩
 have hw1:errX k t (f+1)=0->wayR k.root (f+1).toNat<=2000:=fun _=>by rw [show (f+1).toNat=f.toNat+1 by omega];exact hwy
 have h3:=thas_p k hk t ht (f+1) hw1
 have h4:=tends_p k hk t ht (f+1) hw1
 have ok:=fuel_ok hk ht hx h5
 have hsm:=sameAll_p (endX k t f) (endX k t (f+1)) (fun s hs=>sto_short (endX_ok hk ht s hs)) (by have:=endX_len hk ht hfit.way0;omega)
 have hinc:IntKind.i64.wrap (f+1)=f+1:=wr64 _ (by omega)
 have hEs:=hasE_some hx
 have hGs:endE k t f=0\/endE k t f=190:=by
  unfold endE
  rw [he,if_pos rfl]
  split
  ·exact .inr rfl
  ·exact .inl rfl
 have nl:(((endX k t f).map rowsA).length:Int)=(endX k t f).length:=by rw [List.length_map]
 have hlast: ∀(c:List Sto),c=endX k t f->((((c.map rowsA).length:Int)==0)=true)\/((((c.map rowsA).length:Int)==0)=false/\hasX k t f=true/\hasE k t f=0):=fun c hc=>by
  subst hc
  by_cases h0:endX k t f=[]
  ·left;rw [h0];rfl
  ·right
   refine ⟨?_,ok.some h0⟩
   rw [nl,beq_eq_false_iff_ne]
   have:=List.length_pos_iff.2 h0
   omega
 refine Exists.elim (show∃A0,A0=hasX k t f from ⟨_,rfl⟩) fun A0 hA=>?_
 refine Exists.elim (show∃E0,E0=hasE k t f from ⟨_,rfl⟩) fun E0 hE=>?_
 refine Exists.elim (show∃C0,C0=endX k t f from ⟨_,rfl⟩) fun C0 hC=>?_
 refine Exists.elim (show∃G0,G0=endE k t f from ⟨_,rfl⟩) fun G0 hG=>?_
 obtain ⟨ok1,ok2,ok3⟩:=ok
 have hlast:=hlast C0 hC
 rw [<-hA,<-hE] at h1 hlast
 rw [<-hC,<-hG] at h2
 rw [<-hE] at hEs
 rw [<-hG] at hGs
 rw [<-hC] at hsm
 rw [<-hE,<-hA] at ok1
 rw [<-hG,<-hC] at ok2
 rcases hEs with hE0|hE0
 ·have o1:=ok1 hE0
  rw [o1.1,o1.2] at h3
  rw [hE0] at h1
  rcases hGs with hG0|hG0
  ·have o2:=ok2 hG0
   rw [o2.1,o2.2] at h4
   rw [o2.1,decide_eq_true rfl] at hsm
   rw [hG0] at h2
   refine p_ tt_ok Tryz.func6 103 fun w0 h0 F hgs=>?_
   (repeat refine A.s rfl ?_)
   refine A.b rfl fun b3=>?_
   refine y_ ?_
   refine c_ hgr ?_
   refine c_ h1 ?_
   refine c_ h2 ?_
   refine F_ rfl (by show (bif (bif _ then _ else _) then true else decide (f<0))=false;rw [decide_eq_false (by omega)];rfl) ?_
   refine e_ 47 rfl (x':=AB false) (ab_eq (by show (bif false then true else decide (5<f))=false;rw [decide_eq_false (by omega)];rfl)) ?_
   refine A.valE 53 rfl (x':=AI (f+1)) (ai_eq hinc) ?_
   refine c_ h3 ?_
   refine A.valE 61 rfl (x':=AI (f+1)) (ai_eq hinc) ?_
   refine c_ h4 ?_
   refine F_ rfl (by simp) ?_
   refine c_ hsm ?_
   rcases hlast with hl|⟨hl,ha,hz⟩
   ·refine T_ rfl hl ?_
    exact cr_ hh
   ·refine F_ rfl hl ?_
    refine T_ rfl ha ?_
    exact cr_ hh
  ·rw [hG0] at h2
   refine p_ tt_ok Tryz.func6 103 fun w0 h0 F hgs=>?_
   (repeat refine A.s rfl ?_)
   refine A.b rfl fun b3=>?_
   refine y_ ?_
   refine c_ hgr ?_
   refine c_ h1 ?_
   refine c_ h2 ?_
   refine F_ rfl (by show (bif (bif _ then _ else _) then true else decide (f<0))=false;rw [decide_eq_false (by omega)];rfl) ?_
   refine e_ 47 rfl (x':=AB false) (ab_eq (by show (bif false then true else decide (5<f))=false;rw [decide_eq_false (by omega)];rfl)) ?_
   refine A.valE 53 rfl (x':=AI (f+1)) (ai_eq hinc) ?_
   refine c_ h3 ?_
   refine A.valE 61 rfl (x':=AI (f+1)) (ai_eq hinc) ?_
   refine c_ h4 ?_
   refine F_ rfl (by simp) ?_
   rcases hlast with hl|⟨hl,ha,hz⟩
   ·refine T_ rfl hl ?_
    exact cr_ hh
   ·refine F_ rfl hl ?_
    refine T_ rfl ha ?_
    exact cr_ hh
 ·have hlast:((((C0.map rowsA).length:Int)==0)=true):=by
   rcases hlast with hl|⟨hl,ha,hz⟩
   ·exact hl
   ·omega
  rw [hE0] at h1
  rcases hGs with hG0|hG0
  ·have o2:=ok2 hG0
   rw [o2.1,o2.2] at h4
   rw [o2.1,decide_eq_true rfl] at hsm
   rw [hG0] at h2
   refine p_ tt_ok Tryz.func6 103 fun w0 h0 F hgs=>?_
   (repeat refine A.s rfl ?_)
   refine A.b rfl fun b3=>?_
   refine y_ ?_
   refine c_ hgr ?_
   refine c_ h1 ?_
   refine c_ h2 ?_
   refine F_ rfl (by show (bif (bif _ then _ else _) then true else decide (f<0))=false;rw [decide_eq_false (by omega)];rfl) ?_
   refine e_ 47 rfl (x':=AB false) (ab_eq (by show (bif false then true else decide (5<f))=false;rw [decide_eq_false (by omega)];rfl)) ?_
   refine A.valE 53 rfl (x':=AI (f+1)) (ai_eq hinc) ?_
   refine c_ h3 ?_
   refine A.valE 61 rfl (x':=AI (f+1)) (ai_eq hinc) ?_
   refine c_ h4 ?_
   refine c_ hsm ?_
   refine T_ rfl hlast ?_
   exact cr_ hh
  ·rw [hG0] at h2
   refine p_ tt_ok Tryz.func6 103 fun w0 h0 F hgs=>?_
   (repeat refine A.s rfl ?_)
   refine A.b rfl fun b3=>?_
   refine y_ ?_
   refine c_ hgr ?_
   refine c_ h1 ?_
   refine c_ h2 ?_
   refine F_ rfl (by show (bif (bif _ then _ else _) then true else decide (f<0))=false;rw [decide_eq_false (by omega)];rfl) ?_
   refine e_ 47 rfl (x':=AB false) (ab_eq (by show (bif false then true else decide (5<f))=false;rw [decide_eq_false (by omega)];rfl)) ?_
   refine A.valE 53 rfl (x':=AI (f+1)) (ai_eq hinc) ?_
   refine c_ h3 ?_
   refine A.valE 61 rfl (x':=AI (f+1)) (ai_eq hinc) ?_
   refine c_ h4 ?_
   refine T_ rfl hlast ?_
   exact cr_ hh
end Go.Proofs.YtkbolbpojpmicaaGreat
