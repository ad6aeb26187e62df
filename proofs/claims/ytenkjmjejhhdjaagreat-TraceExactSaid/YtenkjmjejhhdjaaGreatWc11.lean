/-
  Texts Q19zm Q19zn T20o T19o W19e. Conditions: as each theorem says.
-/
import Derived.Test.YtenkjmjejhhdjaaGreatWc3
import Derived.Test.YtenkjmjejhhdjaaGreatWc10
import Derived.Test.YtenkjmjejhhdjaaGreatWc8
import Derived.Test.YtenkjmjejhhdjaaGreatRows
set_option linter.unusedVariables false
set_option linter.unusedSimpArgs false
set_option maxRecDepth 100000
set_option maxHeartbeats 4000000
open Go.Proofs.Tryz
open List renaming length_map→aa0,length_append→aa1,mem_of_getElem?→aa2,mem_cons_self→aa5,take_of_length_le→aa6,getElem?_eq_some_iff→aa8,getElem?_map→ab5,mem_cons_of_mem→ab9,map_append→ac0,length_take→ac1,take_length→ac4,getElem?_eq_none→ac6,drop_eq_nil_of_le→ad3,length_drop→ad7,nil_append→ag2,filter_append→ag5,mem_map→ai0,mem_filter→aj0,map_drop→ap8,map_take→ar5
open Nat renaming zero_le→aa4,le_refl→ab3,le_trans→ae9,le_succ→ak5
open Exists renaming elim→ab4
open Int renaming le_refl→ao2
namespace Go.Proofs.YtenkjmjejhhdjaaGreat
open Go Go.Tp
theorem S1(a b:bA)(hab:a.map List.length=b.map List.length)(hl:a.length<=1073741824)(ha: ∀r,r∈a->r.length<=281474976710656):Pure prog aU 20 [aF a,aF b] (AB (mE a b)):=by
 have na:((a.map jU).length:Int)=a.length:=by rw [aa0]
 have hlen:a.length=b.length:=by have:=congrArg List.length hab;rwa [aa0,aa0] at this
 refine eX (mE a b) fun R hR=>?_;rw [<-hR];refine P_ func20 52 fun _ _ _ _=>?_;refine y_ ?_;refine A.af [0,1,5] T ?_;refine A.ae (ι:=Nat) (fun i=>(⟨[(0,aF a),(1,aF b),(5,AI (i:Nat))],[]⟩,[])) (fun i=>i<=a.length/\R=mE (a.drop i) (b.drop i)) (fun i=>a.length-i) 0 ⟨aa4 _,hR⟩ T fun i hi ih=>?_;obtain ⟨hi1,hi3⟩:=hi;refine y_ ?_
 by_cases hca:i<a.length
 ·refine aX hca fun x hx=>?_;refine ab4 (bT (l:=b) (i:=i) (by omega)) fun y hy=>?_;have hxl:=ha x (aa2 hx);have hxy:x.length=y.length:=by
   have h1:(a.map List.length)[i]? =some x.length:=by rw [ab5,hx];rfl
   have h2:(b.map List.length)[i]? =some y.length:=by rw [ab5,hy];rfl
   rw [hab,h2] at h1;injection h1 with h1;exact h1.symm
  have nx:((x.map aN).length:Int)=x.length:=by rw [aa0]
  have hs:=FY (lt:=ltRw) hx hy;have hi3:R=lexB ltRw (a.drop i) (b.drop i):=hi3;rw [hs] at hi3;refine T_ T (by show decide ((i:Int)<((a.map jU).length:Int))=true;rw [na,dT];omega) ?_;refine A.af [0,1,5,6] T ?_;refine A.ae (ι:=Nat) (fun j=>(⟨[(0,aF a),(1,aF b),(5,AI (i:Nat)),(6,AI (j:Nat))],[]⟩,[])) (fun j=>j<=x.length/\(∀q,q<j->x[q]? =y[q]?)/\lexB j8 x y=lexB j8 (x.drop j) (y.drop j)) (fun j=>x.length-j) 0 ⟨aa4 _,fun q hq=>by omega,rfl⟩ T fun j hj jh=>?_;obtain ⟨hj1,hj2,hj3⟩:=hj;refine y_ ?_;refine i_ T (aC hx) T ?_
  by_cases hcj:j<x.length
  ·refine aX hcj fun u hu=>?_;refine ab4 (bT (l:=y) (i:=j) (by omega)) fun v hv=>?_;have hs2:=FY (lt:=j8) hu hv;rw [hs2] at hj3;refine T_ T (by show decide ((j:Int)<((x.map aN).length:Int))=true;rw [nx,dT];omega) ?_;refine d_ 15 [0,1,2,3,4,5,6,7,8,9,10,11,12,13,14] [] ?_;refine gX T (aC hx) T ?_;refine gX T (aC hu) T ?_;refine gX T (aC hy) T ?_;refine gX T (aC hv) T ?_;refine z_ ?_
   by_cases huv:u=v
   ·rw [iT huv] at hj3;refine F_ T (by rw [huv];simp) ?_;refine vI 6 j ?_;refine u_ (jh (j+1) ⟨by omega,fun q hq=>?_,hj3⟩ (by omega))
    by_cases hqj:q=j
    ·rw [hqj,hu,hv,huv]
    ·exact hj2 q (by omega)
   ·rw [iF huv] at hj3;have hne:x≠y:=fun e=>huv (by rw [e,hv] at hu;injection hu with hu;exact hu.symm);rw [iF hne] at hi3;have hi3:R=lexB j8 x y:=hi3;rw [hj3] at hi3;refine T_ T (bne_iff_ne.2 huv) ?_;refine d_ 15 [0,1,2,3,4,5,6,7,8,9,10,11,12,13,14] [] ?_;refine gX T (aC hx) T ?_;refine gX T (aC hu) T ?_;refine gX T (aC hy) T ?_;refine gX T (aC hv) T ?_;refine z_ ?_;refine R_ ?_;rw [hi3];exact Sb.eq (aA (by unfold j8;rfl))
  ·have hxye:x=y:=by
    apply List.ext_getElem?;intro q
    by_cases hq:q<j
    ·exact hj2 q hq
    ·rw [ac6 (by omega),ac6 (by omega)]
   rw [iT hxye] at hi3;clear jh;refine F_ T (by show decide ((j:Int)<((x.map aN).length:Int))=false;rw [nx,dF];omega) ?_;refine vI 5 i ?_;refine u_ (ih (i+1) ⟨by omega,hi3⟩ (by omega))
 ·rw [ad3 (by omega:a.length<=i),ad3 (by omega:b.length<=i)] at hi3;clear ih;refine F_ T (by show decide ((i:Int)<((a.map jU).length:Int))=false;rw [na,dF];omega) ?_;refine R_ ?_;rw [hi3];exact .refl
theorem O8{α:Type} [DecidableEq α]{lt:α->α->Bool}{c:α}: ∀{l:List α} {i:Nat},i<=l.length->(∀(j:Nat) (y:α),j<i->l[j]? =some y->lt y c=true)->(∀y,l[i]? =some y->lt y c=false)->c∉l->kG lt l c=l.take i++[c]++l.drop i
 | [],0,_,_,_,_=>by simp [kG] | [],i+1,h,_,_,_=>by simp at h
 |y::r,0,_,_,h,hn=>by rw [kG,iF (by rw [h y T];decide),iF (fun e=>hn (by rw [e];exact .head _))];simp
 |y::r,i+1,hl,hb,h,hn=>by rw [kG,iT (hb 0 y (by omega) T),O8 (l:=r) (i:=i) (by simpa using hl) (fun j z hj hz=>hb (j+1) z (by omega) (by simpa using hz)) (fun z hz=>h z (by simpa using hz)) (fun hm=>hn (.tail _ hm))];simp
theorem a0K(k:KN)(hk:EX k)(t:TR)(ht:l6 t)(f:Int)(hw:eB k t f=0->bF k.root f.toNat<=2000):Pure prog aU 9 [eU k,lI t,AI f] (.tp [ET (tS k t f),AI (yB k t f)]):=by
 have h1:=HB k hk t f;have nt:=iS t
 by_cases he:eB k t f=0
 case neg=>
  have e2:yB k t f=eB k t f:=by unfold yB;rw [iF he]
  have e1:tS k t f=[]:=by unfold tS;rw [e2,iF he]
  rw [e1,e2];refine P_ func9 82 fun _ _ _ _=>?_;refine b_ fun b3=>?_;refine y_ ?_;refine c_ h1 ?_;refine T_ T (by show (eB k t f !=0)=true;exact bne_iff_ne.2 he) ?_;refine q_ ?_;exact s_
 have hxo:=tA he;have hu:=tM hk hxo.may hxo.unt;have hqo:zF k.vars (mP k t f) t.length (bF k.root f.toNat):=yQ hu [0,1] t _ ht (stX hxo.may);have hww:=hw he;have h2:=rof_p k hk t ht f hxo hww;rw [he] at h1;unfold tS yB;rw [he,iT T];refine eX (mP k t f) fun q hq=>?_;rw [<-hq] at h2 hqo⊢;have hlen:=hqo.len;have nq:((q.ends.map cT).length:Int)=q.ends.length:=by rw [aa0]
 cases hmi:q.miss with
 |true=>
  rw [iT T,iF (by decide)];refine P_ func9 82 fun _ _ _ _=>?_;refine b_ fun b3=>?_;refine y_ ?_;refine c_ h1 ?_;refine n_ h2 ?_;refine A.b T fun b9=>?_;refine y_ ?_;refine T_ T hmi ?_;refine q_ ?_;exact s_
 |false=>
  rw [show (if false=true then (190:Int) else 0)=0 from rfl,iT T];have hall: ∀s,s∈eT q t.length q.ends.length->bI k.vars s:=fun s hs=>by rw [eT,ac4] at hs;obtain ⟨e,he',rfl⟩:=ai0.1 hs;exact hqo.ok e (aj0.1 he').1
  have hel: ∀i,(eT q t.length i).length<=2000:=fun i=>by
   rw [eT,aa0];have h1:=List.length_filter_le (fun e=>decide (e.1=t.length)) (q.ends.take i);have h3:(q.ends.take i).length<=q.ends.length:=by rw [ac1];omega
   omega
  have hmem: ∀i s,s∈eT q t.length i->(t.length,s)∈q.ends.take i:=fun i s hs=>by obtain ⟨e,he',rfl⟩:=ai0.1 hs;have h:=aj0.1 he';have h2:=of_decide_eq_true h.2;rw [<-h2];exact h.1
  refine ab4 (show∃OT:Nat->List bA,OT=fun i=>bW mE [] (eT q t.length i) from ⟨_,rfl⟩) fun OT hOT=>?_;have hO0:OT 0=[]:=by rw [hOT];rfl
  have hOl: ∀i,(OT i).length<=2000:=fun i=>by rw [hOT];have h1:=cY (lt:=mE) (eT q t.length i) [];have h2:=hel i;simp only [List.length_nil] at h1;show (bW mE [] (eT q t.length i)).length<=_;omega
  have hOm: ∀i s,s∈OT i->(t.length,s)∈q.ends.take i:=fun i s hs=>by
   rw [hOT] at hs;rcases lV.1 hs with h|h
   ·cases h
   ·exact hmem i s h
  have hOs: ∀i s,s∈OT i->bI k.vars s:=fun i s hs=>hqo.ok _ (List.mem_of_mem_take (hOm i s hs));have hOe:OT q.ends.length=zN q t.length:=by rw [hOT];unfold zN cI;show bW mE [] (eT q t.length q.ends.length)=_;rw [eT,ac4]
  have hOn: ∀i e,q.ends[i]? =some e->e.1≠t.length->OT (i+1)=OT i:=fun i e he' hn=>by rw [hOT];show bW mE [] (eT q t.length (i+1))=bW mE [] (eT q t.length i);rw [eT,takeN he',ag5,ac0];simp [hn]
  have hOy: ∀i e,q.ends[i]? =some e->e.1=t.length->OT (i+1)=kG mE (OT i) e.2/\e.2∉OT i:=fun i e he' hn=>by
   refine ⟨?_,fun hm=>?_⟩
   ·rw [hOT];show bW mE [] (eT q t.length (i+1))=kG mE (bW mE [] (eT q t.length i)) e.2;rw [eT,takeN he',ag5,ac0];simp only [List.filter_cons,hn,decide_true,List.filter_nil,List.map_cons,List.map_nil,if_true];rw [pI]
    rfl
   ·have h:=hOm i e.2 hm;rw [<-hn] at h;have hnd:=hqo.wf.nod;obtain ⟨j,hj⟩:=List.getElem?_of_mem h;have hji:j<i:=by
     have:=(aa8.1 hj).1;rw [ac1] at this;omega
    rw [List.getElem?_take_of_lt hji] at hj;obtain ⟨a1,a2⟩:=aa8.1 hj;obtain ⟨b1,b2⟩:=aa8.1 he';exact List.pairwise_iff_getElem.1 hnd j i a1 b1 hji (a2.trans b2.symm)
  refine P_ func9 82 fun _ _ _ _=>?_;refine b_ fun b3=>?_;refine y_ ?_;refine c_ h1 ?_;refine n_ h2 ?_;refine A.b T fun b9=>?_;refine y_ ?_;refine F_ T hmi ?_;refine l_ (Λ':=[.box b9 (eK q)]) ?_;refine A.sub (U:=[(1,lI t),(9,aT b9),(10,ET (OT 0)),(11,AI ((0:Nat):Int))]) (by rw [hO0];repeat (first|exact trivial|refine ⟨⟨_,rfl,s_⟩,?_⟩)) ?_;refine A.ae (ι:=Nat) (fun i=>(⟨[(1,lI t),(9,aT b9),(10,ET (OT i)),(11,AI (i:Nat))],[]⟩,[.box b9 (eK q)])) (fun i=>i<=q.ends.length) (fun i=>q.ends.length-i) 0 (aa4 _) T fun i hi ih=>?_;have hli:=hOl i;refine y_ ?_
  by_cases hci:i<q.ends.length
  ·refine aX hci fun e he'=>?_;have hes:=hqo.ok e (aa2 he');refine T_ T (by show decide ((i:Int)<((q.ends.map cT).length:Int))=true;rw [nq,dT];omega) ?_;refine i_ T (aC he') T ?_
   by_cases hn:e.1=t.length
   ·have hoy:=hOy i e he' hn;refine F_ T (by show ((e.1:Int) !=((t.map jK).length:Int))=false;rw [nt,hn];simp) ?_;refine eX (OT i) fun l hl=>?_;rw [<-hl] at hli hoy⊢;have hls: ∀s,s∈l->bI k.vars s:=fun s hs=>hOs i s (by rw [<-hl];exact hs);have nl:((l.map aF).length:Int)=l.length:=by rw [aa0]
    refine A.af [1,9,10,11,12] T ?_;refine A.ae (ι:=Nat) (fun n=>(⟨[(1,lI t),(9,aT b9),(10,ET l),(11,AI (i:Nat)),(12,AI (n:Nat))],[]⟩,[.box b9 (eK q)])) (fun n=>n<=l.length/\ ∀j y,j<n->l[j]? =some y->mE y e.2=true) (fun n=>l.length-n) 0 ⟨aa4 _,fun j y hj=>absurd hj (Nat.not_lt_zero _)⟩ T fun n hnn nh=>?_;obtain ⟨hn1,hn2⟩:=hnn;have fin:(∀y,l[n]? =some y->mE y e.2=false)->OT (i+1)=l.take n++[e.2]++l.drop n:=fun h=>by rw [hoy.1,O8 hn1 hn2 h hoy.2]
    refine y_ ?_
    by_cases hcn:n<l.length
    ·refine aX hcn fun y hy=>?_;have hys:=hls y (aa2 hy);have hle:=S1 y e.2 (TJ hys hes) (by have:=(dX hys).1;omega) (fun r hr=>by have:=(dX hys).2 r hr;omega);refine d_ 17 [0,1,2,3,4,5,6,7,8,9,10,11,12,13,14,15,16] [(15,AB (mE y e.2))] ?_;refine oH 47 T (x':=AB true) (aA (by show decide ((n:Int)<((l.map aF).length:Int))=true;rw [nl,dT];omega)) ?_;refine gX T (aC hy) T ?_;refine gX T (aC he') T ?_;refine rL hle ?_;refine WA.nil (l:=[]) T ?_;cases hlt:mE y e.2 with
     |true=>
      refine y_ ?_;refine vI 12 n ?_;refine u_ (nh (n+1) ⟨by omega,fun j z hj hz=>?_⟩ (by omega))
      by_cases hjn:j=n
      ·subst hjn;rw [hy] at hz;injection hz with hz;rw [<-hz];exact hlt
      ·exact hn2 j z (by omega) hz
     |false=>
      have hfin:=fin (fun z hz=>by rw [hy] at hz;injection hz with hz;rw [<-hz];exact hlt);clear nh;have hol:(OT (i+1)).length<=2000:=hOl (i+1);have htk:(l.take n).length=n:=by rw [ac1];omega
      refine y_ ?_;refine A.slice (ys:=(l.take n).map aF) T T T T T T T T T (by decide) (by omega) (by rw [nl];omega) (by simp [ar5]) T ?_;refine A.aq T T T T T T T T T T T T T T (by show (0+((l.take n).map aF).length)*1<=_;rw [aa0];omega) fun z1=>?_;refine y_ ?_;refine j_ T (aC he') T ?_;refine t_ fun bl=>?_;refine A.append T T T T T T T T T T T T T T (by show (([]++(l.take n).map aF).length+1)*1<=_;rw [ag2,aa0];omega) fun z2=>?_;refine y_ ?_;refine A.slice (ys:=(l.drop n).map aF) T T T T T T T T T (by omega) (by rw [nl];omega) (ao2 _) (by rw [show ((n:Nat):Int).toNat=n from rfl,show (((l.map aF).length:Nat):Int).toNat=(l.map aF).length from rfl,ap8,aa6 (by rw [ad7];exact ab3 _)]) T ?_;refine A.append T T T T T T T T T T T T T T (by show ((([]++(l.take n).map aF)++[aF e.2]).length+((l.drop n).map aF).length)*1<=_;rw [ag2,aa1,aa0,aa0,ad7,htk];show (n+1+(l.length-n))*1<=_;omega) fun z3=>?_;refine y_ ?_;refine vI 11 i ?_;refine A.aa 10 T (x':= .sl 1 ((OT (i+1)).map aF) (some z3)) (by rw [hfin,ac0,ac0];rfl) ?_;refine l_ (Λ':=[.box b9 (eK q)]) ?_;refine A.sub (by repeat (first|exact trivial|refine ⟨⟨_,rfl,s_⟩,?_⟩)) (ih (i+1) (by omega) (by omega))
    ·have hfin:=fin (fun z hz=>by have:=(aa8.1 hz).1;omega);refine d_ 17 [0,1,2,3,4,5,6,7,8,9,10,11,12,13,14,15,16] [] ?_;refine oH 47 T (x':=AB false) (aA (by show decide ((n:Int)<((l.map aF).length:Int))=false;rw [nl,dF];omega)) ?_;refine WA.nil (l:=[]) T ?_;clear nh;have hol:(OT (i+1)).length<=2000:=hOl (i+1);have htk:(l.take n).length=n:=by rw [ac1];omega
     refine y_ ?_;refine A.slice (ys:=(l.take n).map aF) T T T T T T T T T (by decide) (by omega) (by rw [nl];omega) (by simp [ar5]) T ?_;refine A.aq T T T T T T T T T T T T T T (by show (0+((l.take n).map aF).length)*1<=_;rw [aa0];omega) fun z1=>?_;refine y_ ?_;refine j_ T (aC he') T ?_;refine t_ fun bl=>?_;refine A.append T T T T T T T T T T T T T T (by show (([]++(l.take n).map aF).length+1)*1<=_;rw [ag2,aa0];omega) fun z2=>?_;refine y_ ?_;refine A.slice (ys:=(l.drop n).map aF) T T T T T T T T T (by omega) (by rw [nl];omega) (ao2 _) (by rw [show ((n:Nat):Int).toNat=n from rfl,show (((l.map aF).length:Nat):Int).toNat=(l.map aF).length from rfl,ap8,aa6 (by rw [ad7];exact ab3 _)]) T ?_;refine A.append T T T T T T T T T T T T T T (by show ((([]++(l.take n).map aF)++[aF e.2]).length+((l.drop n).map aF).length)*1<=_;rw [ag2,aa1,aa0,aa0,ad7,htk];show (n+1+(l.length-n))*1<=_;omega) fun z3=>?_;refine y_ ?_;refine vI 11 i ?_;refine A.aa 10 T (x':= .sl 1 ((OT (i+1)).map aF) (some z3)) (by rw [hfin,ac0,ac0];rfl) ?_;refine l_ (Λ':=[.box b9 (eK q)]) ?_;refine A.sub (by repeat (first|exact trivial|refine ⟨⟨_,rfl,s_⟩,?_⟩)) (ih (i+1) (by omega) (by omega))
   ·have ho:=hOn i e he' hn;refine T_ T (by show ((e.1:Int) !=((t.map jK).length:Int))=true;rw [nt,bne_iff_ne];omega) ?_;refine vI 11 i ?_;refine A.aa 10 T (x':=ET (OT (i+1))) (by rw [ho]) ?_;refine u_ (ih (i+1) (by omega) (by omega))
  ·refine A.gF T (by show decide ((i:Int)<((q.ends.map cT).length:Int))=false;rw [nq,dF];omega) ?_;clear ih;have hii:i=q.ends.length:=by omega
   refine y_ ?_;refine q_ ?_;rw [hii,hOe];exact s_
theorem JK(k:KN)(hk:EX k)(t:TR)(ht:l6 t)(f:Int):Pure prog aU 3 [eU k,lI t,AI f] (AB true):=by
 have hh:=V2;obtain ⟨b,hgr,hfit⟩:=RY k hk t f;cases b with
 |true=>
  refine P_ func3 69 fun _ _ _ _=>?_;refine b_ fun b3=>?_;refine y_ ?_;refine c_ hgr ?_;exact oR hh
 |false=>
 have hfit:=hfit T;have h1:=IH k hk t ht f hfit.gy;have h2:=rhas_p k hk t ht f hfit.gy;have h3:=QQ k hk t ht f hfit.gy;have h4:=a0K k hk t ht f hfit.gy;have hsm:=S9 (tS k t f) (tS k t f) (fun s hs=>TK (a0d hk ht s hs)) (by have:=VI hk ht hfit.gy;omega);rw [decide_eq_true T] at hsm;refine eX (AO k t f) fun a ha=>?_;refine eX (AN k t f) fun e he=>?_;refine eX (tS k t f) fun c hc=>?_;refine eX (yB k t f) fun g hg=>?_;rw [<-ha,<-he] at h1 h2;rw [<-hc,<-hg] at h3 h4;rw [<-hc] at hsm;refine P_ func3 69 fun _ _ _ _=>?_;refine b_ fun b3=>?_;refine y_ ?_;refine c_ hgr ?_;refine c_ h1 ?_;refine c_ h2 ?_;refine c_ h3 ?_;refine c_ h4 ?_;refine e_ 51 T (x':=AB true) (aA (by show (a==a)=true;exact beq_self_eq_true _)) ?_;refine e_ 56 T (x':=AB true) (aA (by show (e==e)=true;exact beq_self_eq_true _)) ?_;refine c_ hsm ?_;refine A.aa 66 T (x':=AB true) (aA (by show (g==g)=true;exact beq_self_eq_true _)) ?_;exact oR hh
end Go.Proofs.YtenkjmjejhhdjaaGreat
namespace Go.Proofs.YtenkjmjejhhdjaaGreat
open Go Go.Tp Go.ChangeShapes Go.WideShapes Go.ChangeAt Go.RowKit
theorem own:ownKnob prog.godebug=none:=by kernel_rfl
theorem laidOut:laidOutB prog=true:=by kernel_rfl
section
variable{H:Type}{enc:TypeId×Value->H}{W:World}{base:Nat}{sp:Nat->Bool}{hd:Bool}
abbrev G6(e:KE):List AV:=[cC e.kind,cC e.oper,cC e.to,aN e.n,AI e.v, .sl 6 (bK e.l) none]
abbrev vW(p:PR):List AV:=[cC p.kind,AI p.c,AI p.v,cC p.item,DF p.to,qS p.e,zS p.gs,pN p.l]
abbrev OQ(g:GD):List AV:=[cC g.kind,cC g.cond.kind,cC g.cond.oper,cC g.cond.to,aN g.cond.n,AI g.cond.v,qS g.cond.l,AI g.c,cC g.item,AI g.to.v,qS g.to.ix,cC g.time.kind,cC g.time.oper,cC g.time.to,aN g.time.n,AI g.time.v,qS g.time.l,pN g.body]
theorem JI(l:List KE):bK l=l.map fun e=> .ag (G6 e):=by rw [xZ];congr 1;funext e;exact aK e
theorem VH(l:List PR):aS l=l.map fun e=> .ag (vW e):=by rw [yA];congr 1;funext e;exact bC e
theorem VG(l:List GD):cA l=l.map fun e=> .ag (OQ e):=by rw [pY];congr 1;funext e;exact cK e
abbrev OkE(e:KE):Prop:=l5 e/\N0 e
abbrev T0(p:PL):Prop:=tU p/\smP p
abbrev OkR(p:PR):Prop:=xQ p/\sS p
abbrev OkG(g:GD):Prop:=ZG g/\smG g
theorem BA: ∀{l:List KE},(∀a,a∈l->OkE a)->nJ l/\N1 l
 | [],_=>by rw [nJ,N1];exact ⟨trivial,trivial⟩ |x::r,h=>by have h1:=h x (aa5 ..);have h2:=BA (l:=r) fun a ha=>h a (ab9 _ ha);rw [nJ,N1];exact ⟨⟨h1.1,h2.1⟩,⟨h1.2,h2.2⟩⟩
theorem HU: ∀{l:List PR},(∀a,a∈l->OkR a)->zE l/\y7 l
 | [],_=>by rw [zE,y7];exact ⟨trivial,trivial⟩ |x::r,h=>by have h1:=h x (aa5 ..);have h2:=HU (l:=r) fun a ha=>h a (ab9 _ ha);rw [zE,y7];exact ⟨⟨h1.1,h2.1⟩,⟨h1.2,h2.2⟩⟩
theorem PW: ∀{l:List GD},(∀a,a∈l->OkG a)->AY l/\AW l
 | [],_=>by rw [AY,AW];exact ⟨trivial,trivial⟩ |x::r,h=>by have h1:=h x (aa5 ..);have h2:=PW (l:=r) fun a ha=>h a (ab9 _ ha);rw [AY,AW];exact ⟨⟨h1.1,h2.1⟩,⟨h1.2,h2.2⟩⟩
theorem P1: ∀n,gM enc prog W base sp hd n 80 G6 OkE
 |0=>gM.zero |n+1=>by
  have ih:=P1 n;have hl:=(gM.db (t:=27) (sz:=6) (bt:=40) (by kernel_rfl) (by kernel_rfl) (by kernel_rfl) (by decide) ih).mono (ak5 n)
  have hf:=fZ.cons (f:=⟨"Kind",77,0,false, "", "",0⟩) (gM.u8 (by kernel_rfl) n) T 1 (by kernel_rfl) (fZ.cons (f:=⟨"Oper",78,1,false, "", "",1⟩) (gM.u8 (by kernel_rfl) n) T 1 (by kernel_rfl)
   (fZ.cons (f:=⟨"To",25,2,false, "", "",2⟩) (gM.u8 (by kernel_rfl) n) T 1 (by kernel_rfl) (fZ.cons (f:=⟨"N",21,3,false, "", "",4⟩) (gM.i32 (by kernel_rfl) n) T 1 (by kernel_rfl)
   (fZ.cons (f:=⟨"V",3,4,false, "", "",8⟩) (gM.i64 (by kernel_rfl) n) T 1 (by kernel_rfl) (fZ.cons (f:=⟨"L",27,5,false, "", "",16⟩) hl T 1 (by kernel_rfl) fZ.nil)))))
  refine (gM.struct (t:=80) (sz:=6) (fs:= #[⟨"Kind",77,0,false, "", "",0⟩,⟨"Oper",78,1,false, "", "",1⟩,⟨"To",25,2,false, "", "",2⟩,⟨"N",21,3,false, "", "",4⟩,⟨"V",3,4,false, "", "",8⟩,⟨"L",27,5,false, "", "",16⟩]) (by kernel_rfl) (by kernel_rfl) hf (by kernel_rfl)).map (fun p=>⟨p.1,p.2.1,p.2.2.1,p.2.2.2.1,p.2.2.2.2.1,p.2.2.2.2.2.1⟩) (fun p=>?_) (fun p hp=>?_)
  ·show G6 _=[_]++([_]++([_]++([_]++([_]++([AV.sl 6 _ none]++[])))));rw [<-JI];rfl
  ·obtain ⟨k,o,t,n,s,l,u⟩:=p;obtain ⟨h1,h2,h3,h4,h5,⟨h6,h7⟩,_⟩:=hp;have h8:=BA h6;unfold reachBytes at h7;refine ⟨?_,?_⟩
   ·rw [l5];exact ⟨⟨h1,h2,h3,h4,h5⟩,h8.1⟩
   ·rw [N0];exact ⟨ae9 h7 (by decide),h8.2⟩
theorem XE(n:Nat):gM enc prog W base sp hd n 27 (fun l:List KE=>[qS l]) (fun l=>(∀x,x∈l->OkE x)/\l.length*40<=140737488355328):=by refine ((gM.db (t:=27) (sz:=6) (bt:=40) (by kernel_rfl) (by kernel_rfl) (by kernel_rfl) (by decide) (P1 n)).mono (ak5 n)).map (fun l=>l) (fun l=>?_) (fun l h=>⟨h.1,by have:=h.2;unfold reachBytes at this;exact ae9 this (by decide)⟩);show [AV.sl 6 (bK l) none]=_;rw [JI]
theorem op_pl(n:Nat):gM enc prog W base sp hd n 82 (fun p:PL=>[AI p.v,qS p.ix]) T0:=by
 have hf:=fZ.cons (f:=⟨"V",3,0,false, "", "",0⟩) (gM.i64 (enc:=enc) (P:=prog) (W:=W) (base:=base) (sp:=sp) (hd:=hd) (by kernel_rfl) n) T 1 (by kernel_rfl) (fZ.cons (f:=⟨"Index",27,1,false, "", "",8⟩) (XE n) T 1 (by kernel_rfl) fZ.nil)
 exact ((gM.struct (t:=82) (sz:=2) (fs:= #[⟨"V",3,0,false, "", "",0⟩,⟨"Index",27,1,false, "", "",8⟩]) (by kernel_rfl) (by kernel_rfl) hf (by kernel_rfl)).mono (ak5 n)).map (fun p=>⟨p.1,p.2.1⟩) (fun p=>rfl) (fun p hp=>⟨(BA hp.2.1.1).1,hp.2.1.2,fun x hx=>(hp.2.1.1 x hx).2⟩)
theorem op_pls(n:Nat):gM enc prog W base sp hd n 26 (fun l:List PL=>[DF l]) (fun l=>(∀t,t∈l->T0 t)/\l.length*32<=140737488355328):=
 ((gM.db (t:=26) (sz:=2) (bt:=32) (by kernel_rfl) (by kernel_rfl) (by kernel_rfl) (by decide) (op_pl n)).mono (ak5 n)).map (fun l=>l) (fun l=>rfl) (fun l h=>⟨h.1,by have:=h.2;unfold reachBytes at this;exact ae9 this (by decide)⟩)
theorem XF{n:Nat}(ih:gM enc prog W base sp hd n 31 vW OkR):gM enc prog W base sp hd n 29 (fun l:List PR=>[pN l]) (fun l=>(∀t,t∈l->OkR t)/\l.length*128<=140737488355328):=by refine ((gM.db (t:=29) (sz:=8) (bt:=128) (by kernel_rfl) (by kernel_rfl) (by kernel_rfl) (by decide) ih).mono (ak5 n)).map (fun l=>l) (fun l=>?_) (fun l h=>⟨h.1,by have:=h.2;unfold reachBytes at this;exact ae9 this (by decide)⟩);show [AV.sl 8 (aS l) none]=_;rw [VH]
theorem op_gd{n:Nat}(ih:gM enc prog W base sp hd n 31 vW OkR):gM enc prog W base sp hd n 84 OQ OkG:=by
 have hf:=fZ.cons (f:=⟨"Kind",76,0,false, "", "",0⟩) (gM.u8 (enc:=enc) (P:=prog) (W:=W) (base:=base) (sp:=sp) (hd:=hd) (by kernel_rfl) n) T 1 (by kernel_rfl) (fZ.cons (f:=⟨"Cond",80,1,false, "", "",8⟩) (P1 n) T 6 (by kernel_rfl)
  (fZ.cons (f:=⟨"C",3,7,false, "", "",48⟩) (gM.i64 (by kernel_rfl) n) T 1 (by kernel_rfl) (fZ.cons (f:=⟨"Item",25,8,false, "", "",56⟩) (gM.u8 (by kernel_rfl) n) T 1 (by kernel_rfl)
  (fZ.cons (f:=⟨"To",82,9,false, "", "",64⟩) (op_pl n) T 2 (by kernel_rfl) (fZ.cons (f:=⟨"Time",80,11,false, "", "",96⟩) (P1 n) T 6 (by kernel_rfl)
  (fZ.cons (f:=⟨"Body",29,17,false, "", "",136⟩) (XF ih) T 1 (by kernel_rfl) fZ.nil))))))
 refine ((gM.struct (t:=84) (sz:=18) (fs:= #[⟨"Kind",76,0,false, "", "",0⟩,⟨"Cond",80,1,false, "", "",8⟩,⟨"C",3,7,false, "", "",48⟩,⟨"Item",25,8,false, "", "",56⟩,⟨"To",82,9,false, "", "",64⟩,⟨"Time",80,11,false, "", "",96⟩,⟨"Body",29,17,false, "", "",136⟩]) (by kernel_rfl) (by kernel_rfl) hf (by kernel_rfl)).mono (ak5 n)).map (fun p=>⟨p.1,p.2.1,p.2.2.1,p.2.2.2.1,p.2.2.2.2.1,p.2.2.2.2.2.1,p.2.2.2.2.2.2.1⟩) (fun p=>rfl) (fun p hp=>?_)
 obtain ⟨h1,h2,h3,h4,h5,h6,⟨h7,h8⟩,_⟩:=hp;have h9:=HU h7;refine ⟨?_,?_⟩
 ·rw [ZG];exact ⟨⟨h2.1,h6.1,h5.1⟩,h9.1⟩
 ·rw [smG];exact ⟨⟨h2.2,h6.2,h5.2,h8⟩,h9.2⟩
theorem op_gds{n:Nat}(ih:gM enc prog W base sp hd n 31 vW OkR):gM enc prog W base sp hd n 28 (fun l:List GD=>[zS l]) (fun l=>(∀t,t∈l->OkG t)/\l.length*160<=140737488355328):=by refine ((gM.db (t:=28) (sz:=18) (bt:=160) (by kernel_rfl) (by kernel_rfl) (by kernel_rfl) (by decide) (op_gd ih)).mono (ak5 n)).map (fun l=>l) (fun l=>?_) (fun l h=>⟨h.1,by have:=h.2;unfold reachBytes at this;exact ae9 this (by decide)⟩);show [AV.sl 18 (cA l) none]=_;rw [VG]
theorem op_pr: ∀n,gM enc prog W base sp hd n 31 vW OkR
 |0=>gM.zero |n+1=>by
  have ih:=op_pr n
  have hf:=fZ.cons (f:=⟨"Kind",24,0,false, "", "",0⟩) (gM.u8 (enc:=enc) (P:=prog) (W:=W) (base:=base) (sp:=sp) (hd:=hd) (by kernel_rfl) n) T 1 (by kernel_rfl) (fZ.cons (f:=⟨"C",3,1,false, "", "",8⟩) (gM.i64 (by kernel_rfl) n) T 1 (by kernel_rfl)
   (fZ.cons (f:=⟨"V",3,2,false, "", "",16⟩) (gM.i64 (by kernel_rfl) n) T 1 (by kernel_rfl) (fZ.cons (f:=⟨"Item",25,3,false, "", "",24⟩) (gM.u8 (by kernel_rfl) n) T 1 (by kernel_rfl)
   (fZ.cons (f:=⟨"To",26,4,false, "", "",32⟩) (op_pls n) T 1 (by kernel_rfl) (fZ.cons (f:=⟨"E",27,5,false, "", "",56⟩) (XE n) T 1 (by kernel_rfl)
   (fZ.cons (f:=⟨"Guards",28,6,false, "", "",80⟩) (op_gds ih) T 1 (by kernel_rfl) (fZ.cons (f:=⟨"L",29,7,false, "", "",104⟩) (XF ih) T 1 (by kernel_rfl) fZ.nil)))))))
  refine (gM.struct (t:=31) (sz:=8) (fs:= #[⟨"Kind",24,0,false, "", "",0⟩,⟨"C",3,1,false, "", "",8⟩,⟨"V",3,2,false, "", "",16⟩,⟨"Item",25,3,false, "", "",24⟩,⟨"To",26,4,false, "", "",32⟩,⟨"E",27,5,false, "", "",56⟩,⟨"Guards",28,6,false, "", "",80⟩,⟨"L",29,7,false, "", "",104⟩]) (by kernel_rfl) (by kernel_rfl) hf (by kernel_rfl)).map (fun p=>⟨p.1,p.2.1,p.2.2.1,p.2.2.2.1,p.2.2.2.2.1,p.2.2.2.2.2.1,p.2.2.2.2.2.2.1,p.2.2.2.2.2.2.2.1⟩) (fun p=>rfl) (fun p hp=>?_)
  obtain ⟨h1,h2,h3,h4,⟨h5,h5'⟩,⟨h6,h6'⟩,⟨h7,h7'⟩,⟨h8,h8'⟩,_⟩:=hp;have h9:=HU h8;have h10:=PW h7;refine ⟨?_,?_⟩
  ·rw [xQ];exact ⟨⟨fun t ht=>(h5 t ht).1,(BA h6).1,by omega,by omega,by omega⟩,h10.1,h9.1⟩
  ·rw [sS];exact ⟨⟨fun t ht=>(h5 t ht).2,fun x hx=>(h6 x hx).2,h5',h6',h7',h8'⟩,h10.2,h9.2⟩
theorem a0A(n:Nat):gM enc prog W base sp hd n 22 (fun l:List KV=>[jA l]) (fun l=>l.length<=281474976710656):=by
 have hf:=fZ.cons (f:=⟨"Kind",25,0,false, "", "",0⟩) (gM.u8 (enc:=enc) (P:=prog) (W:=W) (base:=base) (sp:=sp) (hd:=hd) (by kernel_rfl) n) T 1 (by kernel_rfl) (fZ.cons (f:=⟨"Dim",3,1,false, "", "",8⟩) (gM.i64 (by kernel_rfl) n) T 1 (by kernel_rfl) fZ.nil)
 have hv:gM enc prog W base sp hd n 86 (fun v:KV=>[cC v.kind,AI v.dim]) (fun _=>True):=((gM.struct (t:=86) (sz:=2) (fs:= #[⟨"Kind",25,0,false, "", "",0⟩,⟨"Dim",3,1,false, "", "",8⟩]) (by kernel_rfl) (by kernel_rfl) hf (by kernel_rfl)).mono (ak5 n)).map (fun p=>⟨p.1,p.2.1⟩) (fun p=>rfl) (fun p hp=>trivial)
 exact ((gM.db (t:=22) (sz:=2) (bt:=16) (by kernel_rfl) (by kernel_rfl) (by kernel_rfl) (by decide) hv).mono (ak5 n)).map (fun l=>l) (fun l=>rfl) (fun l h=>by have:=h.2;unfold reachBytes at this;omega)
theorem XD(n:Nat):gM enc prog W base sp hd n 23 (fun l:List Int=>[RJ l]) (fun l=>l.length<=281474976710656):=
 ((gM.gv (t:=23) (e:=87) (bt:=1) (by kernel_rfl) (by kernel_rfl) (by kernel_rfl) (gM.u8 (by kernel_rfl) n)).mono (ak5 n)).map (fun l=>l) (fun l=>rfl) (fun l h=>by have:=h.2;unfold reachBytes at this;omega)
theorem a0z(n:Nat):gM enc prog W base sp hd n 32 (fun l:List Int=>[aQ l]) (fun l=>l.length<=281474976710656):=
 ((gM.gv (t:=32) (e:=3) (bt:=8) (by kernel_rfl) (by kernel_rfl) (by kernel_rfl) (gM.i64 (by kernel_rfl) n)).mono (ak5 n)).map (fun l=>l) (fun l=>rfl) (fun l h=>by have:=h.2;unfold reachBytes at this;omega)
abbrev cellsN(k:KN):List AV:=[jA k.vars,RJ k.chans,cC k.root.kind,AI k.root.c,AI k.root.v,cC k.root.item,DF k.root.to,qS k.root.e,zS k.root.gs,pN k.root.l,aQ k.procs]
theorem SM(n:Nat):gM enc prog W base sp hd n 34 cellsN EX:=by
 have hf:=fZ.cons (f:=⟨"Vars",22,0,false, "", "",0⟩) (a0A (enc:=enc) (W:=W) (base:=base) (sp:=sp) (hd:=hd) n) T 1 (by kernel_rfl) (fZ.cons (f:=⟨"Chans",23,1,false, "", "",24⟩) (XD n) T 1 (by kernel_rfl)
  (fZ.cons (f:=⟨"Root",31,2,false, "", "",48⟩) (op_pr n) T 8 (by kernel_rfl) (fZ.cons (f:=⟨"Procs",32,10,false, "", "",176⟩) (a0z n) T 1 (by kernel_rfl) fZ.nil)))
 refine ((gM.struct (t:=34) (sz:=11) (fs:= #[⟨"Vars",22,0,false, "", "",0⟩,⟨"Chans",23,1,false, "", "",24⟩,⟨"Root",31,2,false, "", "",48⟩,⟨"Procs",32,10,false, "", "",176⟩]) (by kernel_rfl) (by kernel_rfl) hf (by kernel_rfl)).mono (ak5 n)).map (fun p=>⟨p.1,p.2.1,p.2.2.1,p.2.2.2.1⟩) (fun p=>rfl) (fun p hp=>?_)
 obtain ⟨h1,h2,h3,h4,_⟩:=hp;exact ⟨⟨h1,h2,h4,h3.1⟩,h3.2⟩
theorem ZM{v:Value}{d:DataW H}{p:List MemPlace}(hval:Value.okWide prog W .any base 34 v)(h:DataW.Trod enc prog W 0 (fun _=>true) true 34 v d p)(hw:Wt prog 34 d):
 ∃k:KN,EX k/\Rp (CK W) (eU k) v:=by
 obtain ⟨k,h1,h2⟩:=L7 (fs:= #[⟨"Vars",22,0,false, "", "",0⟩,⟨"Chans",23,1,false, "", "",24⟩,⟨"Root",31,2,false, "", "",48⟩,⟨"Procs",32,10,false, "", "",176⟩]) (by kernel_rfl) SM hval h hw
 exact ⟨k,h1,h2⟩
end
section
variable{H:Type}{enc:TypeId×Value->H}{W:World}{base:Nat}{sp:Nat->Bool}{hd:Bool}
theorem op_evs(n:Nat):gM enc prog W base sp hd (n+1) 35 (fun l:TR=>[lI l]) (fun l=>l6 l/\l.length<=281474976710656):=by
 have hf:=fZ.cons (f:=⟨"C",3,0,false, "", "",0⟩) (gM.i64 (enc:=enc) (P:=prog) (W:=W) (base:=base) (sp:=sp) (hd:=hd) (by kernel_rfl) n) T 1 (by kernel_rfl) (fZ.cons (f:=⟨"V",21,1,false, "", "",8⟩) (gM.i32 (by kernel_rfl) n) T 1 (by kernel_rfl) fZ.nil)
 have hv:gM enc prog W base sp hd n 54 (fun v:EL=>[AI v.1,aN v.2]) (fun v=>i32 v.2):=((gM.struct (t:=54) (sz:=2) (fs:= #[⟨"C",3,0,false, "", "",0⟩,⟨"V",21,1,false, "", "",8⟩]) (by kernel_rfl) (by kernel_rfl) hf (by kernel_rfl)).mono (ak5 n)).map (fun p=>⟨p.1,p.2.1⟩) (fun p=>rfl) (fun p hp=>hp.2.1)
 exact (gM.db (t:=35) (sz:=2) (bt:=16) (by kernel_rfl) (by kernel_rfl) (by kernel_rfl) (by decide) hv).map (fun l=>l) (fun l=>rfl) (fun l h=>⟨h.1,by have:=h.2;unfold reachBytes at this;omega⟩)
theorem argTr{v:Value}{d:DataW H}{p:List MemPlace}(hval:Value.okWide prog W .any base 35 v)(h:DataW.Trod enc prog W 0 (fun _=>true) true 35 v d p)(hw:Wt prog 35 d):
 ∃l:TR,(l6 l/\l.length<=281474976710656)/\Rp (CK W) (lI l) v:=by
 obtain ⟨l,h1,h3⟩:=RC (e:=54) (t:=35) (en:=fun l:TR=>lI l) (by kernel_rfl) (fun n=>(op_evs n).mono (ak5 n)) hval h hw;exact ⟨l,h1,h3⟩
theorem argI{v:Value}{d:DataW H}{p:List MemPlace}(hval:Value.okWide prog W .any base 3 v)(h:DataW.Trod enc prog W 0 (fun _=>true) true 3 v d p)(hw:Wt prog 3 d): ∃n,i64 n/\Rp (CK W) (AI n) v:=
 ZN (by kernel_rfl) (fun n=>gM.i64 (by kernel_rfl) n) hval h hw
end
theorem big_k2:mapsRowed Tryz.pinned.checked.prog=true:=by kernel_rfl
theorem ZQ:Tryz.pinned.checked.prog.stopsHeard=true:=by kernel_rfl
theorem ZR:Tryz.pinned.checked.prog.mayEnter=true:=by kernel_rfl
theorem ZS:Tryz.pinned.checked.prog.liftsFinal=Rows.traceExactRow.lifted:=by kernel_rfl
theorem ZT:Tryz.pinned.checked.prog.make=some Rows.traceExactRow.make:=by kernel_rfl
theorem ZP:Tryz.pinned.checked.prog.plainKeys=Rows.traceExactRow.plainKeys:=by kernel_rfl
end Go.Proofs.YtenkjmjejhhdjaaGreat
