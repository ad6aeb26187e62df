/-
  Texts Q19aj. Conditions: as each theorem says.
-/
import Derived.Test.YtkbolbpojpmicaaGreatWa3
import Derived.Test.YtkbolbpojpmicaaGreatWa9
import Derived.Test.YtkbolbpojpmicaaGreatWa8
set_option linter.unusedVariables false
set_option linter.unusedSimpArgs false
set_option maxRecDepth 100000
set_option maxHeartbeats 4000000
namespace Go.Proofs.YtkbolbpojpmicaaGreat
open Go Go.Tp
abbrev skP:PR:=⟨1,0,0,0,[],[],[],[]⟩
abbrev sqP(a b:PR):PR:=⟨9,0,0,0,[],[],[],[a,b]⟩
abbrev sqK(k:KN)(a b:PR):KN:=⟨k.vars,k.chans,sqP a b,[]⟩
theorem sq_sm{k:KN}(hk:SmN k){a b:PR}(ha:wfR a/\smR a)(hb:wfR b/\smR b):SmN (sqK k a b) where
 wf:=⟨hk.wf.vars,hk.wf.chans,by show 0<=_;decide,by
  show wfR (sqP a b)
  simp [wfR,wfRl,wfGl,wfKl,Go.Tp.u8,i64,ha.1,hb.1]⟩
 root:=by
  show smR (sqP a b)
  simp [smR,smRl,smGl,ha.2,hb.2]
theorem sk_wf:wfR skP/\smR skP:=⟨by simp [wfR,wfRl,wfGl,wfKl,Go.Tp.u8,i64],by simp [smR,smRl,smGl,smKl]⟩
theorem unt_sq(a b:PR):untR (sqP a b)=(untR a&&untR b):=by
 rw [untR_eq]
 show (!((9:Int)==7||(9:Int)==8)&&(untL [a,b]&&untGs []))=_
 simp [untL,untGs]
theorem run_skP(f:Nat)(op:List Int)(t:TR)(s:Sto):runR f op t s skP=finR s:=by rw [runR_eq];exact if_pos rfl
theorem run_sq(f:Nat)(op:List Int)(t:TR)(s:Sto)(a b:PR):runR f op t s (sqP a b)=seqR19 f op t s [a,b]:=by
 rw [runR_eq,if_neg (by decide),if_neg (by decide),if_neg (by decide),if_neg (by decide),if_neg (by decide),if_pos (by decide)]
theorem run_one(f:Nat)(op:List Int)(t:TR)(s:Sto)(p:PR):runR f op t s (sqP skP p)=runR f op t s p:=by
 have hw:=(run19 p).wf f op t s
 have h1:seqR19 f op t s [p]=runR f op t s p:=by
  rw [seqR19]
  have e:(fun (n:Nat) (s':Sto)=>seqR19 f op (t.drop n) s' [])=fun _ s=>finR s:=by funext n s';rw [seqR19]
  rw [e]
  exact skip_behind hw
 rw [run_sq,seqR19,run_skP]
 exact skip_before hw s _ (by show seqR19 f op (t.drop 0) s [p]=_;rw [List.drop_zero];exact h1)
theorem run_two(f:Nat)(op:List Int)(t:TR)(s:Sto)(p:PR):runR f op t s (sqP p skP)=runR f op t s p:=by
 have hw:=(run19 p).wf f op t s
 rw [run_sq,seqR19]
 have e:(fun (n:Nat) (s':Sto)=>seqR19 f op (t.drop n) s' [skP])=fun _ s=>finR s:=by
  funext n s'
  rw [seqR19,run_skP]
  have e2:(fun (m:Nat) (s'':Sto)=>seqR19 f op ((t.drop n).drop m) s'' [])=fun _ s=>finR s:=by funext m s'';rw [seqR19]
  rw [e2]
  exact skip_behind (wf_fin s' 0)
 rw [e]
 exact skip_behind hw
theorem way_one(f:Nat)(p:PR):wayR (sqP skP p) f=wayR p f:=by
 rw [wayR_eq,if_pos (.inl rfl),wayL,wayL,wayL,wayR_eq]
 simp
theorem way_two(f:Nat)(p:PR):wayR (sqP p skP) f=wayR p f:=by
 rw [wayR_eq,if_pos (.inl rfl),wayL,wayL,wayL,wayR_eq 1]
 simp
structure SameK(k k':KN)(t:TR)(f:Int):Prop where
 err:errX k' t f=errX k t f
 run:errX k t f=0->runX k' t f=runX k t f
theorem same_hasX{k k':KN}{t:TR}{f:Int}(h:SameK k k' t f):hasX k' t f=hasX k t f:=by
 unfold hasX
 rw [h.err]
 by_cases he:errX k t f=0
 ·rw [h.run he]
 ·rw [beq_eq_false_iff_ne.2 he,Bool.false_and,Bool.false_and]
theorem same_hasE{k k':KN}{t:TR}{f:Int}(h:SameK k k' t f):hasE k' t f=hasE k t f:=by
 unfold hasE
 rw [h.err]
 by_cases he:errX k t f=0
 ·rw [h.run he]
 ·rw [if_neg he,if_neg he]
theorem same_endE{k k':KN}{t:TR}{f:Int}(h:SameK k k' t f):endE k' t f=endE k t f:=by
 unfold endE
 rw [h.err]
 by_cases he:errX k t f=0
 ·rw [h.run he]
 ·rw [if_neg he,if_neg he]
theorem same_endX{k k':KN}{t:TR}{f:Int}(h:SameK k k' t f):endX k' t f=endX k t f:=by
 unfold endX
 rw [same_endE h]
 by_cases he:endE k t f=0
 ·rw [h.run (endE_ok he).1]
 ·rw [if_neg he,if_neg he]
theorem same_one{k:KN}(hm:mayK k=true)(hm1:mayK (sqK k skP k.root)=true)(t:TR)(f:Int):SameK k (sqK k skP k.root) t f where
 err:=by
  unfold errX
  rw [hm,hm1,show untR (sqK k skP k.root).root=untR k.root from by show untR (sqP skP k.root)=_;rw [unt_sq];rfl]
 run h:=run_one _ _ _ _ _
theorem same_two{k:KN}(hm:mayK k=true)(hm1:mayK (sqK k k.root skP)=true)(t:TR)(f:Int):SameK k (sqK k k.root skP) t f where
 err:=by
  unfold errX
  rw [hm,hm1,show untR (sqK k k.root skP).root=untR k.root from by show untR (sqP k.root skP)=_;rw [unt_sq];exact Bool.and_true _]
 run h:=run_two _ _ _ _ _
abbrev sqA(k:KN)(a b:PR):AV:= .ag [varsA k.vars,chsA k.chans,AU8 9,AI 0,AI 0,AU8 0,plsA [],kesA [],gsA [], .sl 8 [cellsR a,cellsR b] none,intsA []]
theorem sq_enc(k:KN)(a b:PR):encN (sqK k a b)=sqA k a b:=by
 show AV.ag [varsA k.vars,chsA k.chans,AU8 9,AI 0,AI 0,AU8 0,plsA [],kesA [],gsA [], .sl 8 (encRl [a,b]) none,intsA []]=_
 rw [encRl_cons19,encRl_cons19];rfl
theorem skip19_law(k:KN)(hk:SmN k)(t:TR)(ht:TrI t)(f:Int):Pure Tryz.prog gs0 8 [encN k,trA t,AI f] (AB true):=by
 have hh:=head19_p
 obtain ⟨b,hgr,hfit⟩:=great19_p k hk t f
 cases b with
 |true=>
  refine p_ tt_ok Tryz.func8 141 fun w0 h0 F hgs=>?_
  (repeat refine A.s rfl ?_)
  refine A.b rfl fun b3=>?_
  refine y_ ?_
  refine c_ hgr ?_
  exact cr_ hh
 |false=>
 have hfit:=hfit rfl
 have hmay:=rmay16_p k hk.wf
 by_cases hm:mayK k=true
 case neg=>
  have hm:mayK k=false:=by simpa using hm
  rw [hm] at hmay
  refine p_ tt_ok Tryz.func8 141 fun w0 h0 F hgs=>?_
  (repeat refine A.s rfl ?_)
  refine A.b rfl fun b3=>?_
  refine y_ ?_
  refine c_ hgr ?_
  refine c_ hmay ?_
  exact cr_ hh
 rw [hm] at hmay
 have s1:=sq_sm hk sk_wf ⟨hk.wf.root,hk.root⟩
 have s2:=sq_sm hk ⟨hk.wf.root,hk.root⟩ sk_wf
 have m1:=rmay16_p _ s1.wf
 have m2:=rmay16_p _ s2.wf
 by_cases hm1:mayK (sqK k skP k.root)=true
 case neg=>
  have hm1:mayK (sqK k skP k.root)=false:=by simpa using hm1
  rw [hm1,sq_enc] at m1
  refine p_ tt_ok Tryz.func8 141 fun w0 h0 F hgs=>?_
  (repeat refine A.s rfl ?_)
  refine A.b rfl fun b3=>?_
  refine y_ ?_
  refine c_ hgr ?_
  refine n_ hmay ?_
  (refine b_ fun bx=>?_;refine y_ ?_)
  refine A.draw 6 [0,1,2,3,4,5] (fun i=>if i=4 then [2] else if i=5 then [3] else []) [] (by kernel_rfl) (by kernel_rfl) ?_
  refine w_ ?_
  refine WA.alloc rfl rfl rfl rfl rfl rfl rfl rfl fun b8=>?_
  refine WA.alloc rfl rfl rfl rfl rfl rfl rfl rfl fun b9=>?_
  refine WA.store rfl rfl rfl rfl rfl rfl rfl rfl rfl rfl ?_
  refine WA.store rfl rfl rfl rfl rfl rfl rfl rfl rfl rfl ?_
  refine WA.nil (l:=[_,_]) rfl ?_
  (refine t_ fun bl=>?_;refine t_ fun bl=>?_;refine y_ ?_)
  refine c_ m1 ?_
  exact cr_ hh
 by_cases hm2:mayK (sqK k k.root skP)=true
 case neg=>
  have hm2:mayK (sqK k k.root skP)=false:=by simpa using hm2
  rw [hm2,sq_enc] at m2
  rw [hm1,sq_enc] at m1
  refine p_ tt_ok Tryz.func8 141 fun w0 h0 F hgs=>?_
  (repeat refine A.s rfl ?_)
  refine A.b rfl fun b3=>?_
  refine y_ ?_
  refine c_ hgr ?_
  refine n_ hmay ?_
  (refine b_ fun bx=>?_;refine y_ ?_)
  refine A.draw 6 [0,1,2,3,4,5] (fun i=>if i=4 then [2] else if i=5 then [3] else []) [] (by kernel_rfl) (by kernel_rfl) ?_
  refine w_ ?_
  refine WA.alloc rfl rfl rfl rfl rfl rfl rfl rfl fun b8=>?_
  refine WA.alloc rfl rfl rfl rfl rfl rfl rfl rfl fun b9=>?_
  refine WA.store rfl rfl rfl rfl rfl rfl rfl rfl rfl rfl ?_
  refine WA.store rfl rfl rfl rfl rfl rfl rfl rfl rfl rfl ?_
  refine WA.nil (l:=[_,_]) rfl ?_
  (refine t_ fun bl=>?_;refine t_ fun bl=>?_;refine y_ ?_)
  refine c_ m1 ?_
  refine c_ m2 ?_
  exact cr_ hh
 have e1:=same_one hm hm1 t f
 have e2:=same_two hm hm2 t f
 have h1:=thas_p k hk t ht f hfit.way0
 have h2:=tends_p k hk t ht f hfit.way0
 have h3:=thas_p _ s1 t ht f (fun he=>by show wayR (sqP skP k.root) _<=_;rw [way_one];exact hfit.way0 (by rw [<-e1.err];exact he))
 have h4:=tends_p _ s1 t ht f (fun he=>by show wayR (sqP skP k.root) _<=_;rw [way_one];exact hfit.way0 (by rw [<-e1.err];exact he))
 have h5:=thas_p _ s2 t ht f (fun he=>by show wayR (sqP k.root skP) _<=_;rw [way_two];exact hfit.way0 (by rw [<-e2.err];exact he))
 have h6:=tends_p _ s2 t ht f (fun he=>by show wayR (sqP k.root skP) _<=_;rw [way_two];exact hfit.way0 (by rw [<-e2.err];exact he))
 rw [same_hasX e1,same_hasE e1,sq_enc] at h3
 rw [same_endX e1,same_endE e1,sq_enc] at h4
 rw [same_hasX e2,same_hasE e2,sq_enc] at h5
 rw [same_endX e2,same_endE e2,sq_enc] at h6
 have hsm:=sameAll_p (endX k t f) (endX k t f) (fun s hs=>sto_short (endX_ok hk ht s hs)) (by have:=endX_len hk ht hfit.way0;omega)
 rw [decide_eq_true rfl] at hsm
 rw [hm1,sq_enc] at m1
 rw [hm2,sq_enc] at m2
 generalize hasX k t f=A0 at*
 generalize hasE k t f=E0 at*
 generalize endX k t f=C0 at*
 generalize endE k t f=G0 at*
 refine p_ tt_ok Tryz.func8 141 fun w0 h0 F hgs=>?_
 (repeat refine A.s rfl ?_)
 refine A.b rfl fun b3=>?_
 refine y_ ?_
 refine c_ hgr ?_
 refine n_ hmay ?_
 (refine b_ fun bx=>?_;refine y_ ?_)
 refine A.draw 6 [0,1,2,3,4,5] (fun i=>if i=4 then [2] else if i=5 then [3] else []) [] (by kernel_rfl) (by kernel_rfl) ?_
 refine w_ ?_
 refine WA.alloc rfl rfl rfl rfl rfl rfl rfl rfl fun b8=>?_
 refine WA.alloc rfl rfl rfl rfl rfl rfl rfl rfl fun b9=>?_
 refine WA.store rfl rfl rfl rfl rfl rfl rfl rfl rfl rfl ?_
 refine WA.store rfl rfl rfl rfl rfl rfl rfl rfl rfl rfl ?_
 refine WA.nil (l:=[_,_]) rfl ?_
 (refine t_ fun bl=>?_;refine t_ fun bl=>?_;refine y_ ?_)
 refine c_ m1 ?_
 refine c_ m2 ?_
 refine c_ h1 ?_
 refine c_ h3 ?_
 refine c_ h5 ?_
 refine c_ h2 ?_
 refine c_ h4 ?_
 refine c_ h6 ?_
 refine T_ rfl (by simp) ?_
 refine T_ rfl (by simp) ?_
 refine T_ rfl (by simp) ?_
 refine T_ rfl (by simp) ?_
 refine c_ hsm ?_
 refine c_ hsm ?_
 refine T_ rfl (by simp) ?_
 refine A.gT rfl (by simp) ?_
 exact cr_ hh
end Go.Proofs.YtkbolbpojpmicaaGreat
