/-
  Texts Q19aj Q19ak. Conditions: as each theorem says.
-/
import Derived.Test.YtkbolbpojpmicaaGreatWb3
import Derived.Test.YtkbolbpojpmicaaGreatWb9
import Derived.Test.YtkbolbpojpmicaaGreatWb8
set_option linter.unusedVariables false
set_option linter.unusedSimpArgs false
set_option maxRecDepth 100000
set_option maxHeartbeats 4000000
namespace Go.Proofs.YtkbolbpojpmicaaGreat
open Go Go.Tp
abbrev turP19(p:PR):PR:=⟨p.kind,p.c,p.v,p.item,p.to,p.e,p.gs,p.l.reverse⟩
abbrev turK19(k:KN):KN:=⟨k.vars,k.chans,turP19 k.root,[]⟩
theorem okL_rev19(l:List KV)(n:Nat)(high:Bool)(b:List PR):okL l n high false b.reverse=okL l n high false b:=by
 induction b with
 |nil=>rfl
 |cons x r ih=>
  rw [List.reverse_cons,okL_append,ih,Bool.false_and]
  rw [okL,okL,okL,Bool.and_true,Bool.and_comm]
theorem szL_rev19(b:List PR):szL b.reverse=szL b:=by
 induction b with
 |nil=>rfl
 |cons x r ih=>rw [List.reverse_cons,szL_append,ih,szL,szL,szL];omega
theorem htL_rev19(b:List PR):htL b.reverse=htL b:=by
 induction b with
 |nil=>rfl
 |cons x r ih=>rw [List.reverse_cons,htL_append,ih,htL,htL,htL];omega
theorem kindB_rev19(l:List KV)(n:Nat)(p:PR)(h:p.kind=10):kindB l n (turP19 p)=kindB l n p:=by
 obtain ⟨k,c,v,i,to,e,gs,b⟩:=p
 have h:k=10:=h
 subst h
 unfold kindB
 simp [shapeR]
theorem wayL_rev19(b:List PR)(f:Nat):wayL b.reverse f=wayL b f:=by
 induction b with
 |nil=>rfl
 |cons x r ih=>rw [List.reverse_cons,wayL_snoc,ih,wayL,Nat.mul_comm]
theorem untL_rev19(b:List PR):untL b.reverse=untL b:=by
 rw [Bool.eq_iff_iff,untL_all,untL_all]
 simp
theorem may_turn19{k:KN}(h:mayK k=true)(h10:k.root.kind=10):mayK (turK19 k)=true:=by
 unfold mayK at h⊢
 simp only [Bool.and_eq_true,decide_eq_true_eq] at h⊢
 obtain ⟨⟨⟨⟨⟨h1,h2⟩,h3⟩,h4⟩,h5⟩,h6⟩:=h
 refine ⟨⟨⟨⟨⟨h1,?_⟩,rfl⟩,h4⟩,h5⟩,?_⟩
 ·rfl
 ·unfold fitsR at h6⊢
  rw [okR_eq,szR_eq,htR_eq] at h6
  show okR k.vars k.chans.length false (turP19 k.root)=true/\((szR (turP19 k.root):Nat):Int)<=2048/\((htR (turP19 k.root):Nat):Int)<=32
  rw [okR_eq,szR_eq,htR_eq,kindB_rev19 _ _ _ h10]
  show (_&&okL k.vars k.chans.length false (k.root.kind==11) k.root.l.reverse&&_)=true/\((1+szL k.root.l.reverse+_:Nat):Int)<=2048/\((1+max (htL k.root.l.reverse) _:Nat):Int)<=32
  rw [szL_rev19,htL_rev19]
  rw [show (k.root.kind==11)=false by rw [h10];rfl] at h6⊢
  rw [okL_rev19]
  exact h6
theorem wfRl_rev19: ∀{b:List PR},wfRl b↔ ∀x,x∈b->wfR x
 | []=>by simp [wfRl]
 |p::r=>by rw [wfRl,wfRl_rev19];simp
theorem smRl_rev19: ∀{b:List PR},smRl b↔ ∀x,x∈b->smR x
 | []=>by simp [smRl]
 |p::r=>by rw [smRl,smRl_rev19];simp
theorem turn_sm{k:KN}(hk:SmN k):SmN (turK19 k) where
 wf:=⟨hk.wf.vars,hk.wf.chans,by show 0<=_;decide,by
  have h:=hk.wf.root
  show wfR (turP19 k.root)
  generalize k.root=p at h⊢
  obtain ⟨kd,c,v,i,to,e,gs,b⟩:=p
  rw [wfR] at h⊢
  rw [wfRl_rev19] at h⊢
  refine ⟨⟨h.1.1,h.1.2.1,h.1.2.2.1,h.1.2.2.2.1,(by show b.reverse.length<=_;rw [List.length_reverse];exact h.1.2.2.2.2)⟩,h.2.1,fun x hx=>h.2.2 x (List.mem_reverse.1 hx)⟩⟩
 root:=by
  have h:=hk.root
  show smR (turP19 k.root)
  generalize k.root=p at h⊢
  obtain ⟨kd,c,v,i,to,e,gs,b⟩:=p
  rw [smR] at h⊢
  rw [smRl_rev19] at h⊢
  rw [List.length_reverse]
  refine ⟨h.1,h.2.1,fun x hx=>h.2.2 x (List.mem_reverse.1 hx)⟩
theorem unt_turn(p:PR):untR (turP19 p)=untR p:=by
 rw [untR_eq,untR_eq]
 show (_&&(untL p.l.reverse&&_))=_
 rw [untL_rev19]
theorem err_turn{k:KN}(hm:mayK k=true)(h10:k.root.kind=10)(t:TR)(f:Int):errX (turK19 k) t f=errX k t f:=by
 unfold errX
 rw [hm,may_turn19 hm h10,show untR (turK19 k).root=untR k.root from unt_turn _]
theorem way_turn(p:PR)(h10:p.kind=10)(f:Nat):wayR (turP19 p) f=wayR p f:=by
 obtain ⟨kd,c,v,i,to,e,gs,b⟩:=p
 have h10:kd=10:=h10
 rw [wayR_eq,wayR_eq,if_pos (.inr (.inl h10)),if_pos (.inr (.inl h10))]
 exact wayL_rev19 b f
theorem run_turn{k:KN}(h10:k.root.kind=10)(t:TR)(f:Int):(runX (turK19 k) t f).reach=(runX k t f).reach/\(runX (turK19 k) t f).miss=(runX k t f).miss:=by
 obtain ⟨V,C,p,q⟩:=k
 obtain ⟨kd,c,v,it,to,e,gs,l⟩:=p
 exact turned_run f.toNat [0,1] t (storeS V) kd c v it to e gs l h10
theorem hasX_turn{k:KN}(hm:mayK k=true)(h10:k.root.kind=10)(t:TR)(f:Int):hasX (turK19 k) t f=hasX k t f/\hasE (turK19 k) t f=hasE k t f:=by
 unfold hasX hasE
 rw [err_turn hm h10,(run_turn h10 t f).1,(run_turn h10 t f).2]
 exact ⟨rfl,rfl⟩
theorem len_szL: ∀l:List PR,l.length<=szL l
 | []=>Nat.le_refl _
 |p::r=>by rw [szL,List.length_cons];have:=szR_pos p;have:=len_szL r;omega
theorem RpC_one{h:GH}{x y:AV}(hxy: ∀v,Rp h x v->Rp h y v): ∀{l1 l2:List AV} {vs:List Value},RpC h (l1++x::l2) vs->RpC h (l1++y::l2) vs
 | [],l2,vs,q=>by
   rw [List.nil_append,RpC_cons] at q⊢
   obtain ⟨v,us,rfl,q1,q2⟩:=q
   exact ⟨v,us,rfl,hxy v q1,q2⟩
 |a::l1,l2,vs,q=>by
  rw [List.cons_append,RpC_cons] at q⊢
  obtain ⟨v,us,rfl,q1,q2⟩:=q
  exact ⟨v,us,rfl,q1,RpC_one hxy q2⟩
abbrev tkA(k:KN)(y z:AV):AV:= .ag [varsA k.vars,chsA k.chans,AU8 k.root.kind,AI k.root.c,AI k.root.v,AU8 k.root.item,plsA k.root.to,kesA k.root.e,gsA k.root.gs,y,z]
theorem tk_nil(k:KN)(h:GH)(z:AV)(y:Value)(q:Rp h (tkA k (.v (.slice none 0 0)) z) y):Rp h (tkA k (.ms (.slice none 0 0) 8 0) z) y:=by
 rw [Rp_ag] at q⊢
 obtain ⟨ds,rfl,q⟩:=q
 exact ⟨ds,rfl,RpC_one (l1:=[varsA k.vars,chsA k.chans,AU8 k.root.kind,AI k.root.c,AI k.root.v,AU8 k.root.item,plsA k.root.to,kesA k.root.e,gsA k.root.gs]) (fun v hv=>nil_ms19 8 hv) q⟩
theorem tk_enc(k:KN):encN (turK19 k)=tkA k (.sl 8 (k.root.l.reverse.map cellsR) none) (intsA []):=by
 have e:encRl k.root.l.reverse=k.root.l.reverse.map cellsR:=by
  rw [encRl_map]
  congr 1
  funext x
  exact encR_eq x
 show tkA k (.sl 8 (encRl k.root.l.reverse) none) (intsA [])=_
 rw [e]
abbrev nilS:AV:= .v (.slice none 0 0)
theorem turned19_law(k:KN)(hk:SmN k)(t:TR)(ht:TrI t)(f:Int):Pure Tryz.prog gs0 7 [encN k,trA t,AI f] (AB true):=by
 have hh:=head19_p
 obtain ⟨b,hgr,hfit⟩:=great19_p k hk t f
 cases b with
 |true=>
  refine p_ tt_ok Tryz.func7 80 fun w0 h0 F hgs=>?_
  (repeat refine A.s rfl ?_)
  refine A.b rfl fun b3=>?_
  refine y_ ?_
  refine c_ hgr ?_
  exact cr_ hh
 |false=>
 have hfit:=hfit rfl
 have hmay:=rmay16_p k hk.wf
 by_cases hm:mayK k=true
 case neg=>
  have hm:mayK k=false:=by simpa using hm
  rw [hm] at hmay
  refine p_ tt_ok Tryz.func7 80 fun w0 h0 F hgs=>?_
  (repeat refine A.s rfl ?_)
  refine A.b rfl fun b3=>?_
  refine y_ ?_
  refine c_ hgr ?_
  refine c_ hmay ?_
  exact cr_ hh
 rw [hm] at hmay
 by_cases h10:k.root.kind=10
 case neg=>
  refine p_ tt_ok Tryz.func7 80 fun w0 h0 F hgs=>?_
  (repeat refine A.s rfl ?_)
  refine A.b rfl fun b3=>?_
  refine y_ ?_
  refine c_ hgr ?_
  refine c_ hmay ?_
  refine T_ rfl (by show (k.root.kind !=10)=true;exact bne_iff_ne.2 h10) ?_
  exact cr_ hh
 have hsz:=(may_fits hm).2.1
 have hll:k.root.l.length<=2048:=by have:=len_szL k.root.l;rw [szR_eq] at hsz;omega
 have n1:((encRl k.root.l).length:Int)=k.root.l.length:=by rw [encRl_len]
 have h1:=thas_p k hk t ht f hfit.way0
 have h2:=thas_p (turK19 k) (turn_sm hk) t ht f (fun he=>by show wayR (turP19 k.root) _<=_;rw [way_turn _ h10];exact hfit.way0 (by rw [<-err_turn hm h10];exact he))
 rw [(hasX_turn hm h10 t f).1,(hasX_turn hm h10 t f).2,tk_enc] at h2
 generalize hasX k t f=A0 at*
 generalize hasE k t f=E0 at*
 refine p_ tt_ok Tryz.func7 80 fun w0 h0 F hgs=>?_
 (repeat refine A.s rfl ?_)
 refine A.b rfl fun b3=>?_
 refine y_ ?_
 refine c_ hgr ?_
 refine c_ hmay ?_
 refine F_ rfl (by show (k.root.kind !=10)=false;rw [h10];rfl) ?_
 refine A.b rfl fun b7=>?_
 refine y_ ?_
 refine A.boxAs (b:=b7) (x':=tkA k (.ms (.slice none 0 0) 8 0) nilS) (.refl _) (fun h y q=>tk_nil k h _ y q) ?_
 refine A.nilRow 8 ?_
 refine A.valE 8 rfl (x':=AI ((k.root.l.length:Int)-1)) (ai_eq (by rw [n1,wr64 _ (by omega)])) ?_
 refine A.keep [1,2,3,7,8] rfl ?_
 refine A.loopP (ι:=Nat×Value) (fun u=>(⟨[(1,trA t),(2,AI f),(3,ptrA b3),(7,ptrA b7),(8,AI ((u.1:Int)-1))],[]⟩,[.row 8 u.2 ((k.root.l.drop u.1).reverse.map cellsR), .box b7 (tkA k (.ms u.2 8 (k.root.l.drop u.1).length) nilS), .box b3 (encN k)])) (fun u=>u.1<=k.root.l.length) (fun u=>u.1) (k.root.l.length, .slice none 0 0) (Nat.le_refl _) (by rw [List.drop_length];rfl) fun u hu ih=>?_
 obtain ⟨j,z⟩:=u
 have hj:j<=k.root.l.length:=hu
 refine y_ ?_
 by_cases hj0:0<j
 ·obtain ⟨n,rfl⟩: ∃n,j=n+1:=⟨j-1,by omega⟩
  refine Exists.elim (at_exN (l:=k.root.l) (i:=n) (by omega)) fun x hx=>?_
  have hdr:(k.root.l.drop n).reverse.map cellsR=(k.root.l.drop (n+1)).reverse.map cellsR++[cellsR x]:=by
   rw [drop_at hx,List.reverse_cons,List.map_append];rfl
  have hln:(k.root.l.drop n).length=(k.root.l.drop (n+1)).length+1:=by rw [drop_at hx,List.length_cons]
  have hml:((k.root.l.drop (n+1)).reverse.map cellsR).length=(k.root.l.drop (n+1)).length:=by rw [List.length_map,List.length_reverse]
  have hmb:(k.root.l.drop (n+1)).length<=2048:=by rw [List.length_drop];omega
  refine A.gT rfl (by show decide ((0:Int)<=((n+1:Nat):Int)-1)=true;rw [decide_eq_true_eq];omega) ?_
  refine e_ 8 rfl (x':=AI (n:Nat)) (ai_eq (by omega)) ?_
  refine A.drawL [(10, .row 8 z ((k.root.l.drop (n+1)).reverse.map cellsR))] 11 [0,1,2,3,4,5,6,7,8,9,10] (fun i=>if i=10 then [10,9] else []) [] (.refl _) rfl rfl (by rfl) (by kernel_rfl) (by kernel_rfl) ?_
  refine w_ ?_
  refine iw_ rfl (encRl_at hx) (encR_eq x) ?_
  refine WA.lit rfl rfl rfl rfl rfl rfl rfl fun bw=>?_
  refine WA.appendR rfl rfl rfl rfl rfl rfl rfl rfl rfl rfl rfl rfl rfl rfl rfl rfl rfl rfl rfl rfl (.pub (j:=9) rfl rfl (.sub .refl)) (by show (((k.root.l.drop (n+1)).reverse.map cellsR).length+1)*8<=_;rw [hml];omega) (by show (((k.root.l.drop (n+1)).reverse.map cellsR).length+1)*8*128<=_;rw [hml];omega) fun z2=>?_
  refine WA.nil (l:=[_]) rfl ?_
  refine y_ ?_
  refine A.valE 8 rfl (x':=AI ((n:Int)-1)) (ai_eq (by rw [wr64 _ (by omega)])) ?_
  refine A.entsEq (Λ':=[.row 8 z2 ((k.root.l.drop n).reverse.map cellsR), .box b7 (tkA k (.ms z2 8 (k.root.l.drop n).length) nilS), .box b3 (encN k)]) (by rw [hdr,hln,<-hml];rfl) ?_
  refine u_ (ih (n,z2) (by show n<=_;omega) (by show n<n+1;omega))
 ·have hj1:j=0:=by omega
  subst hj1
  clear ih
  refine A.gF rfl (by show decide ((0:Int)<=((0:Nat):Int)-1)=false;rfl) ?_
  refine A.entsEq (Λ':=[.row 8 z (k.root.l.reverse.map cellsR), .box b7 (tkA k (.ms z 8 (k.root.l.reverse.map cellsR).length) nilS), .box b3 (encN k)]) (by rw [List.length_map,List.length_reverse];rfl) ?_
  refine A.freezeRowV 7 z (x':=tkA k (.sl 8 (k.root.l.reverse.map cellsR) none) nilS) rfl fz_ ?_
  refine y_ ?_
  refine c_ h1 ?_
  refine c_ h2 ?_
  refine T_ rfl (by simp) ?_
  refine A.gT rfl (by simp) ?_
  exact cr_ hh
end Go.Proofs.YtkbolbpojpmicaaGreat
