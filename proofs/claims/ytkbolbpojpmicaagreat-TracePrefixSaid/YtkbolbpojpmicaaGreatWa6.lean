/-
  Texts Q16p Q16q Q16r Q16s Q16t Q16u Q18a Q18b Q18c Q18d Q18e Q18f Q18g Q18s Q18h P18a P18b Q18i Q18j Q18k P18c Q17h Q17j Q17k Q18l P18d Q18m Q18q Q18r Q18n Q18o Q18p Q18t Q18v Q18w Q17z P18e Q18x P18f P18g P20d Lt Q18y P18h P18i P18j T18a T18b T18c Lp Lr Q20a Lu Ls Q19a. Conditions: as each theorem says.
-/
import Derived.Test.YtkbolbpojpmicaaGreatWa3
import Derived.Test.YtkbolbpojpmicaaGreatWa5
import Derived.Test.YtkbolbpojpmicaaGreatWa4
import Derived.Test.YtkbolbpojpmicaaGreatWa2
import Derived.Sort.Row
import Derived.Sort.Grow
import Derived.Deep.Draws
import Derived.WalkSpells
set_option linter.unusedVariables false
set_option linter.unusedSimpArgs false
set_option maxRecDepth 100000
set_option maxHeartbeats 4000000
namespace Go.Proofs.YtkbolbpojpmicaaGreat
open Go Go.Tp
def usesG(g:GD):Bool:=g.c==0&&g.item==0&&g.to.v==0&&g.to.ix.length==0
theorem plainGB_eq(g:GD)(i t:Bool):plainGB g i t=((i||usesG g)&&(t||zeroE g.time)):=rfl
theorem timed_eq(e:KE):(bif bif bif bif bif e.kind !=0 then true else e.oper !=0 then true else e.to !=0 then true else e.n !=0 then true else e.v !=0 then true else decide (0<((encKl e.l).length:Int)))= !zeroE e:=by
 have n1:((encKl e.l).length:Int)=e.l.length:=by rw [encKl_len]
 have hn:decide (0<((encKl e.l).length:Int))= !decide (e.l.length<=0):=by
  rw [n1]
  rcases Nat.eq_zero_or_pos e.l.length with h|h
  ·rw [h];rfl
  ·rw [decide_eq_true (by omega),decide_eq_false (by omega)];rfl
 rw [hn,zeroE]
 simp only [bne]
 generalize (e.kind==0)=a1
 generalize (e.oper==0)=a2
 generalize (e.to==0)=a3
 generalize (e.n==0)=a4
 generalize (e.v==0)=a5
 generalize decide (e.l.length<=0)=a6
 cases a1<;>cases a2<;>cases a3<;>cases a4<;>cases a5<;>cases a6<;>rfl
theorem inputs_eq(g:GD):(bif bif bif g.c !=0 then true else g.item !=0 then true else g.to.v !=0 then true else decide (0<((encKl g.to.ix).length:Int)))= !usesG g:=by
 have n1:((encKl g.to.ix).length:Int)=g.to.ix.length:=by rw [encKl_len]
 have hn:decide (0<((encKl g.to.ix).length:Int))= !(g.to.ix.length==0):=by
  rw [n1]
  rcases Nat.eq_zero_or_pos g.to.ix.length with h|h
  ·rw [h];rfl
  ·rw [decide_eq_true (by omega),beq_eq_false_iff_ne.2 (by omega)];rfl
 rw [hn,usesG]
 simp only [bne]
 generalize (g.c==0)=a1
 generalize (g.item==0)=a2
 generalize (g.to.v==0)=a3
 generalize (g.to.ix.length==0)=a4
 cases a1<;>cases a2<;>cases a3<;>cases a4<;>rfl
theorem rguard_a(k:KN)(kind:Int)(g:GD)(h:g.body.length≠1):Pure Tryz.prog gs0 181 [encN k,AU8 kind,cellsG g] (AB false):=by
 refine p_ tt_ok Tryz.func181 136 fun w0 h0 F hgs=>?_
 (refine b_ fun bx=>?_;refine b_ fun bx=>?_;refine y_ ?_)
 refine e_ 13 rfl (x':=AB true) (ab_eq (by rw [encRl_len,Bool.eq_iff_iff];simp;omega)) ?_;exact r_
theorem rguard_b(k:KN)(kind:Int)(g:GD)(h:g.body.length=1)(hfc:Pure Tryz.prog gs0 178 [varsA k.vars,cellsK g.cond,AU8 3] (AB false)):Pure Tryz.prog gs0 181 [encN k,AU8 kind,cellsG g] (AB false):=by
 refine p_ tt_ok Tryz.func181 136 fun w0 h0 F hgs=>?_
 (refine b_ fun bx=>?_;refine b_ fun bx=>?_;refine y_ ?_)
 refine e_ 13 rfl (x':=AB false) (ab_eq (by rw [encRl_len,h];rfl)) ?_
 exact cr_ hfc
theorem rguard_c(k:KN)(kind:Int)(g:GD)(h:g.body.length=1)(hfc:Pure Tryz.prog gs0 178 [varsA k.vars,cellsK g.cond,AU8 3] (AB true))(b2 b3:Bool)(hft:Pure Tryz.prog gs0 178 [varsA k.vars,cellsK g.time,AU8 1] (AB b2))
 (hin:Pure Tryz.prog gs0 179 [encN k,AI g.c,AU8 g.item,encPl g.to] (AB b3)) (R:Bool)
 (hR: ∀cb z w:Bool,cb=(kind==12)->z=zeroE g.time->w=usesG g->R=(((g.kind==1)==cb)&&(if g.kind=1\/g.kind=2 then w&&z else if g.kind=3 then z&&b3 else if g.kind=4 then w&&b2 else false))):
 Pure Tryz.prog gs0 181 [encN k,AU8 kind,cellsG g] (AB R):=by
 have e7:=timed_eq g.time
 have e8:=inputs_eq g
 have hR:=hR _ _ _ rfl rfl rfl
 generalize zeroE g.time=z at e7 hR
 generalize usesG g=w at e8 hR
 refine p_ tt_ok Tryz.func181 136 fun w0 h0 F hgs=>?_
 (refine b_ fun bx=>?_;refine b_ fun bx=>?_;refine y_ ?_)
 refine e_ 13 rfl (x':=AB false) (ab_eq (by rw [encRl_len,h];rfl)) ?_
 refine n_ hfc ?_
 refine g_ ?_
 refine A.valE 7 rfl (x':=AB (!z)) (ab_eq e7) ?_
 refine A.valE 8 rfl (x':=AB (!w)) (ab_eq e8) ?_
 clear e7 e8
 refine k_ (fun hc=>?_) fun hc=>?_
 ·have k1:g.kind=1:=by simpa using hc
  rw [k1] at hR
  (repeat' first|first|refine A.s rfl ?_|refine A.r rfl rfl ?_|refine A.w rfl rfl ?_|refine A.p rfl ?_|refine A.b rfl fun bx=>?_|refine A.t rfl fun bl=>?_|((fail_if_success (refine A.lit? rfl ?_));refine A.gS rfl (fun hc=>?_) (fun hc=>?_))|((fail_if_success (refine A.litP? rfl ?_));refine A.gSP rfl (fun hc=>?_) (fun hc=>?_)))
  (all_goals (refine R_ ?_;refine Sb.eq (ab_eq ?_)))
  all_goals (clear hin hft hfc;simp_all)
 have k1:g.kind≠1:=by simpa using hc
 refine y_ ?_
 refine k_ (fun hc=>?_) fun hc=>?_
 ·have k2:g.kind=2:=by simpa using hc
  rw [k2] at hR
  (repeat' first|first|refine A.s rfl ?_|refine A.r rfl rfl ?_|refine A.w rfl rfl ?_|refine A.p rfl ?_|refine A.b rfl fun bx=>?_|refine A.t rfl fun bl=>?_|((fail_if_success (refine A.lit? rfl ?_));refine A.gS rfl (fun hc=>?_) (fun hc=>?_))|((fail_if_success (refine A.litP? rfl ?_));refine A.gSP rfl (fun hc=>?_) (fun hc=>?_)))
  (all_goals (refine R_ ?_;refine Sb.eq (ab_eq ?_)))
  all_goals (clear hin hft hfc;simp_all)
 have k2:g.kind≠2:=by simpa using hc
 refine y_ ?_
 refine k_ (fun hc=>?_) fun hc=>?_
 ·have k3:g.kind=3:=by simpa using hc
  rw [k3] at hR
  (repeat' first|first|refine A.s rfl ?_|refine A.r rfl rfl ?_|refine A.w rfl rfl ?_|refine A.p rfl ?_|refine A.b rfl fun bx=>?_|refine A.t rfl fun bl=>?_|refine A.c rfl hin .refl ?_|((fail_if_success (refine A.lit? rfl ?_));refine A.gS rfl (fun hc=>?_) (fun hc=>?_))|((fail_if_success (refine A.litP? rfl ?_));refine A.gSP rfl (fun hc=>?_) (fun hc=>?_)))
  (all_goals (refine R_ ?_;refine Sb.eq (ab_eq ?_)))
  all_goals (clear hin hft hfc;simp_all)
 have k3:g.kind≠3:=by simpa using hc
 refine y_ ?_
 refine k_ (fun hc=>?_) fun hc=>?_
 ·have k4:g.kind=4:=by simpa using hc
  rw [k4] at hR
  (repeat' first|first|refine A.s rfl ?_|refine A.r rfl rfl ?_|refine A.w rfl rfl ?_|refine A.p rfl ?_|refine A.b rfl fun bx=>?_|refine A.t rfl fun bl=>?_|refine A.c rfl hft .refl ?_|((fail_if_success (refine A.lit? rfl ?_));refine A.gS rfl (fun hc=>?_) (fun hc=>?_))|((fail_if_success (refine A.litP? rfl ?_));refine A.gSP rfl (fun hc=>?_) (fun hc=>?_)))
  (all_goals (refine R_ ?_;refine Sb.eq (ab_eq ?_)))
  all_goals (clear hin hft hfc;simp_all)
 have k4:g.kind≠4:=by simpa using hc
 rw [if_neg (fun h=>h.elim k1 k2),if_neg k3,if_neg k4,Bool.and_false] at hR
 refine y_ ?_;refine R_ ?_;rw [hR];exact .refl
theorem rguard_p(k:KN)(kind:Int)(g:GD)(hw:WfG g):Pure Tryz.prog gs0 181 [encN k,AU8 kind,cellsG g] (AB (guardB k.vars k.chans.length g (kind==12))):=by
 have hfc:=rFits_p k.vars g.cond hw.cond 3
 have hft:=rFits_p k.vars g.time hw.time 1
 have hin:=rinput_p k g.c g.item g.to hw.to
 unfold guardB
 by_cases hb:g.body.length=1
 case neg=>
  rw [show (g.body.length==1)=false from beq_eq_false_iff_ne.2 hb]
  exact rguard_a k kind g hb
 rw [show (g.body.length==1)=true from beq_iff_eq.2 hb,Bool.true_and]
 cases hf:fitV k.vars g.cond 3 with
 |false=>
  rw [hf] at hfc
  exact rguard_b k kind g hb hfc
 |true=>
  rw [hf] at hfc
  refine rguard_c k kind g hb hfc _ _ hft hin _ fun cb z w e1 e2 e3=>?_
  subst e1;subst e2;subst e3
  rw [Bool.true_and,plainGB_eq,plainGB_eq,plainGB_eq]
  simp only [Bool.false_or,Bool.true_or,Bool.true_and,Bool.and_true]
theorem typed_3(k:KN)(c v it:Int)(to:List PL)(e:List KE)(gs:List GD)(b:List PR):Pure Tryz.prog gs0 99 [encN k,cellsR ⟨3,c,v,it,to,e,gs,b⟩] (AB (decide (0<=v)&&decide (v<k.vars.length))):=by
 have hlen:((k.vars.map encV).length:Int)=k.vars.length:=by rw [List.length_map]
 rw [<-hlen]
 refine p_ tt_ok Tryz.func99 158 fun w0 h0 F hgs=>?_
 (refine b_ fun bx=>?_;refine b_ fun bx=>?_;refine y_ ?_)
 ((fail_if_success (refine A.lit? rfl ?_));refine A.gS rfl (fun hc=>?_) (fun hc=>?_))
 ·refine y_ ?_;refine R_ ?_;refine Sb.eq (ab_eq ?_);have hc:decide (0<=v)=true:=hc;rw [hc];rfl
 ·refine y_ ?_;refine R_ ?_;refine Sb.eq (ab_eq ?_);have hc:decide (0<=v)=false:=hc;rw [hc];rfl
theorem typed_5(k:KN)(c v it:Int)(t:PL)(hw:wfPl t)(e:List KE)(gs:List GD)(b:List PR):Pure Tryz.prog gs0 99 [encN k,cellsR ⟨5,c,v,it,[t],e,gs,b⟩] (AB (inputB k.vars k.chans.length c it t)):=by
 have hin:=rinput_p k c it t hw
 generalize inputB k.vars k.chans.length c it t=R at hin⊢
 refine p_ tt_ok Tryz.func99 158 fun w0 h0 F hgs=>?_
 (refine b_ fun bx=>?_;refine b_ fun bx=>?_;refine y_ ?_)
 refine d_ 9 [0,1,2,3,4,5,6,7,8] [] ?_
 refine iw_ rfl rfl rfl ?_
 refine WA.nil (l:=[]) rfl ?_
 exact cr_ hin
theorem typed_6(k:KN)(c v it:Int)(to:List PL)(x:KE)(hw:wfK x)(gs:List GD)(b:List PR):Pure Tryz.prog gs0 99 [encN k,cellsR ⟨6,c,v,it,to,[x],gs,b⟩] (AB (chanB k.chans.length c it 0&&fitV k.vars x it)):=by
 have hin:=routput_p k c it x hw
 generalize (chanB k.chans.length c it 0&&fitV k.vars x it)=R at hin⊢
 have he:(encKl [x])[(0:Int).toNat]? =some (encK x):=encKl_at rfl
 refine p_ tt_ok Tryz.func99 158 fun w0 h0 F hgs=>?_
 (refine b_ fun bx=>?_;refine b_ fun bx=>?_;refine y_ ?_)
 refine d_ 9 [0,1,2,3,4,5,6,7,8] [] ?_
 refine iw_ rfl he (encK_eq x) ?_
 refine WA.nil (l:=[]) rfl ?_
 exact cr_ hin
theorem typed_7(k:KN)(c v it:Int)(t:PL)(hw:wfPl t)(e:List KE)(gs:List GD)(b:List PR):Pure Tryz.prog gs0 99 [encN k,cellsR ⟨7,c,v,it,[t],e,gs,b⟩] (AB (placeB k.vars t 1)):=by
 have hin:=rplace_p k.vars t hw 1
 generalize placeB k.vars t 1=R at hin⊢
 refine p_ tt_ok Tryz.func99 158 fun w0 h0 F hgs=>?_
 (refine b_ fun bx=>?_;refine b_ fun bx=>?_;refine y_ ?_)
 refine d_ 6 [0,1,2,3,4,5] [] ?_
 refine iw_ rfl rfl rfl ?_
 refine WA.nil (l:=[]) rfl ?_
 exact cr_ hin
theorem typed_8(k:KN)(c v it:Int)(to:List PL)(x:KE)(hw:wfK x)(gs:List GD)(b:List PR):Pure Tryz.prog gs0 99 [encN k,cellsR ⟨8,c,v,it,to,[x],gs,b⟩] (AB (fitV k.vars x 1)):=by
 have hin:=rFits_p k.vars x hw 1
 generalize fitV k.vars x 1=R at hin⊢
 have he:(encKl [x])[(0:Int).toNat]? =some (encK x):=encKl_at rfl
 refine p_ tt_ok Tryz.func99 158 fun w0 h0 F hgs=>?_
 (refine b_ fun bx=>?_;refine b_ fun bx=>?_;refine y_ ?_)
 refine d_ 6 [0,1,2,3,4,5] [] ?_
 refine iw_ rfl he (encK_eq x) ?_
 refine WA.nil (l:=[]) rfl ?_
 exact cr_ hin
theorem typed_13(k:KN)(c v it:Int)(to:List PL)(x:KE)(hw:wfK x)(gs:List GD)(b:List PR):Pure Tryz.prog gs0 99 [encN k,cellsR ⟨13,c,v,it,to,[x],gs,b⟩] (AB (fitV k.vars x 3)):=by
 have hin:=rFits_p k.vars x hw 3
 generalize fitV k.vars x 3=R at hin⊢
 have he:(encKl [x])[(0:Int).toNat]? =some (encK x):=encKl_at rfl
 refine p_ tt_ok Tryz.func99 158 fun w0 h0 F hgs=>?_
 (refine b_ fun bx=>?_;refine b_ fun bx=>?_;refine y_ ?_)
 refine d_ 6 [0,1,2,3,4,5] [] ?_
 refine iw_ rfl he (encK_eq x) ?_
 refine WA.nil (l:=[]) rfl ?_
 exact cr_ hin
theorem typed_g(k:KN)(p:PR)(hk:p.kind≠3/\p.kind≠4/\p.kind≠5/\p.kind≠6/\p.kind≠7/\p.kind≠8/\p.kind≠13)(hwg: ∀g,g∈p.gs->wfG g)(hgl:p.gs.length<=281474976710656)(R:Bool)(hR:(p.gs.all fun g=>guardB k.vars k.chans.length g (p.kind==12))=R):Pure Tryz.prog gs0 99 [encN k,cellsR p] (AB R):=by
 refine p_ tt_ok Tryz.func99 158 fun w0 h0 F hgs=>?_
 (repeat (first|first|refine A.s rfl ?_|refine A.r rfl rfl ?_|refine A.w rfl rfl ?_|refine A.p rfl ?_|refine A.b rfl fun bx=>?_|refine A.t rfl fun bl=>?_|refine A.cond rfl (fun h=>(by simp at h;omega)) (fun _=>?_)|first|refine A.step rfl ?_|refine A.v rfl rfl ?_))
 refine A.keep [2,3,7] rfl ?_
 refine A.loopP (ι:=Nat) (fun i=>(⟨[(2,ptrA _),(3,ptrA _),(7,AI (i:Nat))],[]⟩,[.box _ (cellsR p), .box _ (encN k)])) (fun i=>i<=p.gs.length/\((p.gs.drop i).all fun g=>guardB k.vars k.chans.length g (p.kind==12))=R) (fun i=>p.gs.length-i) 0 ⟨Nat.zero_le _,hR⟩ rfl fun i hi ih=>?_
 refine y_ ?_
 refine A.valE 145 rfl (x':=AB (decide (i<p.gs.length))) (ab_eq (by rw [encGl_len,Bool.eq_iff_iff];simp)) ?_
 refine k_ (fun hc=>?_) fun hc=>?_
 ·have hc:i<p.gs.length:=by simpa using hc
  refine Exists.elim (at_exN (l:=p.gs) (i:=i) hc) fun g hg=>?_
  have hgp:=rguard_p k p.kind g (wfG_all (hwg g (List.mem_of_getElem? hg)))
  have h1:=hi.2
  rw [drop_at hg,List.all_cons] at h1
  refine y_ ?_
  refine d_ 8 [0,1,2,3,4,5,6,7] [] ?_
  refine iw_ rfl (encGl_at hg) (encG_eq g) ?_
  refine WA.nil (l:=[]) rfl ?_
  refine c_ hgp ?_
  refine k_ (fun hc=>?_) fun hc=>?_
  ·have hf:guardB k.vars k.chans.length g (p.kind==12)=false:=by simpa using hc
   rw [hf,Bool.false_and] at h1
   refine y_ ?_;refine R_ ?_;rw [<-h1];exact .refl
  ·have hf:guardB k.vars k.chans.length g (p.kind==12)=true:=by simpa using hc
   rw [hf,Bool.true_and] at h1
   refine y_ ?_
   refine A.valE 7 rfl (x':=AI ((i+1:Nat):Int)) (inc_eq i (by omega)) ?_
   refine u_ (ih (i+1) ⟨by omega,h1⟩ (by omega))
 ·have hc: ¬i<p.gs.length:=by simpa using hc
  have hil:i=p.gs.length:=by omega
  have h1:=hi.2
  rw [hil,List.drop_length,List.all_nil] at h1
  refine y_ ?_;refine R_ ?_;rw [<-h1];exact .refl
abbrev P4(c v it:Int)(to:List PL)(e:List KE)(b:List PR):PR:=⟨4,c,v,it,to,e,[],b⟩
theorem typed_4a(k:KN)(c v it:Int)(t:PL)(to:List PL)(e:List KE)(b:List PR)(hle:(t::to).length≠e.length):Pure Tryz.prog gs0 99 [encN k,cellsR (P4 c v it (t::to) e b)] (AB false):=by
 have n1:(((t::to).map encPl).length:Int)=(t::to).length:=by rw [List.length_map]
 have n2:((encKl e).length:Int)=e.length:=by rw [encKl_len]
 refine p_ tt_ok Tryz.func99 158 fun w0 h0 F hgs=>?_
 (refine b_ fun bx=>?_;refine b_ fun bx=>?_;refine y_ ?_)
 refine A.loop1 ?_
 refine y_ ?_
 refine e_ 29 rfl (x':=AB true) (ab_eq (by rw [n1];exact decide_eq_true (by rw [List.length_cons];omega))) ?_
 refine i_ rfl rfl rfl ?_
 refine d_ 49 [0,1,2,3,4,5,6,7,8,9,10,11,12,13,14,15,16,17,18,19,20,21,22,23,24,25,26,27,28,29,30,31,32,33,34,35,36,37,38,39,40,41,42,43,44,45,46,47,48] [(32,AB false)] ?_
 refine ew_ 45 rfl (x':=AB true) (ab_eq (by rw [n1,n2];simp only [bne_iff_ne,ne_eq];exact fun h=>hle (by omega))) ?_
 refine z_ ?_;exact r_
theorem typed_4b(k:KN)(c v it:Int)(to:List PL)(e:List KE)(b:List PR)(hle:to.length=e.length)(hl8:to.length<=8)(hwt: ∀t,t∈to->wfPl t)(hwe: ∀x,x∈e->wfK x)(R:Bool)(hR:((to.zip e).all fun te=>assignB k.vars te.1 te.2)=R):
 Pure Tryz.prog gs0 99 [encN k,cellsR (P4 c v it to e b)] (AB R):=by
 have hlen:((k.vars.map encV).length:Int)=k.vars.length:=by rw [List.length_map]
 have n1:((to.map encPl).length:Int)=to.length:=by rw [List.length_map]
 have n2:((encKl e).length:Int)=e.length:=by rw [encKl_len]
 refine p_ tt_ok Tryz.func99 158 fun w0 h0 F hgs=>?_
 (refine b_ fun bx=>?_;refine b_ fun bx=>?_;refine y_ ?_)
 refine A.keep [2,3,5] rfl ?_
 refine A.loopP (ι:=Nat) (fun i=>(⟨[(2,ptrA _),(3,ptrA _),(5,AI (i:Nat))],[]⟩,[.box _ (cellsR (P4 c v it to e b)), .box _ (encN k)])) (fun i=>i<=to.length/\((to.zip e).drop i).all (fun te=>assignB k.vars te.1 te.2)=R) (fun i=>to.length-i) 0 ⟨by omega,hR⟩ rfl fun i hi ih=>?_
 refine y_ ?_
 refine A.valE 29 rfl (x':=AB (decide (i<to.length))) (ab_eq (by rw [n1,Bool.eq_iff_iff];simp)) ?_
 refine k_ (fun hc=>?_) fun hc=>?_
 ·have hc:i<to.length:=by simpa using hc
  refine Exists.elim (at_exN (l:=to) (i:=i) hc) fun t ht=>?_
  refine Exists.elim (at_exN (l:=e) (i:=i) (by omega)) fun x hx=>?_
  have hwt1:=hwt t (List.mem_of_getElem? ht)
  have hwe1:=hwe x (List.mem_of_getElem? hx)
  have h1:=hi.2
  rw [drop_at (zip_both ht hx)] at h1
  refine y_ ?_
  refine i_ rfl (map_at ht) rfl ?_
  by_cases hneg:t.v<0
  ·rw [assign_no (by rw [assignB,if_pos (.inl hneg)])] at h1
   refine d_ 49 [0,1,2,3,4,5,6,7,8,9,10,11,12,13,14,15,16,17,18,19,20,21,22,23,24,25,26,27,28,29,30,31,32,33,34,35,36,37,38,39,40,41,42,43,44,45,46,47,48] [(32,AB false)] ?_
   refine ew_ 45 rfl (x':=AB false) (ab_eq (by rw [n1,n2];simp;omega)) ?_
   refine ew_ 49 rfl (x':=AB true) (ab_eq (by simpa using hneg)) ?_
   refine z_ ?_;refine R_ ?_;rw [<-h1];exact .refl
  by_cases hout:(k.vars.length:Int)<=t.v
  ·rw [assign_no (by rw [assignB,if_pos (.inr hout)])] at h1
   refine d_ 49 [0,1,2,3,4,5,6,7,8,9,10,11,12,13,14,15,16,17,18,19,20,21,22,23,24,25,26,27,28,29,30,31,32,33,34,35,36,37,38,39,40,41,42,43,44,45,46,47,48] [(32,AB false)] ?_
   refine ew_ 45 rfl (x':=AB false) (ab_eq (by rw [n1,n2];simp;omega)) ?_
   refine ew_ 49 rfl (x':=AB false) (ab_eq (by simp;omega)) ?_
   refine ew_ 56 rfl (x':=AB true) (ab_eq (by rw [hlen];simpa using hout)) ?_
   refine z_ ?_;refine R_ ?_;rw [<-h1];exact .refl
  refine Exists.elim (at_ex (l:=k.vars) (i:=t.v) (by omega) (by omega)) fun y hy=>?_
  have hv0:(0:Int)<=t.v:=by omega
  have hab:assignB k.vars t x=(placeB k.vars t y.kind&&fitV k.vars x y.kind):=by rw [assignB,if_neg (by omega),hy]
  have hpl:=rplace_p k.vars t hwt1 y.kind
  have hft:=rFits_p k.vars x hwe1 y.kind
  refine Exists.elim (show∃b1,b1=placeB k.vars t y.kind from ⟨_,rfl⟩) fun b1 e1=>Exists.elim (show∃b2,b2=fitV k.vars x y.kind from ⟨_,rfl⟩) fun b2 e2=>?_
  rw [<-e1] at hpl hab
  rw [<-e2] at hft hab
  by_cases hb1:b1=true
  ·rw [hb1] at hpl hab
   refine d_ 49 [0,1,2,3,4,5,6,7,8,9,10,11,12,13,14,15,16,17,18,19,20,21,22,23,24,25,26,27,28,29,30,31,32,33,34,35,36,37,38,39,40,41,42,43,44,45,46,47,48] [(32,AB true)] ?_
   refine ew_ 45 rfl (x':=AB false) (ab_eq (by rw [n1,n2];simp;omega)) ?_
   refine ew_ 49 rfl (x':=AB false) (ab_eq (by simp;omega)) ?_
   refine ew_ 56 rfl (x':=AB false) (ab_eq (by rw [hlen];simp;omega)) ?_
   refine iw_ rfl (map_at ht) rfl ?_
   refine WA.x rfl hv0 (map_at hy) rfl rfl ?_
   refine w_ ?_
   refine cw_ hpl ?_
   refine iw_ rfl (encKl_at hx) (encK_eq x) ?_
   refine WA.x rfl hv0 (map_at hy) rfl rfl ?_
   refine w_ ?_
   refine WA.nil (l:=[]) rfl ?_
   refine c_ hft ?_
   refine A.valE 89 rfl (x':=AB (!b2)) (ab_eq (by rfl)) ?_
   refine k_ (fun hc=>?_) fun hc=>?_
   ·have hf:b2=false:=by simpa using hc
    rw [assign_no (by rw [hab,hf,Bool.and_false])] at h1
    refine y_ ?_;refine R_ ?_;rw [<-h1];exact .refl
   ·have hf:b2=true:=by simpa using hc
    rw [List.all_cons] at h1
    have hat:assignB k.vars t x=true:=by rw [hab,hf];rfl
    simp only [hat,Bool.true_and] at h1
    refine y_ ?_
    refine A.valE 5 rfl (x':=AI ((i+1:Nat):Int)) (inc_eq i (by omega)) ?_
    refine u_ (ih (i+1) ⟨by omega,h1⟩ (by omega))
  ·have hb1:b1=false:=by simpa using hb1
   rw [hb1] at hpl hab
   rw [assign_no (by rw [hab];rfl)] at h1
   refine d_ 49 [0,1,2,3,4,5,6,7,8,9,10,11,12,13,14,15,16,17,18,19,20,21,22,23,24,25,26,27,28,29,30,31,32,33,34,35,36,37,38,39,40,41,42,43,44,45,46,47,48] [(32,AB false)] ?_
   refine ew_ 45 rfl (x':=AB false) (ab_eq (by rw [n1,n2];simp;omega)) ?_
   refine ew_ 49 rfl (x':=AB false) (ab_eq (by simp;omega)) ?_
   refine ew_ 56 rfl (x':=AB false) (ab_eq (by rw [hlen];simp;omega)) ?_
   refine iw_ rfl (map_at ht) rfl ?_
   refine WA.x rfl hv0 (map_at hy) rfl rfl ?_
   refine w_ ?_
   refine cw_ hpl ?_
   refine z_ ?_;refine R_ ?_;rw [<-h1];exact .refl
 ·have hc: ¬i<to.length:=by simpa using hc
  have h1:=hi.2
  rw [List.drop_eq_nil_of_le (by rw [zip_len hle];omega),List.all_nil] at h1
  refine y_ ?_
  refine A.loop1 ?_
  refine y_ ?_;refine R_ ?_;rw [<-h1];exact .refl
theorem inB_11{m:Nat}(h:inB m 1 1=true):m=1:=by simp only [inB,Bool.and_eq_true,decide_eq_true_eq] at h;omega
theorem one_of{α:Type}{l:List α}(h:l.length=1): ∃a,l=[a]:=by
 match l,h with
 | [a],_=>exact ⟨a,rfl⟩
theorem typed_p(k:KN)(p:PR)(hw:WfR p)(hlk:looksB p=true):Pure Tryz.prog gs0 99 [encN k,cellsR p] (AB (kindB k.vars k.chans.length p)):=by
 obtain ⟨kd,c,v,it,to,e,gs,b⟩:=p
 have hwt:=hw.to
 have hwe:=hw.e
 have hwg:=hw.g
 have hgl:=hw.gl
 simp only [PR.to,PR.e,PR.gs] at hwt hwe hwg hgl
 by_cases k12:kd=1\/kd=2
 ·have hs:looksB ⟨kd,c,v,it,to,e,gs,b⟩=kindB k.vars k.chans.length ⟨kd,c,v,it,to,e,gs,b⟩:=by simp only [looksB,kindB,PR.kind,formK,if_pos k12,fm0]
  rw [<-hs,hlk]
  refine typed_g k ⟨kd,c,v,it,to,e,gs,b⟩ (by show kd≠3/\kd≠4/\kd≠5/\kd≠6/\kd≠7/\kd≠8/\kd≠13;omega) hwg hgl true ?_
  have h0:gs=[]:=by
   simp only [looksB,PR.kind,formK,if_pos k12,fm0,shapeR,Bool.and_eq_true] at hlk
   exact List.length_eq_zero_iff.1 (inB_0 hlk.1.2)
  subst h0;rfl
 by_cases k3:kd=3
 ·subst k3
  have hs:kindB k.vars k.chans.length ⟨3,c,v,it,to,e,gs,b⟩=(looksB ⟨3,c,v,it,to,e,gs,b⟩&&decide (0<=v)&&decide (v<k.vars.length)):=rfl
  rw [hs,hlk,Bool.true_and]
  exact typed_3 k c v it to e gs b
 by_cases k4:kd=4
 ·subst k4
  have hs:kindB k.vars k.chans.length ⟨4,c,v,it,to,e,gs,b⟩=(looksB ⟨4,c,v,it,to,e,gs,b⟩&&(to.length==e.length)&&(to.zip e).all fun te=>assignB k.vars te.1 te.2):=rfl
  have hl2:looksB ⟨4,c,v,it,to,e,gs,b⟩=shapeR ⟨4,c,v,it,to,e,gs,b⟩ false false 1 8 1 8 0 0 0 0:=rfl
  rw [hs,hlk,Bool.true_and]
  rw [hl2] at hlk
  simp only [shapeR,Bool.and_eq_true] at hlk
  have h0:gs=[]:=List.length_eq_zero_iff.1 (inB_0 hlk.1.2)
  have ht:=hlk.1.1.1.2
  simp only [inB,Bool.and_eq_true,decide_eq_true_eq,PR.to] at ht
  subst h0
  by_cases hle:to.length=e.length
  ·rw [show (to.length==e.length)=true from beq_iff_eq.2 hle,Bool.true_and]
   exact typed_4b k c v it to e b hle (by omega) hwt hwe _ rfl
  ·rw [show (to.length==e.length)=false from beq_eq_false_iff_ne.2 hle,Bool.false_and]
   match to,hle,ht with
   | [],_,ht=>simp at ht
   |t::to,hle,_=>exact typed_4a k c v it t to e b hle
 by_cases k5:kd=5
 ·subst k5
  have hs:kindB k.vars k.chans.length ⟨5,c,v,it,to,e,gs,b⟩=(looksB ⟨5,c,v,it,to,e,gs,b⟩&&to1 (inputB k.vars k.chans.length c it) to):=rfl
  have hl2:looksB ⟨5,c,v,it,to,e,gs,b⟩=shapeR ⟨5,c,v,it,to,e,gs,b⟩ true false 1 1 0 0 0 0 0 0:=rfl
  rw [hs,hlk,Bool.true_and]
  rw [hl2] at hlk
  simp only [shapeR,Bool.and_eq_true] at hlk
  obtain ⟨t,rfl⟩:=one_of (inB_11 hlk.1.1.1.2)
  exact typed_5 k c v it t (hwt t (List.mem_cons_self ..)) e gs b
 by_cases k6:kd=6
 ·subst k6
  have hs:kindB k.vars k.chans.length ⟨6,c,v,it,to,e,gs,b⟩=(looksB ⟨6,c,v,it,to,e,gs,b⟩&&chanB k.chans.length c it 0&&fit1 k.vars e it):=rfl
  have hl2:looksB ⟨6,c,v,it,to,e,gs,b⟩=shapeR ⟨6,c,v,it,to,e,gs,b⟩ true false 0 0 1 1 0 0 0 0:=rfl
  rw [hs,hlk,Bool.true_and]
  rw [hl2] at hlk
  simp only [shapeR,Bool.and_eq_true] at hlk
  obtain ⟨t,rfl⟩:=one_of (inB_11 hlk.1.1.2)
  exact typed_6 k c v it to t (hwe t (List.mem_cons_self ..)) gs b
 by_cases k7:kd=7
 ·subst k7
  have hs:kindB k.vars k.chans.length ⟨7,c,v,it,to,e,gs,b⟩=(looksB ⟨7,c,v,it,to,e,gs,b⟩&&to1 (fun t=>placeB k.vars t 1) to):=rfl
  have hl2:looksB ⟨7,c,v,it,to,e,gs,b⟩=shapeR ⟨7,c,v,it,to,e,gs,b⟩ false false 1 1 0 0 0 0 0 0:=rfl
  rw [hs,hlk,Bool.true_and]
  rw [hl2] at hlk
  simp only [shapeR,Bool.and_eq_true] at hlk
  obtain ⟨t,rfl⟩:=one_of (inB_11 hlk.1.1.1.2)
  exact typed_7 k c v it t (hwt t (List.mem_cons_self ..)) e gs b
 by_cases k8:kd=8
 ·subst k8
  have hs:kindB k.vars k.chans.length ⟨8,c,v,it,to,e,gs,b⟩=(looksB ⟨8,c,v,it,to,e,gs,b⟩&&fit1 k.vars e 1):=rfl
  have hl2:looksB ⟨8,c,v,it,to,e,gs,b⟩=shapeR ⟨8,c,v,it,to,e,gs,b⟩ false false 0 0 1 1 0 0 0 0:=rfl
  rw [hs,hlk,Bool.true_and]
  rw [hl2] at hlk
  simp only [shapeR,Bool.and_eq_true] at hlk
  obtain ⟨t,rfl⟩:=one_of (inB_11 hlk.1.1.2)
  exact typed_8 k c v it to t (hwe t (List.mem_cons_self ..)) gs b
 by_cases k13:kd=13
 ·subst k13
  have hs:kindB k.vars k.chans.length ⟨13,c,v,it,to,e,gs,b⟩=(looksB ⟨13,c,v,it,to,e,gs,b⟩&&fit1 k.vars e 3):=rfl
  have hl2:looksB ⟨13,c,v,it,to,e,gs,b⟩=shapeR ⟨13,c,v,it,to,e,gs,b⟩ false false 0 0 1 1 0 0 1 1:=rfl
  rw [hs,hlk,Bool.true_and]
  rw [hl2] at hlk
  simp only [shapeR,Bool.and_eq_true] at hlk
  obtain ⟨t,rfl⟩:=one_of (inB_11 hlk.1.1.2)
  exact typed_13 k c v it to t (hwe t (List.mem_cons_self ..)) gs b
 ·refine typed_g k ⟨kd,c,v,it,to,e,gs,b⟩ (by show kd≠3/\kd≠4/\kd≠5/\kd≠6/\kd≠7/\kd≠8/\kd≠13;omega) hwg hgl _ ?_
  by_cases k9:kd=9
  ·subst k9
   have hs:kindB k.vars k.chans.length ⟨9,c,v,it,to,e,gs,b⟩=looksB ⟨9,c,v,it,to,e,gs,b⟩:=rfl
   have hl2:looksB ⟨9,c,v,it,to,e,gs,b⟩=shapeR ⟨9,c,v,it,to,e,gs,b⟩ false false 0 0 0 0 0 0 0 2048:=rfl
   rw [hs,hlk]
   rw [hl2] at hlk
   simp only [shapeR,Bool.and_eq_true] at hlk
   have h0:gs=[]:=List.length_eq_zero_iff.1 (inB_0 hlk.1.2)
   subst h0;rfl
  by_cases k10:kd=10
  ·subst k10
   have hs:kindB k.vars k.chans.length ⟨10,c,v,it,to,e,gs,b⟩=looksB ⟨10,c,v,it,to,e,gs,b⟩:=rfl
   have hl2:looksB ⟨10,c,v,it,to,e,gs,b⟩=shapeR ⟨10,c,v,it,to,e,gs,b⟩ false false 0 0 0 0 0 0 0 16:=rfl
   rw [hs,hlk]
   rw [hl2] at hlk
   simp only [shapeR,Bool.and_eq_true] at hlk
   have h0:gs=[]:=List.length_eq_zero_iff.1 (inB_0 hlk.1.2)
   subst h0;rfl
  by_cases k11:kd=11
  ·subst k11
   have hs:kindB k.vars k.chans.length ⟨11,c,v,it,to,e,gs,b⟩=looksB ⟨11,c,v,it,to,e,gs,b⟩:=rfl
   have hl2:looksB ⟨11,c,v,it,to,e,gs,b⟩=shapeR ⟨11,c,v,it,to,e,gs,b⟩ false false 0 0 0 0 0 0 2 2:=rfl
   rw [hs,hlk]
   rw [hl2] at hlk
   simp only [shapeR,Bool.and_eq_true] at hlk
   have h0:gs=[]:=List.length_eq_zero_iff.1 (inB_0 hlk.1.2)
   subst h0;rfl
  by_cases kc:kd=12\/kd=14\/kd=15
  ·have hs:kindB k.vars k.chans.length ⟨kd,c,v,it,to,e,gs,b⟩=(looksB ⟨kd,c,v,it,to,e,gs,b⟩&&gs.all fun g=>guardB k.vars k.chans.length g (kd==12)):=by
    rcases kc with rfl|rfl|rfl<;>rfl
   rw [hs,hlk,Bool.true_and]
  ·have:looksB ⟨kd,c,v,it,to,e,gs,b⟩=false:=by
    simp only [looksB,PR.kind,formK,if_neg k12,if_neg k3,if_neg k4,if_neg k5,if_neg k6,if_neg k7,if_neg k8,if_neg k9,if_neg k10,if_neg k11,if_neg kc,if_neg k13]
   rw [this] at hlk;cases hlk
theorem looks_of_kind{l:List KV}{n:Nat}{p:PR}(h:looksB p=false):kindB l n p=false:=by
 cases hk:kindB l n p with
 |false=>rfl
 |true=>
  obtain ⟨kd,c,v,it,to,e,gs,b⟩:=p
  have hr:=kind_bodies hk
  exfalso
  simp only [PR.kind] at hr
  rcases kinds_15 ⟨hr.1,hr.2.1⟩ with rfl|rfl|rfl|rfl|rfl|rfl|rfl|rfl|rfl|rfl|rfl|rfl|rfl|rfl|rfl
  ·have hs:kindB l n ⟨1,c,v,it,to,e,gs,b⟩=(looksB ⟨1,c,v,it,to,e,gs,b⟩):=rfl
   rw [hs,h] at hk;simp at hk
  ·have hs:kindB l n ⟨2,c,v,it,to,e,gs,b⟩=(looksB ⟨2,c,v,it,to,e,gs,b⟩):=rfl
   rw [hs,h] at hk;simp at hk
  ·have hs:kindB l n ⟨3,c,v,it,to,e,gs,b⟩=(looksB ⟨3,c,v,it,to,e,gs,b⟩&&decide (0<=v)&&decide (v<l.length)):=rfl
   rw [hs,h] at hk;simp at hk
  ·have hs:kindB l n ⟨4,c,v,it,to,e,gs,b⟩=(looksB ⟨4,c,v,it,to,e,gs,b⟩&&(to.length==e.length)&&(to.zip e).all fun te=>assignB l te.1 te.2):=rfl
   rw [hs,h] at hk;simp at hk
  ·have hs:kindB l n ⟨5,c,v,it,to,e,gs,b⟩=(looksB ⟨5,c,v,it,to,e,gs,b⟩&&to1 (inputB l n c it) to):=rfl
   rw [hs,h] at hk;simp at hk
  ·have hs:kindB l n ⟨6,c,v,it,to,e,gs,b⟩=(looksB ⟨6,c,v,it,to,e,gs,b⟩&&chanB n c it 0&&fit1 l e it):=rfl
   rw [hs,h] at hk;simp at hk
  ·have hs:kindB l n ⟨7,c,v,it,to,e,gs,b⟩=(looksB ⟨7,c,v,it,to,e,gs,b⟩&&to1 (fun t=>placeB l t 1) to):=rfl
   rw [hs,h] at hk;simp at hk
  ·have hs:kindB l n ⟨8,c,v,it,to,e,gs,b⟩=(looksB ⟨8,c,v,it,to,e,gs,b⟩&&fit1 l e 1):=rfl
   rw [hs,h] at hk;simp at hk
  ·have hs:kindB l n ⟨9,c,v,it,to,e,gs,b⟩=(looksB ⟨9,c,v,it,to,e,gs,b⟩):=rfl
   rw [hs,h] at hk;simp at hk
  ·have hs:kindB l n ⟨10,c,v,it,to,e,gs,b⟩=(looksB ⟨10,c,v,it,to,e,gs,b⟩):=rfl
   rw [hs,h] at hk;simp at hk
  ·have hs:kindB l n ⟨11,c,v,it,to,e,gs,b⟩=(looksB ⟨11,c,v,it,to,e,gs,b⟩):=rfl
   rw [hs,h] at hk;simp at hk
  ·have hs:kindB l n ⟨12,c,v,it,to,e,gs,b⟩=(looksB ⟨12,c,v,it,to,e,gs,b⟩&&gs.all fun g=>guardB l n g ((12:Int)==12)):=rfl
   rw [hs,h] at hk;simp at hk
  ·have hs:kindB l n ⟨13,c,v,it,to,e,gs,b⟩=(looksB ⟨13,c,v,it,to,e,gs,b⟩&&fit1 l e 3):=rfl
   rw [hs,h] at hk;simp at hk
  ·have hs:kindB l n ⟨14,c,v,it,to,e,gs,b⟩=(looksB ⟨14,c,v,it,to,e,gs,b⟩&&gs.all fun g=>guardB l n g ((14:Int)==12)):=rfl
   rw [hs,h] at hk;simp at hk
  ·have hs:kindB l n ⟨15,c,v,it,to,e,gs,b⟩=(looksB ⟨15,c,v,it,to,e,gs,b⟩&&gs.all fun g=>guardB l n g ((15:Int)==12)):=rfl
   rw [hs,h] at hk;simp at hk
abbrev innA(k:KN)(deep:Int)(high:Bool):AV:= .ag [varsA k.vars,chsA k.chans,AU8 k.root.kind,AI k.root.c,AI k.root.v,AU8 k.root.item,plsA k.root.to,kesA k.root.e,gsA k.root.gs,rsA k.root.l,intsA k.procs,AI deep,AB high]
theorem innA_eq(k:KN){d d':Int}{h h':Bool}(h1:d=d')(h2:h=h'):innA k d h=innA k d' h':=by rw [h1,h2]
def leftI(k:KN)(high:Bool)(deep:Int)(p:PR)(n:Int):Int:=if fitsR k.vars k.chans.length high p n (32-deep) then n-szR p else-1
abbrev leftE(k:KN)(p:PR)(deep:Int)(high:Bool)(n:Int):Prop:=Pure Tryz.prog gs0 61 [innA k deep high,cellsR p,AI n] (AI (leftI k high deep p n))
theorem left_a(k:KN)(p:PR)(deep:Int)(high:Bool)(n:Int)(hz:n=0\/deep=32)(r0:0<=n)(d1:deep<=32):leftE k p deep high n:=by
 have hnf: ¬fitsR k.vars k.chans.length high p n (32-deep):=fitsR_no (by omega)
 unfold leftE
 refine p_ tt_ok Tryz.func61 104 fun w0 h0 F hgs=>?_
 (refine gb_ fun bx=>?_;refine gb_ fun bx=>?_;refine g_ ?_)
 refine A.valE 16 rfl (x':=AB true) (ab_eq (by simp;omega)) ?_
 (refine y_ ?_;refine R_ ?_;exact Sb.eq (ai_eq (if_neg hnf).symm))
theorem left_b(k:KN)(p:PR)(deep:Int)(high:Bool)(n:Int)(hlk:looksB p=false):leftE k p deep high n:=by
 have hnf: ¬fitsR k.vars k.chans.length high p n (32-deep):=fitsR_no (.inr (.inr (.inl (looks_of_kind hlk))))
 have h1:=looks_p p
 rw [hlk] at h1
 unfold leftE
 refine p_ tt_ok Tryz.func61 104 fun w0 h0 F hgs=>?_
 (repeat' first|first|refine A.s rfl ?_|refine A.r rfl rfl ?_|refine A.w rfl rfl ?_|refine A.p rfl ?_|refine A.b rfl fun bx=>?_|refine A.t rfl fun bl=>?_|refine A.c rfl h1 .refl ?_|((fail_if_success (refine A.lit? rfl ?_));refine A.gS rfl (fun hc=>?_) (fun hc=>?_))|((fail_if_success (refine A.litP? rfl ?_));refine A.gSP rfl (fun hc=>?_) (fun hc=>?_)))
 all_goals (refine R_ ?_;exact Sb.eq (ai_eq (if_neg hnf).symm))
theorem left_c(k:KN)(p:PR)(hw:wfR p)(deep:Int)(high:Bool)(n:Int)(hlk:looksB p=true)(hk:kindB k.vars k.chans.length p=false):leftE k p deep high n:=by
 have hnf: ¬fitsR k.vars k.chans.length high p n (32-deep):=fitsR_no (.inr (.inr (.inl hk)))
 have h1:=looks_p p
 have h2:=typed_p k p (wfR_all hw) hlk
 rw [hlk] at h1
 rw [hk] at h2
 unfold leftE
 refine p_ tt_ok Tryz.func61 104 fun w0 h0 F hgs=>?_
 (repeat' first|first|refine A.s rfl ?_|refine A.r rfl rfl ?_|refine A.w rfl rfl ?_|refine A.p rfl ?_|refine A.b rfl fun bx=>?_|refine A.t rfl fun bl=>?_|refine A.c rfl h1 .refl ?_|refine A.c rfl h2 .refl ?_|((fail_if_success (refine A.lit? rfl ?_));refine A.gS rfl (fun hc=>?_) (fun hc=>?_))|((fail_if_success (refine A.litP? rfl ?_));refine A.gSP rfl (fun hc=>?_) (fun hc=>?_)))
 all_goals (refine R_ ?_;exact Sb.eq (ai_eq (if_neg hnf).symm))
theorem left_d(k:KN)(p:PR)(hw:wfR p)(deep:Int)(n:Int)(hlk:looksB p=true)(hk:kindB k.vars k.chans.length p=true)(h11:p.kind=11):leftE k p deep true n:=by
 have hnf: ¬fitsR k.vars k.chans.length true p n (32-deep):=fitsR_no (.inr (.inr (.inr (by rw [h11];rfl))))
 have h1:=looks_p p
 have h2:=typed_p k p (wfR_all hw) hlk
 rw [hlk] at h1
 rw [hk] at h2
 unfold leftE
 have hkk:(p.kind==11)=true:=by rw [h11];rfl
 refine p_ tt_ok Tryz.func61 104 fun w0 h0 F hgs=>?_
 (repeat' first|first|refine A.s rfl ?_|refine A.r rfl rfl ?_|refine A.w rfl rfl ?_|refine A.p rfl ?_|refine A.b rfl fun bx=>?_|refine A.t rfl fun bl=>?_|refine A.c rfl h1 .refl ?_|refine A.c rfl h2 .refl ?_|((fail_if_success (refine A.lit? rfl ?_));refine A.gS rfl (fun hc=>?_) (fun hc=>?_))|((fail_if_success (refine A.litP? rfl ?_));refine A.gSP rfl (fun hc=>?_) (fun hc=>?_)))
 all_goals first|(refine R_ ?_;exact Sb.eq (ai_eq (if_neg hnf).symm))|(exact absurd hkk (by simp_all))
theorem left_e(k:KN)(p:PR)(hw:wfR p)(deep:Int)(high:Bool)(n:Int)(r0:1<=n)(r1:n<=2048)(d0:0<=deep)(d1:deep<32)(hlk:looksB p=true)(hk:kindB k.vars k.chans.length p=true)(hh:(high&&p.kind==11)=false)
 (ih0: ∀(y:PR) (hi:Bool) (lf:Int),wfR y->szR y<szR p->0<=lf->lf<=2048->leftE k y (deep+1) hi lf):leftE k p deep high n:=by
 have hw1:IntKind.i64.wrap (n-1)=n-1:=wr64 _ (by omega)
 have hw2:IntKind.i64.wrap (deep+1)=deep+1:=wr64 _ (by omega)
 have hwa:=wfR_all hw
 have h1:=looks_p p
 have h2:=typed_p k p hwa hlk
 rw [hlk] at h1
 rw [hk] at h2
 have hbod:=(kind_bodies hk).2.2
 have hfl:=fitsR_l (high:=high) (p:=p) (room:=n) (deep:=32-deep) r0 (by omega) hk hh
 rw [show 32-deep-1=32-(deep+1) by omega] at hfl
 have hse:=szR_eq p
 have n1:((encRl p.l).length:Int)=p.l.length:=by rw [encRl_len]
 have n2:((encGl p.gs).length:Int)=p.gs.length:=by rw [encGl_len]
 unfold leftE
 refine p_ tt_ok Tryz.func61 104 fun w0 h0 F hgs=>?_
 (refine gb_ fun bx=>?_;refine gb_ fun bx=>?_;refine g_ ?_)
 refine A.valE 16 rfl (x':=AB false) (ab_eq (by rw [Bool.eq_iff_iff];simp;omega)) ?_
 refine c_ h1 ?_
 refine n_ h2 ?_
 refine g_ ?_
 refine e_ 36 rfl (x':=AB false) (ab_eq (by revert hh;generalize (p.kind==11)=b11;cases high<;>cases b11<;>simp)) ?_
 refine A.valE 2 rfl (x':=AI (n-1)) (ai_eq hw1) ?_
 refine A.keep [2,3,4,7] rfl ?_
 refine A.loopP (ι:=Nat×Int) (fun q=>(⟨[(2,AI q.2),(3,ptrA _),(4,ptrA _),(7,AI (q.1:Nat))],[]⟩,[.box _ (cellsR p), .box _ (innA k deep high)]))
  (fun q=>q.1<=p.l.length/\((fitsPs k.vars k.chans.length high (p.kind==11) (p.l.take q.1) (n-1) (32-(deep+1))/\q.2=n-1-(szL (p.l.take q.1):Nat))\/(q.2= -1/\ ¬fitsR k.vars k.chans.length high p n (32-deep)))) (fun q=>p.l.length-q.1) (0,n-1) ⟨Nat.zero_le _, .inl ⟨⟨by simp [okL],by simp [szL];omega,by simp [htL];omega⟩,by simp [szL]⟩⟩ rfl fun q hi ih=>?_
 obtain ⟨i,lf⟩:=q
 obtain ⟨hi1,hi2⟩:=hi
 simp only at hi1 hi2
 by_cases hlf:lf<0
 ·have hneg:lf= -1/\ ¬fitsR k.vars k.chans.length high p n (32-deep):=by
   rcases hi2 with ⟨hf,he⟩|h
   ·have:=hf.2.1;omega
   ·exact h
  have hnf:=hneg.2
  have hlf1:=hneg.1
  subst hlf1
  refine g_ ?_
  refine e_ 47 rfl (x':=AB false) (ab_eq (by simp)) ?_
  refine A.loop1 ?_
  refine g_ ?_
  refine e_ 82 rfl (x':=AB false) (ab_eq (by simp)) ?_;refine R_ ?_;exact Sb.eq (ai_eq (if_neg hnf).symm)
 have hpos:fitsPs k.vars k.chans.length high (p.kind==11) (p.l.take i) (n-1) (32-(deep+1))/\lf=n-1-(szL (p.l.take i):Nat):=by
  rcases hi2 with h|h
  ·exact h
  ·omega
 clear hi2
 obtain ⟨hi2,hi3⟩:=hpos
 have hsz2:=hi2.2.1
 refine g_ ?_
 refine A.valE 47 rfl (x':=AB (decide (i<p.l.length))) (ab_eq (by rw [n1,Bool.eq_iff_iff];simp;omega)) ?_
 refine k_ (fun hc=>?_) fun hc=>?_
 ·have hc:i<p.l.length:=by simpa using hc
  refine Exists.elim (at_exN (l:=p.l) (i:=i) (by omega)) fun y hy=>?_
  have hym:=List.mem_of_getElem? hy
  have htk:p.l.take (i+1)=p.l.take i++[y]:=by rw [List.take_add_one,hy];rfl
  have hsn:=fitsPs_snoc (x:=y) hi2
  rw [<-htk,<-hi3,take_empty (by omega)] at hsn
  have ihy:=ih0 y (high||((p.kind==11)&&decide (i=0))) lf (hwa.l y hym) (by have:=szL_le hym;omega) (by omega) (by omega)
  unfold leftE at ihy
  have e0:(((i:Nat):Int)==0)=decide (i=0):=by rw [Bool.eq_iff_iff];simp
  refine y_ ?_
  refine A.draw 23 [0,1,2,3,4,5,6,7,8,9,10,11,12,13,14,15,16,17,18,19,20,21,22] noPubs [] (by kernel_rfl) (by kernel_rfl) ?_
  refine v_ ?_
  refine WA.valE 66 rfl (x':=innA k (deep+1) (high||((p.kind==11)&&decide (i=0)))) (innA_eq k hw2 (by rw [e0];clear ih ihy hsn;generalize (p.kind==11)=b11;cases high<;>cases b11<;>simp)) ?_
  refine iw_ rfl (encRl_at hy) (encR_eq y) ?_
  refine WA.nil (l:=[]) rfl ?_
  refine c_ ihy ?_
  refine A.valE 7 rfl (x':=AI ((i+1:Nat):Int)) (inc_eq i (by have:=hwa.ll;omega)) ?_
  refine u_ (ih (i+1,leftI k (high||((p.kind==11)&&decide (i=0))) (deep+1) y lf) ⟨by show i+1<=_;omega,?_⟩ (by show _-(i+1)<_-i;omega))
  by_cases hfx:fitsR k.vars k.chans.length (high||((p.kind==11)&&decide (i=0))) y lf (32-(deep+1))
  ·refine .inl ⟨hsn.2 hfx,?_⟩
   show leftI k (high||((p.kind==11)&&decide (i=0))) (deep+1) y lf=n-1-(szL (p.l.take (i+1)):Nat)
   rw [leftI,if_pos hfx,htk,szL_append,hi3];simp [szL];omega
  ·exact .inr ⟨if_neg hfx,fun hf=>hfx (hsn.1 (fitsPs_take (hfl.1 hf).1 (i+1)))⟩
 have hc: ¬i<p.l.length:=by simpa using hc
 have hil:i=p.l.length:=by omega
 rw [hil,List.take_length] at hi2 hi3
 have hszl:=hi2.2.1
 refine y_ ?_
 refine A.keep [2,3,4,8] rfl ?_
 refine A.loopP (ι:=Nat×Int) (fun q=>(⟨[(2,AI q.2),(3,ptrA _),(4,ptrA _),(8,AI (q.1:Nat))],[]⟩,[.box _ (cellsR p), .box _ (innA k deep high)]))
  (fun q=>q.1<=p.gs.length/\((fitsGs k.vars k.chans.length high (p.gs.take q.1) (n-1-(szL p.l:Nat)) (32-(deep+1))/\q.2=n-1-(szL p.l:Nat)-(szGs (p.gs.take q.1):Nat))\/(q.2= -1/\ ¬fitsR k.vars k.chans.length high p n (32-deep)))) (fun q=>p.gs.length-q.1) (0,lf) ⟨Nat.zero_le _, .inl ⟨⟨by simp [okGs],by simp [szGs];omega,by simp [htGs];omega⟩,by simp [szGs];omega⟩⟩ rfl fun q hj jh=>?_
 obtain ⟨j,lg⟩:=q
 obtain ⟨hj1,hj2⟩:=hj
 simp only at hj1 hj2
 by_cases hlg:lg<0
 ·have hneg:lg= -1/\ ¬fitsR k.vars k.chans.length high p n (32-deep):=by
   rcases hj2 with ⟨hf,he⟩|h
   ·have:=hf.2.1;omega
   ·exact h
  have hnf:=hneg.2
  have hlg1:=hneg.1
  subst hlg1
  refine g_ ?_
  refine e_ 82 rfl (x':=AB false) (ab_eq (by simp)) ?_;refine R_ ?_;exact Sb.eq (ai_eq (if_neg hnf).symm)
 have hpos:fitsGs k.vars k.chans.length high (p.gs.take j) (n-1-(szL p.l:Nat)) (32-(deep+1))/\lg=n-1-(szL p.l:Nat)-(szGs (p.gs.take j):Nat):=by
  rcases hj2 with h|h
  ·exact h
  ·omega
 clear hj2
 obtain ⟨hj2,hj3⟩:=hpos
 have hsz3:=hj2.2.1
 refine g_ ?_
 refine A.valE 82 rfl (x':=AB (decide (j<p.gs.length))) (ab_eq (by rw [n2,Bool.eq_iff_iff];simp;omega)) ?_
 refine k_ (fun hc=>?_) fun hc=>?_
 ·have hc:j<p.gs.length:=by simpa using hc
  refine Exists.elim (at_exN (l:=p.gs) (i:=j) (by omega)) fun g hg=>?_
  have hgm:=List.mem_of_getElem? hg
  refine Exists.elim (hbod g hgm) fun y hy=>?_
  have htk:p.gs.take (j+1)=p.gs.take j++[g]:=by rw [List.take_add_one,hg];rfl
  have hsn:=fitsGs_snoc hy hj2
  rw [<-htk,<-hj3] at hsn
  have hszy:szR y<=szGs p.gs:=by have:=szGs_le hgm;rw [szG_eq,hy,szL,szL] at this;omega
  have ihy:=ih0 y high lg ((wfG_all (hwa.g g hgm)).body y (by rw [hy];exact List.mem_cons_self ..)) (by omega) (by omega) (by omega)
  unfold leftE at ihy
  refine y_ ?_
  refine d_ 17 [0,1,2,3,4,5,6,7,8,9,10,11,12,13,14,15,16] [] ?_
  refine WA.valE 92 rfl (x':=innA k (deep+1) high) (innA_eq k hw2 rfl) ?_
  refine iw_ rfl (encGl_at hg) (encG_eq g) ?_
  refine iw_ rfl (show (encRl g.body)[(0:Int).toNat]? =some (encR y) from encRl_at (by rw [hy];rfl)) (encR_eq y) ?_
  refine WA.nil (l:=[]) rfl ?_
  refine c_ ihy ?_
  refine A.valE 8 rfl (x':=AI ((j+1:Nat):Int)) (inc_eq j (by have:=hwa.gl;omega)) ?_
  refine u_ (jh (j+1,leftI k high (deep+1) y lg) ⟨by show j+1<=_;omega,?_⟩ (by show _-(j+1)<_-j;omega))
  by_cases hfx:fitsR k.vars k.chans.length high y lg (32-(deep+1))
  ·refine .inl ⟨hsn.2 hfx,?_⟩
   show leftI k high (deep+1) y lg=n-1-(szL p.l:Nat)-(szGs (p.gs.take (j+1)):Nat)
   have e2:szGs [g]=szR y:=by rw [szGs,szGs,szG_eq,hy,szL,szL];omega
   rw [leftI,if_pos hfx,htk,szGs_append,hj3,e2];omega
  ·exact .inr ⟨if_neg hfx,fun hf=>hfx (hsn.1 (fitsGs_take (hfl.1 hf).2 (j+1)))⟩
 have hc: ¬j<p.gs.length:=by simpa using hc
 have hjl:j=p.gs.length:=by omega
 rw [hjl,List.take_length] at hj2 hj3
 refine y_ ?_;refine R_ ?_
 refine Sb.eq (ai_eq ?_)
 rw [leftI,if_pos (hfl.2 ⟨hi2,hj2⟩)];omega
theorem left_p(k:KN): ∀(N:Nat) (p:PR) (deep:Int) (high:Bool) (n:Int),szR p<=N->wfR p->0<=n->n<=2048->0<=deep->deep<=32->leftE k p deep high n
 |0,p,_,_,_,hn,_,_,_,_,_=>by have:=szR_pos p;omega
 |N+1,p,deep,high,n,hn,hw,r0,r1,d0,d1=>by
  by_cases hz:n=0\/deep=32
  ·exact left_a k p deep high n hz r0 d1
  cases hlk:looksB p with
  |false=>exact left_b k p deep high n hlk
  |true=>
   cases hkb:kindB k.vars k.chans.length p with
   |false=>exact left_c k p hw deep high n hlk hkb
   |true=>
    cases hh:(high&&p.kind==11) with
    |true=>
     simp only [Bool.and_eq_true,beq_iff_eq] at hh
     rw [hh.1]
     exact left_d k p hw deep n hlk hkb hh.2
    |false=>exact left_e k p hw deep high n (by omega) r1 d0 (by omega) hlk hkb hh fun y hi lf hwy hsz l0 l1=>left_p k N y (deep+1) hi lf (by omega) hwy l0 l1 (by omega) (by omega)
def finK(k:KN):Bool:=k.root.kind==10&&k.root.l.length==k.procs.length
def placedK(k:KN):Bool:=k.procs.length==0||(okPr [] k.procs&&finK k)
theorem placed_a(k:KN)(h:k.procs.length=0):Pure Tryz.prog gs0 59 [encN k] (AB true):=by
 have n3:((k.procs.map AI).length:Int)=k.procs.length:=by rw [List.length_map]
 refine p_ tt_ok Tryz.func59 60 fun w0 h0 F hgs=>?_
 (refine b_ fun bx=>?_;refine y_ ?_)
 refine e_ 8 rfl (x':=AB true) (ab_eq (by rw [n3,h];rfl)) ?_;exact r_
theorem placed_b(k:KN)(hw:WfN k)(h:k.procs.length≠0)(R:Bool)(hR:(okPr [] k.procs&&finK k)=R):Pure Tryz.prog gs0 59 [encN k] (AB R):=by
 have n3:((k.procs.map AI).length:Int)=k.procs.length:=by rw [List.length_map]
 have n4:((encRl k.root.l).length:Int)=k.root.l.length:=by rw [encRl_len]
 have hpl:=hw.procs
 refine p_ tt_ok Tryz.func59 60 fun w0 h0 F hgs=>?_
 (refine b_ fun bx=>?_;refine y_ ?_)
 refine e_ 8 rfl (x':=AB false) (ab_eq (by rw [n3];exact beq_eq_false_iff_ne.2 (by omega))) ?_
 refine A.keep [1,3] rfl ?_
 refine A.loopP (ι:=Nat) (fun i=>(⟨[(1,ptrA _),(3,AI (i:Nat))],[]⟩,[.box _ (encN k)])) (fun i=>i<=k.procs.length/\(okPr (k.procs.take i) (k.procs.drop i)&&finK k)=R) (fun i=>k.procs.length-i) 0 ⟨by omega,hR⟩ rfl fun i hi ih=>?_
 refine y_ ?_
 refine A.valE 13 rfl (x':=AB (decide (i<k.procs.length))) (ab_eq (by rw [n3,Bool.eq_iff_iff];simp)) ?_
 refine k_ (fun hc=>?_) fun hc=>?_
 ·have hc:i<k.procs.length:=by simpa using hc
  refine Exists.elim (at_exN (l:=k.procs) (i:=i) hc) fun v hv=>?_
  have h1:=hi.2
  rw [drop_at hv,okPr] at h1
  have htk:k.procs.take (i+1)=k.procs.take i++[v]:=by rw [List.take_add_one,hv];rfl
  rw [<-htk] at h1
  refine Exists.elim (show∃R2,R2=(okPr (k.procs.take (i+1)) (k.procs.drop (i+1))&&finK k) from ⟨_,rfl⟩) fun R2 hR2=>?_
  have h2:(decide (0<=v)&&decide (v<8)&& !(k.procs.take i).contains v&&R2)=R:=by rw [hR2,<-h1];simp only [Bool.and_assoc]
  refine y_ ?_
  refine A.keep [1,3,4] rfl ?_
  refine A.loopP (ι:=Nat) (fun j=>(⟨[(1,ptrA _),(3,AI (i:Nat)),(4,AI (j:Nat))],[]⟩,[.box _ (encN k)])) (fun j=>j<=i/\(k.procs.take i).contains v=((k.procs.take i).drop j).contains v) (fun j=>i-j) 0 ⟨by omega,rfl⟩ rfl fun j hj jh=>?_
  refine y_ ?_
  refine A.valE 18 rfl (x':=AB (decide (j<i))) (ab_eq (by rw [Bool.eq_iff_iff];simp)) ?_
  refine k_ (fun hc=>?_) fun hc=>?_
  ·have hd:j<i:=by simpa using hc
   refine Exists.elim (at_exN (l:=k.procs) (i:=j) (by omega)) fun u hu=>?_
   have hut:(k.procs.take i)[j]? =some u:=by rw [List.getElem?_take,if_pos hd,hu]
   have h3:=hj.2
   rw [drop_at hut,List.contains_cons] at h3
   refine y_ ?_
   refine d_ 10 [0,1,2,3,4,5,6,7,8,9] [] ?_
   refine iw_ rfl (map_at hu) rfl ?_
   refine iw_ rfl (map_at hv) rfl ?_
   refine z_ ?_
   refine k_ (fun hc=>?_) fun hc=>?_
   ·have he:u=v:=by simpa using hc
    rw [he] at h3
    simp only [BEq.rfl,Bool.true_or] at h3
    rw [h3] at h2
    simp only [Bool.not_true,Bool.and_false,Bool.false_and] at h2
    refine y_ ?_;refine R_ ?_;rw [<-h2];exact .refl
   ·have he:(v==u)=false:=by have:(u==v)=false:=hc;rw [beq_eq_false_iff_ne] at this⊢;exact fun h=>this h.symm
    rw [he,Bool.false_or] at h3
    refine y_ ?_
    refine A.valE 4 rfl (x':=AI ((j+1:Nat):Int)) (inc_eq j (by omega)) ?_
    refine u_ (jh (j+1) ⟨by omega,h3⟩ (by omega))
  have hd: ¬j<i:=by simpa using hc
  have hji:j=i:=by omega
  have h3:=hj.2
  rw [hji,List.drop_eq_nil_of_le (by rw [List.length_take];omega),List.contains_nil] at h3
  rw [h3,Bool.not_false,Bool.and_true] at h2
  refine y_ ?_
  refine i_ rfl (map_at hv) rfl ?_
  ((fail_if_success (refine A.lit? rfl ?_));refine A.gS rfl (fun hc=>?_) (fun hc=>?_))
  ·have hc0:v<0:=by simpa using hc
   rw [decide_eq_false (by omega)] at h2
   simp only [Bool.false_and] at h2
   refine y_ ?_;refine R_ ?_;rw [<-h2];exact .refl
  have hc0:0<=v:=by simpa using hc
  refine y_ ?_
  refine i_ rfl (map_at hv) rfl ?_
  refine k_ (fun hc=>?_) fun hc=>?_
  ·have hc1:8<=v:=by simpa using hc
   rw [decide_eq_false (p:=v<8) (by omega)] at h2
   simp only [Bool.false_and,Bool.and_false] at h2
   refine y_ ?_;refine R_ ?_;rw [<-h2];exact .refl
  have hc1:v<8:=by simpa using hc
  rw [decide_eq_true hc0,decide_eq_true hc1,Bool.true_and,Bool.true_and,hR2] at h2
  refine y_ ?_
  refine A.valE 3 rfl (x':=AI ((i+1:Nat):Int)) (inc_eq i (by omega)) ?_
  refine u_ (ih (i+1) ⟨by omega,h2⟩ (by omega))
 have hc: ¬i<k.procs.length:=by simpa using hc
 have hil:i=k.procs.length:=by omega
 have h1:=hi.2
 rw [hil,List.drop_length,okPr,Bool.true_and,finK] at h1
 refine g_ ?_;refine R_ ?_
 refine Sb.eq (ab_eq ?_)
 rw [<-h1,n3,n4]
 generalize (k.root.kind==10)=b10
 cases b10 with
 |false=>rfl
 |true=>clear ih hi h1;rw [Bool.eq_iff_iff];simp;omega
theorem placed_p(k:KN)(hw:WfN k):Pure Tryz.prog gs0 59 [encN k] (AB (placedK k)):=by
 unfold placedK
 by_cases h:k.procs.length=0
 ·rw [show (k.procs.length==0)=true from beq_iff_eq.2 h,Bool.true_or];exact placed_a k h
 ·rw [show (k.procs.length==0)=false from beq_eq_false_iff_ne.2 h,Bool.false_or];exact placed_b k hw h _ rfl
theorem mayK_eq(k:KN):mayK k=(lensK k&&placedK k&&k.vars.all varOk&&okCh 0 k.chans&&decide (fitsR k.vars k.chans.length false k.root 2048 32)):=by
 unfold mayK
 have:(rootK k&&okPr [] k.procs)=placedK k:=by
  unfold rootK placedK finK
  by_cases h:k.procs.length=0
  ·rw [show (k.procs.length==0)=true from beq_iff_eq.2 h,List.length_eq_zero_iff.1 h];rfl
  ·rw [show (k.procs.length==0)=false from beq_eq_false_iff_ne.2 h,Bool.false_or,Bool.false_or,Bool.and_comm]
 rw [<-this]
 simp only [Bool.and_assoc]
theorem rmay_a(k:KN)(hw:WfN k)(h:(lensK k&&placedK k)=false):Pure Tryz.prog gs0 26 [encN k] (AB false):=by
 have n1:((k.vars.map encV).length:Int)=k.vars.length:=by rw [List.length_map]
 have n2:((k.chans.map AU8).length:Int)=k.chans.length:=by rw [List.length_map]
 have hpc:=placed_p k hw
 refine p_ tt_ok Tryz.func26 86 fun w0 h0 F hgs=>?_
 (refine gb_ fun bx=>?_;refine g_ ?_)
 refine A.valE 22 rfl (x':=AB (!lensK k)) (ab_eq ?_) ?_
 ·rw [n1,n2,lensK,Bool.eq_iff_iff];simp;omega
 cases hlk:lensK k with
 |false=>exact yr_
 |true=>
  rw [hlk,Bool.true_and] at h
  rw [h] at hpc
  exact cr_ hpc
theorem rmay_b(k:KN)(hw:WfN k)(h:(lensK k&&placedK k)=true)(R:Bool)(hR:(k.vars.all varOk&&(okCh 0 k.chans&&decide (fitsR k.vars k.chans.length false k.root 2048 32)))=R):Pure Tryz.prog gs0 26 [encN k] (AB R):=by
 have n1:((k.vars.map encV).length:Int)=k.vars.length:=by rw [List.length_map]
 have n2:((k.chans.map AU8).length:Int)=k.chans.length:=by rw [List.length_map]
 rw [Bool.and_eq_true] at h
 have hlk:k.vars.length<=256/\2<=k.chans.length/\k.chans.length<=64:=by have:=h.1;simp only [lensK,Bool.and_eq_true,decide_eq_true_eq] at this;omega
 have hpc:=placed_p k hw
 rw [h.2] at hpc
 refine Exists.elim (show∃R2,R2=(okCh 0 k.chans&&decide (fitsR k.vars k.chans.length false k.root 2048 32)) from ⟨_,rfl⟩) fun R2 hR2=>?_
 rw [<-hR2] at hR
 refine p_ tt_ok Tryz.func26 86 fun w0 h0 F hgs=>?_
 (refine gb_ fun bx=>?_;refine g_ ?_)
 refine A.valE 22 rfl (x':=AB false) (ab_eq ?_) ?_
 ·rw [n1,n2,Bool.eq_iff_iff];simp;omega
 refine c_ hpc ?_
 refine A.keep [1,3] rfl ?_
 refine A.loopP (ι:=Nat) (fun i=>(⟨[(1,ptrA _),(3,AI (i:Nat))],[]⟩,[.box _ (encN k)])) (fun i=>i<=k.vars.length/\((k.vars.drop i).all varOk&&R2)=R) (fun i=>k.vars.length-i) 0 ⟨by omega,hR⟩ rfl fun j hi ih=>?_
 refine y_ ?_
 refine A.valE 31 rfl (x':=AB (decide (j<k.vars.length))) (ab_eq (by rw [n1,Bool.eq_iff_iff];simp)) ?_
 refine k_ (fun hc=>?_) fun hc=>?_
 ·have hc:j<k.vars.length:=by simpa using hc
  refine Exists.elim (at_exN (l:=k.vars) (i:=j) (by omega)) fun v hv=>?_
  have h2:=hi.2
  rw [drop_at hv,List.all_cons,varOk] at h2
  refine y_ ?_
  refine i_ rfl (map_at hv) rfl ?_
  refine c_ (rprim_p v.kind) ?_
  ((fail_if_success (refine A.lit? rfl ?_));refine A.gS rfl (fun hc=>?_) (fun hc=>?_))
  ·have hc0:primB v.kind=false:=by simpa using hc
   rw [hc0] at h2
   refine y_ ?_;refine R_ ?_;rw [<-h2];exact .refl
  have hc0:primB v.kind=true:=by simpa using hc
  refine y_ ?_
  refine i_ rfl (map_at hv) rfl ?_
  ((fail_if_success (refine A.lit? rfl ?_));refine A.gS rfl (fun hc=>?_) (fun hc=>?_))
  ·have hc1:v.dim<0:=by simpa using hc
   rw [decide_eq_false (p:=0<=v.dim) (by omega),Bool.and_false] at h2
   refine y_ ?_;refine R_ ?_;rw [<-h2];exact .refl
  have hc1:0<=v.dim:=by simpa using hc
  refine y_ ?_
  refine i_ rfl (map_at hv) rfl ?_
  refine k_ (fun hc=>?_) fun hc=>?_
  ·have hc2:64<v.dim:=by simpa using hc
   rw [decide_eq_false (p:=v.dim<=64) (by omega),Bool.and_false] at h2
   refine y_ ?_;refine R_ ?_;rw [<-h2];exact .refl
  ·have hc2:v.dim<=64:=by simpa using hc
   rw [hc0,decide_eq_true hc1,decide_eq_true hc2] at h2
   simp only [Bool.true_and] at h2
   refine y_ ?_
   refine A.valE 3 rfl (x':=AI ((j+1:Nat):Int)) (inc_eq j (by omega)) ?_
   refine u_ (ih (j+1) ⟨by omega,h2⟩ (by omega))
 have hc: ¬j<k.vars.length:=by simpa using hc
 have hjl:j=k.vars.length:=by omega
 have h2:=hi.2
 rw [hjl,List.drop_length,List.all_nil,Bool.true_and,hR2] at h2
 clear ih hi
 generalize hR3:decide (fitsR k.vars k.chans.length false k.root 2048 32)=R3 at h2
 have hpr:=left_p k (szR k.root) k.root 0 false 2048 (Nat.le_refl _) hw.root (by decide) (by decide) (by decide) (by decide)
 unfold leftE at hpr
 refine y_ ?_
 refine A.keep [1,4] rfl ?_
 refine A.loopP (ι:=Nat) (fun i=>(⟨[(1,ptrA _),(4,AI (i:Nat))],[]⟩,[.box _ (encN k)])) (fun i=>i<=k.chans.length/\(okCh i (k.chans.drop i)&&R3)=R) (fun i=>k.chans.length-i) 0 ⟨by omega,h2⟩ rfl fun m hi ih=>?_
 refine y_ ?_
 refine A.valE 64 rfl (x':=AB (decide (m<k.chans.length))) (ab_eq (by rw [n2,Bool.eq_iff_iff];simp)) ?_
 refine k_ (fun hc=>?_) fun hc=>?_
 ·have hc:m<k.chans.length:=by simpa using hc
  refine Exists.elim (at_exN (l:=k.chans) (i:=m) (by omega)) fun v hv=>?_
  have h3:=hi.2
  rw [drop_at hv,okCh] at h3
  by_cases m0:m=0
  ·subst m0
   rw [show wantH 0=1 from rfl] at h3
   (refine t_ fun bl=>?_;refine y_ ?_)
   refine i_ rfl rfl rfl ?_
   refine i_ rfl (map_at hv) rfl ?_
   refine k_ (fun hc=>?_) fun hc=>?_
   ·have hc:(v !=1)=true:=hc
    have hv1:(v==1)=false:=by simpa using hc
    rw [hv1] at h3
    refine y_ ?_;refine R_ ?_;rw [<-h3];exact .refl
   ·have hc:(v !=1)=false:=hc
    have hv1:(v==1)=true:=by simpa using hc
    rw [hv1,Bool.true_and] at h3
    refine y_ ?_
    refine u_ (ih 1 ⟨by omega,h3⟩ (by omega))
  by_cases m1:m=1
  ·subst m1
   rw [show wantH 1=2 from rfl] at h3
   (refine t_ fun bl=>?_;refine y_ ?_)
   refine i_ rfl rfl rfl ?_
   refine i_ rfl (map_at hv) rfl ?_
   refine k_ (fun hc=>?_) fun hc=>?_
   ·have hc:(v !=2)=true:=hc
    have hv1:(v==2)=false:=by simpa using hc
    rw [hv1] at h3
    refine y_ ?_;refine R_ ?_;rw [<-h3];exact .refl
   ·have hc:(v !=2)=false:=hc
    have hv1:(v==2)=true:=by simpa using hc
    rw [hv1,Bool.true_and] at h3
    refine y_ ?_
    refine u_ (ih 2 ⟨by omega,h3⟩ (by omega))
  ·rw [show wantH m=0 by simp [wantH,m0,m1]] at h3
   refine y_ ?_
   refine e_ 68 rfl (x':=AB false) (ab_eq (by simp;omega)) ?_
   refine i_ rfl (map_at hv) rfl ?_
   refine k_ (fun hc=>?_) fun hc=>?_
   ·have hc:(v !=0)=true:=hc
    have hv1:(v==0)=false:=by simpa using hc
    rw [hv1] at h3
    refine y_ ?_;refine R_ ?_;rw [<-h3];exact .refl
   ·have hc:(v !=0)=false:=hc
    have hv1:(v==0)=true:=by simpa using hc
    rw [hv1,Bool.true_and] at h3
    refine y_ ?_
    refine A.valE 4 rfl (x':=AI ((m+1:Nat):Int)) (inc_eq m (by omega)) ?_
    refine u_ (ih (m+1) ⟨by omega,h3⟩ (by omega))
 have hc: ¬m<k.chans.length:=by simpa using hc
 have hml:m=k.chans.length:=by omega
 have h3:=hi.2
 rw [hml,List.drop_length,okCh,Bool.true_and] at h3
 clear ih hi
 refine y_ ?_
 refine c_ hpr ?_;refine R_ ?_;refine Sb.eq (ab_eq ?_);rw [<-h3,<-hR3,leftI,show (32:Int)-0=32 from rfl]
 by_cases hf:fitsR k.vars k.chans.length false k.root 2048 32
 ·rw [if_pos hf,decide_eq_true hf];have:=hf.2.1;simp;omega
 ·rw [if_neg hf,decide_eq_false hf];rfl
theorem rmay16_p(k:KN)(hw:WfN k):Pure Tryz.prog gs0 26 [encN k] (AB (mayK k)):=by
 rw [mayK_eq]
 by_cases h:(lensK k&&placedK k)=true
 ·rw [h,Bool.true_and,Bool.and_assoc];exact rmay_b k hw h _ rfl
 ·have h:(lensK k&&placedK k)=false:=by simpa using h
  rw [h,Bool.false_and,Bool.false_and,Bool.false_and];exact rmay_a k hw h
mutual
def smK:KE->Prop
 |⟨_,_,_,_,_,l⟩=>l.length*40<=140737488355328/\smKl l
def smKl:List KE->Prop
 | []=>True
 |e::r=>smK e/\smKl r
end
def smP(p:PL):Prop:=p.ix.length*40<=140737488355328/\ ∀x,x∈p.ix->smK x
mutual
def smR:PR->Prop
 |⟨_,_,_,_,to,e,gs,l⟩=>((∀t,t∈to->smP t)/\(∀x,x∈e->smK x)/\to.length*32<=140737488355328/\e.length*40<=140737488355328/\gs.length*160<=140737488355328/\l.length*128<=140737488355328)/\smGl gs/\smRl l
def smRl:List PR->Prop
 | []=>True
 |p::r=>smR p/\smRl r
def smG:GD->Prop
 |⟨_,e,_,_,to,t,b⟩=>(smK e/\smK t/\smP to/\b.length*128<=140737488355328)/\smRl b
def smGl:List GD->Prop
 | []=>True
 |g::r=>smG g/\smGl r
end
theorem smRl_mem: ∀{l:List PR},smRl l-> ∀x,x∈l->smR x
 | [],_,x,h=>by cases h
 |y::r,hw,x,h=>by
  rw [smRl] at hw
  rcases List.mem_cons.1 h with rfl|h
  ·exact hw.1
  ·exact smRl_mem hw.2 x h
theorem smGl_mem: ∀{l:List GD},smGl l-> ∀x,x∈l->smG x
 | [],_,x,h=>by cases h
 |y::r,hw,x,h=>by
  rw [smGl] at hw
  rcases List.mem_cons.1 h with rfl|h
  ·exact hw.1
  ·exact smGl_mem hw.2 x h
structure SmR(p:PR):Prop where
 to: ∀t,t∈p.to->smP t
 e: ∀x,x∈p.e->smK x
 tol:p.to.length<=281474976710656
 el:p.e.length<=281474976710656
 gl:p.gs.length<=281474976710656
 ll:p.l.length<=281474976710656
 g: ∀g,g∈p.gs->smG g
 l: ∀x,x∈p.l->smR x
 tb:p.to.length*32<=140737488355328
 eb:p.e.length*40<=140737488355328
 gb:p.gs.length*160<=140737488355328
 lb:p.l.length*128<=140737488355328
theorem smR_all{p:PR}(h:smR p):SmR p:=by
 obtain ⟨k,c,v,i,to,e,gs,l⟩:=p
 rw [smR] at h
 obtain ⟨⟨h1,h2,h3,h4,h5,h6⟩,h7,h8⟩:=h
 exact ⟨h1,h2,by show to.length<=_;omega,by show e.length<=_;omega,by show gs.length<=_;omega,by show l.length<=_;omega,smGl_mem h7,smRl_mem h8,h3,h4,h5,h6⟩
structure SmG(g:GD):Prop where
 cond:smK g.cond
 time:smK g.time
 to:smP g.to
 bl:g.body.length<=281474976710656
 body: ∀x,x∈g.body->smR x
 bb:g.body.length*128<=140737488355328
theorem smG_all{g:GD}(h:smG g):SmG g:=by
 obtain ⟨k,e,c,i,to,t,b⟩:=g
 rw [smG] at h
 obtain ⟨⟨h1,h2,h3,h4⟩,h5⟩:=h
 exact ⟨h1,h2,h3,by show b.length<=_;omega,smRl_mem h5,h4⟩
theorem pr_lt{p x:PR}(h:x∈p.l):SizeOf.sizeOf x<SizeOf.sizeOf p:=by
 obtain ⟨k,c,v,i,to,e,gs,l⟩:=p
 have:=List.sizeOf_lt_of_mem h
 simp only [PR.mk.sizeOf_spec,PR.l] at this⊢
 omega
def skipR:PR:=⟨1,0,0,0,[],[],[],[]⟩
abbrev plainA(k:Int):AV:= .ag [AU8 k,AI 0,AI 0,AU8 0,plsA [],kesA [],gsA [],rsA []]
mutual
def tgR:PR->Prop
 |⟨_,_,_,_,_,_,_,l⟩=>l.length<=134217728/\tgRl l
def tgRl:List PR->Prop
 | []=>True
 |p::r=>tgR p/\tgRl r
end
theorem smRl_of: ∀{l:List PR},(∀x,x∈l->smR x)->smRl l
 | [],_=>by rw [smRl];trivial
 |y::r,h=>by rw [smRl];exact ⟨h y (.head _),smRl_of fun x hx=>h x (.tail _ hx)⟩
theorem gg_lt{p:PR}{g:GD}(h:g∈p.gs):SizeOf.sizeOf g<SizeOf.sizeOf p:=by
 obtain ⟨k,c,v,i,to,e,gs,l⟩:=p
 have:=List.sizeOf_lt_of_mem h
 simp only [PR.mk.sizeOf_spec,PR.gs] at this⊢
 omega
theorem bd_lt{g:GD}{x:PR}(h:x∈g.body):SizeOf.sizeOf x<SizeOf.sizeOf g:=by
 obtain ⟨k,e,c,i,to,t,b⟩:=g
 have:=List.sizeOf_lt_of_mem h
 simp only [GD.mk.sizeOf_spec,GD.body] at this⊢
 omega
mutual
def okF(I:PR->Prop)(next high:Bool):PR->Prop
 |⟨k,c,v,i,to,e,gs,l⟩=>(I ⟨k,c,v,i,to,e,gs,l⟩/\(k=16->next=true)/\(k=11->high=false))/\okFl I (next&&(k==9||k==10||k==11)) (next&&(k==10||k==11)) (high||k==11) high l/\okFs I high gs
def okFl(I:PR->Prop)(n0 n1 h0 h1:Bool):List PR->Prop
 | []=>True
 |p::r=>okF I n0 h0 p/\okFl I n1 n1 h1 h1 r
def okFg(I:PR->Prop)(high:Bool):GD->Prop
 |⟨_,_,_,_,_,_,b⟩=>okFl I false false high high b
def okFs(I:PR->Prop)(high:Bool):List GD->Prop
 | []=>True
 |g::r=>okFg I high g/\okFs I high r
end
section
variable{I:PR->Prop}
theorem okF_eq{next high:Bool}(p:PR):okF I next high p↔(I p/\(p.kind=16->next=true)/\(p.kind=11->high=false))/\okFl I (next&&(p.kind==9||p.kind==10||p.kind==11)) (next&&(p.kind==10||p.kind==11)) (high||p.kind==11) high p.l/\okFs I high p.gs:=by
 obtain ⟨k,c,v,i,to,e,gs,l⟩:=p
 rw [okF]
theorem okFg_eq{high:Bool}(g:GD):okFg I high g↔okFl I false false high high g.body:=by
 obtain ⟨k,e,c,i,to,t,b⟩:=g
 rw [okFg]
theorem okFl_0{n0 n1 h0 h1:Bool}:okFl I n0 n1 h0 h1 []:=by rw [okFl];trivial
theorem okFs_mem{high:Bool}: ∀{l:List GD},okFs I high l-> ∀g,g∈l->okFg I high g
 | [],_,g,h=>by cases h
 |y::r,hw,g,h=>by
  rw [okFs] at hw
  rcases List.mem_cons.1 h with rfl|h
  ·exact hw.1
  ·exact okFs_mem hw.2 g h
theorem okFs_of{high:Bool}: ∀{l:List GD},(∀g,g∈l->okFg I high g)->okFs I high l
 | [],_=>by rw [okFs];trivial
 |y::r,h=>by rw [okFs];exact ⟨h y (.head _),okFs_of fun x hx=>h x (.tail _ hx)⟩
theorem okFl_mem{n1 h1:Bool}: ∀{l:List PR},okFl I n1 n1 h1 h1 l-> ∀x,x∈l->okF I n1 h1 x
 | [],_,x,h=>by cases h
 |y::r,hw,x,h=>by
  rw [okFl] at hw
  rcases List.mem_cons.1 h with rfl|h
  ·exact hw.1
  ·exact okFl_mem hw.2 x h
theorem okFl_some{n0 n1 h0 h1:Bool}{l:List PR}(hw:okFl I n0 n1 h0 h1 l){x:PR}(hx:x∈l): ∃n h,okF I n h x:=by
 cases l with
 |nil=>cases hx
 |cons y r=>
  rw [okFl] at hw
  rcases List.mem_cons.1 hx with rfl|h
  ·exact ⟨_,_,hw.1⟩
  ·exact ⟨_,_,okFl_mem hw.2 x h⟩
end
mutual
def atR:PR->List Nat->Option PR
 |⟨k,c,v,i,to,e,gs,l⟩,path=>if k=9 then atS l path else if k=10\/k=11 then (match path with
  | []=>none
  |j::rest=>atL l j rest) else (match path with
  | []=>some ⟨k,c,v,i,to,e,gs,l⟩
  |_::_=>none)
def atS:List PR->List Nat->Option PR
 | [],_=>none
 |x::_,path=>atR x path
def atL:List PR->Nat->List Nat->Option PR
 | [],_,_=>none
 |x::_,0,path=>atR x path
 |_::r,j+1,path=>atL r j path
end
section
variable{I:PR->Prop}
end
def waitsG(g:GD):Bool:=g.cond.kind==1&&(g.kind !=4||g.time.kind==1)
theorem at_lt{α:Type}{l:List α}{i:Nat}{x:α}(hx:l[i]? =some x):i<l.length:=by
 rcases Nat.lt_or_ge i l.length with h|h
 ·exact h
 ·rw [List.getElem?_eq_none h] at hx;cases hx
structure KOk(V:List KV)(C:List Int):Prop where
 vl:V.length<=256
 cl:2<=C.length
 cu:C.length<=64
 var:V.all varOk=true
 ch:okCh 0 C=true
abbrev asAlt(p:PR):PR:=⟨if p.kind=16 then 14 else p.kind,p.c,p.v,p.item,p.to,p.e,p.gs,p.l⟩
structure Loc(V:List KV)(C:List Int)(p:PR):Prop where
 kind:kindB V C.length (asAlt p)=true
 wait:p.kind=16-> ∀g,g∈p.gs->waitsG g=true
 room:1+p.l.length+p.gs.length<=2048
 to: ∀t,t∈p.to->wfPl t/\smP t
 e: ∀x,x∈p.e->wfK x/\smK x
 gs: ∀g,g∈p.gs->(wfK g.cond/\smK g.cond)/\(wfK g.time/\smK g.time)/\(wfPl g.to/\smP g.to)
theorem kind_lens{V:List KV}{n:Nat}{p:PR}(h:kindB V n p=true):p.to.length<=8/\p.e.length<=8/\p.gs.length<=16/\p.l.length<=2048:=by
 have h0: ∀{ch v:Bool} {t1 t2 e1 e2 g1 g2 l1 l2:Int},shapeR p ch v t1 t2 e1 e2 g1 g2 l1 l2=true->t2<=8->e2<=8->g2<=16->l2<=2048->p.to.length<=8/\p.e.length<=8/\p.gs.length<=16/\p.l.length<=2048:=fun hs a b c d=>by
  simp only [shapeR,inB,Bool.and_eq_true,decide_eq_true_eq] at hs
  omega
 unfold kindB at h
 by_cases k0:p.kind=1\/p.kind=2
 ·rw [if_pos k0] at h;exact h0 h (by decide) (by decide) (by decide) (by decide)
 rw [if_neg k0] at h
 by_cases k1:p.kind=3
 ·rw [if_pos k1,Bool.and_eq_true,Bool.and_eq_true] at h;exact h0 h.1.1 (by decide) (by decide) (by decide) (by decide)
 rw [if_neg k1] at h
 by_cases k2:p.kind=4
 ·rw [if_pos k2,Bool.and_eq_true,Bool.and_eq_true] at h;exact h0 h.1.1 (by decide) (by decide) (by decide) (by decide)
 rw [if_neg k2] at h
 by_cases k3:p.kind=5
 ·rw [if_pos k3,Bool.and_eq_true] at h;exact h0 h.1 (by decide) (by decide) (by decide) (by decide)
 rw [if_neg k3] at h
 by_cases k4:p.kind=6
 ·rw [if_pos k4,Bool.and_eq_true,Bool.and_eq_true] at h;exact h0 h.1.1 (by decide) (by decide) (by decide) (by decide)
 rw [if_neg k4] at h
 by_cases k5:p.kind=7
 ·rw [if_pos k5,Bool.and_eq_true] at h;exact h0 h.1 (by decide) (by decide) (by decide) (by decide)
 rw [if_neg k5] at h
 by_cases k6:p.kind=8
 ·rw [if_pos k6,Bool.and_eq_true] at h;exact h0 h.1 (by decide) (by decide) (by decide) (by decide)
 rw [if_neg k6] at h
 by_cases k7:p.kind=9
 ·rw [if_pos k7] at h;exact h0 h (by decide) (by decide) (by decide) (by decide)
 rw [if_neg k7] at h
 by_cases k8:p.kind=10
 ·rw [if_pos k8] at h;exact h0 h (by decide) (by decide) (by decide) (by decide)
 rw [if_neg k8] at h
 by_cases k9:p.kind=11
 ·rw [if_pos k9] at h;exact h0 h (by decide) (by decide) (by decide) (by decide)
 rw [if_neg k9] at h
 by_cases k10:p.kind=12\/p.kind=14\/p.kind=15
 ·rw [if_pos k10,Bool.and_eq_true] at h;exact h0 h.1 (by decide) (by decide) (by decide) (by decide)
 rw [if_neg k10] at h
 by_cases k11:p.kind=13
 ·rw [if_pos k11,Bool.and_eq_true] at h;exact h0 h.1 (by decide) (by decide) (by decide) (by decide)
 rw [if_neg k11] at h
 cases h
section
variable{V:List KV}{C:List Int}
theorem Loc.lens{p:PR}(h:Loc V C p):p.to.length<=8/\p.e.length<=8/\p.gs.length<=16/\p.l.length<=2048:=kind_lens (p:=asAlt p) h.kind
theorem Loc.body{p:PR}(h:Loc V C p): ∀g,g∈p.gs-> ∃y,g.body=[y]:=(kind_bodies (p:=asAlt p) h.kind).2.2
theorem wfKl_of: ∀{l:List KE},(∀x,x∈l->wfK x)->wfKl l
 | [],_=>by rw [wfKl];trivial
 |y::r,h=>by rw [wfKl];exact ⟨h y (.head _),wfKl_of fun x hx=>h x (.tail _ hx)⟩
theorem okF_imp{I J:PR->Prop}(h: ∀p,I p->J p): ∀(m:Nat) (p:PR) (n hi:Bool),SizeOf.sizeOf p<=m->okF I n hi p->okF J n hi p
 |0,p,_,_,h,_=>by
  obtain ⟨k,c,v,i,to,e,gs,l⟩:=p
  simp only [PR.mk.sizeOf_spec] at h;omega
 |m+1,p,n,hi,hm,w=>by
  rw [okF_eq] at w⊢
  obtain ⟨⟨w1,w2,w3⟩,w4,w5⟩:=w
  have hl: ∀(l:List PR),(∀x,x∈l->SizeOf.sizeOf x<=m)-> ∀n0 n1 h0 h1,okFl I n0 n1 h0 h1 l->okFl J n0 n1 h0 h1 l:=by
   intro l
   induction l with
   |nil=>intro _ n0 n1 h0 h1 _;exact okFl_0
   |cons x r ih=>
    intro hx n0 n1 h0 h1 w
    rw [okFl] at w⊢
    exact ⟨okF_imp h m x n0 h0 (hx x (.head _)) w.1,ih (fun y hy=>hx y (.tail _ hy)) _ _ _ _ w.2⟩
  refine ⟨⟨h _ w1,w2,w3⟩,hl p.l (fun x hx=>by have:=pr_lt hx;omega) _ _ _ _ w4,okFs_of fun g hg=>?_⟩
  have:=okFs_mem w5 g hg
  rw [okFg_eq] at this⊢
  exact hl g.body (fun x hx=>by have:=gg_lt hg;have:=bd_lt hx;omega) _ _ _ _ this
theorem ok_kernel_n: ∀(m:Nat) (p:PR) (n hi:Bool),SizeOf.sizeOf p<=m->okR V C.length hi p=true->szR p<=2048->wfR p->smR p->okF (Loc V C) n hi p
 |0,p,_,_,h,_,_,_,_=>by
  obtain ⟨k,c,v,i,to,e,gs,l⟩:=p
  simp only [PR.mk.sizeOf_spec] at h;omega
 |m+1,p,n,hi,hm,hok,hsz,hwf,hsm=>by
  rw [okR_eq] at hok
  simp only [Bool.and_eq_true,Bool.not_eq_true'] at hok
  obtain ⟨⟨⟨o1,o2⟩,o3⟩,o4⟩:=hok
  have hw:=wfR_all hwf
  have hs:=smR_all hsm
  have hb:=kind_bodies o1
  have hse:=szR_eq p
  have hl: ∀(l:List PR),(∀x,x∈l->SizeOf.sizeOf x<=m/\wfR x/\smR x)->szL l<=2048-> ∀n0 n1 f,okL V C.length hi f l=true->okFl (Loc V C) n0 n1 (hi||f) hi l:=by
   intro l
   induction l with
   |nil=>intro _ _ n0 n1 f _;exact okFl_0
   |cons x r ih=>
    intro hx hz n0 n1 f w
    rw [okL,Bool.and_eq_true] at w
    rw [szL] at hz
    rw [okFl]
    have h1:=hx x (.head _)
    refine ⟨ok_kernel_n m x n0 (hi||f) h1.1 w.1 (by omega) h1.2.1 h1.2.2,?_⟩
    have:=ih (fun y hy=>hx y (.tail _ hy)) (by omega) n1 n1 false w.2
    rw [Bool.or_false] at this;exact this
  have hroom:1+p.l.length+p.gs.length<=2048:=by
   have h1: ∀l:List PR,l.length<=szL l:=by
    intro l
    induction l with
    |nil=>exact Nat.zero_le _
    |cons x r ih=>rw [szL,List.length_cons];have:=szR_pos x;omega
   have h2: ∀l:List GD,(∀g,g∈l-> ∃y,g.body=[y])->l.length<=szGs l:=by
    intro l
    induction l with
    |nil=>intro _;exact Nat.zero_le _
    |cons x r ih=>
     intro hb
     obtain ⟨y,hy⟩:=hb x (.head _)
     have:=ih fun g hg=>hb g (.tail _ hg)
     have:=szR_pos y
     rw [szGs,List.length_cons,szG_eq,hy,szL,szL];omega
   have:=h1 p.l
   have:=h2 p.gs hb.2.2
   omega
  rw [okF_eq]
  refine ⟨⟨⟨?_,fun h=>by omega,hroom,fun t ht=>⟨hw.to t ht,hs.to t ht⟩,fun x hx=>⟨hw.e x hx,hs.e x hx⟩,fun g hg=>?_⟩,fun h=>by omega,fun h=>?_⟩,hl p.l (fun x hx=>⟨by have:=pr_lt hx;omega,hw.l x hx,hs.l x hx⟩) (by omega) _ _ _ o3,okFs_of fun g hg=>?_⟩
  ·unfold asAlt
   rw [if_neg (by omega)]
   obtain ⟨k,c,v,i,to,e,gs,l⟩:=p
   exact o1
  ·have h1:=wfG_all (hw.g g hg)
   have h2:=smG_all (hs.g g hg)
   exact ⟨⟨h1.cond,h2.cond⟩,⟨h1.time,h2.time⟩,h1.to,h2.to⟩
  ·rw [h] at o2
   revert o2
   cases hi<;>simp
  ·rw [okFg_eq]
   have h1:=wfG_all (hw.g g hg)
   have h2:=smG_all (hs.g g hg)
   have h3: ∀(l:List GD),okGs V C.length hi l=true-> ∀g,g∈l->okG V C.length hi g=true:=by
    intro l
    induction l with
    |nil=>intro _ g hg;cases hg
    |cons x r ih=>
     intro h g hg
     rw [okGs,Bool.and_eq_true] at h
     rcases List.mem_cons.1 hg with rfl|hg
     ·exact h.1
     ·exact ih h.2 g hg
   have h4:=h3 p.gs o4 g hg
   rw [okG_eq] at h4
   have h5:=hl g.body (fun x hx=>⟨by have:=gg_lt hg;have:=bd_lt hx;omega,h1.body x hx,h2.body x hx⟩) (by have:=szGs_le hg;rw [szG_eq] at this;omega) false false false h4
   rw [Bool.or_false] at h5;exact h5
theorem ok_kernel{p:PR}{n hi:Bool}(hok:okR V C.length hi p=true)(hsz:szR p<=2048)(hwf:wfR p)(hsm:smR p):okF (Loc V C) n hi p:=ok_kernel_n _ p n hi (Nat.le_refl _) hok hsz hwf hsm
end
abbrev s0:List (List Int):=[[7],[1,2,3]]
theorem sl_rows(hs:List (Value×List Int)):slL 1 (rowsH hs)=(hs.map Prod.snd).map rowA:=by simp [slL,rowsH]
abbrev s1:List (List Int):=[[5,6,7]]
abbrev v0:List KV:=[⟨1,0⟩,⟨3,3⟩]
theorem rows_pure{f:FuncId}{a:List AV}{n:Nat}{s:List (List Int)}(hf:FunE Tryz.prog gs0 f a [] (fun p:Value×List (Value×List Int)=> .ms p.1 1 n) (fun p=>[.rows 1 (rowsH p.2), .row 1 p.1 (msL 1 (rowsH p.2))]) (fun p=>p.2.map Prod.snd=s)):
 Pure Tryz.prog gs0 f a (rowsA s):=
 Fun.rows (Fun.mono hf fun x Λ' ⟨p,h1,h2,h3⟩=>⟨p.1,rowsH p.2,n,h1,h2,by rw [sl_rows,h3]⟩)
def storeS(l:List KV):List (List Int):=if soundsB l then storeM l else []
theorem Put_p(s:List (List Int))(v i x:Int)(h1:s.length<=1073741824)(h2: ∀r,r∈s->r.length<=35184372088832):Pure Tryz.prog gs0 47 [rowsA s,AI v,AI i,AI32 x] (rowsA (putM s v i x)):=
 rows_pure (put_p s v i x h1 h2)
def goodN(l:List KV)(i:Nat):Bool:=(l.take i).all soundB
theorem good_succ{l:List KV}{i:Nat}{v:KV}(h:l[i]? =some v):goodN l (i+1)=(goodN l i&&soundB v):=by
 rw [goodN,List.take_add_one,h,List.all_append];simp [goodN]
theorem good_all(l:List KV):goodN l l.length= !l.any (fun v=> !soundB v):=by
 rw [goodN,List.take_length];induction l with
 |nil=>rfl
 |cons x r ih=>rw [List.all_cons,List.any_cons,ih];cases soundB x<;>simp
theorem bad_sound{l:List KV}{i:Nat}{v:KV}(hv:l[i]? =some v)(h:soundB v=false):soundsB l=false:=by
 have:(l.any fun v=> !soundB v)=true:=List.any_eq_true.2 ⟨v,List.mem_of_getElem? hv,by rw [h];rfl⟩
 rw [soundsB,this];simp
theorem rsound_p(l:List KV)(hb:l.length<=281474976710656):Pure Tryz.prog gs0 62 [varsA l] (AB (soundsB l)):=by
 have hl:((l.map encV).length:Int)=l.length:=by rw [List.length_map]
 by_cases h:l.length<=256
 case neg=>
  refine p_ tt_ok Tryz.func62 51 fun w0 h0 F hgs=>?_
  refine y_ ?_
  refine e_ 6 rfl (x':=AB true) (ab_eq (by simp;omega)) ?_;refine R_ ?_;refine Sb.eq (ab_eq ?_);simp [soundsB,h]
 refine p_ tt_ok Tryz.func62 51 fun w0 h0 F hgs=>?_
 refine y_ ?_
 refine e_ 6 rfl (x':=AB false) (ab_eq (by simp;omega)) ?_
 refine A.keep [0,3] rfl ?_
 refine A.loopP (ι:=Nat) (fun i=>(⟨[(0,varsA l),(3,AI (i:Int))],[]⟩,[])) (fun i=>i<=l.length/\goodN l i=true) (fun i=>l.length-i) 0 ⟨by omega,rfl⟩ rfl fun i hi ih=>?_
 refine y_ ?_
 refine k_ (fun hc=>?_) fun hc=>?_
 ·simp at hc
  refine Exists.elim (at_exN (l:=l) (i:=i) (by omega)) fun v hv=>?_
  refine y_ ?_
  refine j_ rfl (map_at hv) rfl ?_
  refine g_ ?_
  by_cases k1:v.kind=1
  ·refine e_ 19 rfl (x':=AB false) (ab_eq (by simp [k1])) ?_;(refine j_ rfl (map_at hv) rfl ?_;refine g_ ?_;refine A.split 43 rfl (fun hd=>?_) (fun hd=>?_);(simp at hd;(refine y_ ?_;refine R_ ?_;exact Sb.eq (ab_eq (bad_sound hv (by simp [soundB];omega)).symm)));simp at hd;refine i_ rfl (map_at hv) rfl ?_;refine k_ (fun he=>?_) fun he=>?_;(simp at he;(refine y_ ?_;refine R_ ?_;exact Sb.eq (ab_eq (bad_sound hv (by simp [soundB];omega)).symm)));simp at he;refine y_ ?_;refine A.valE 3 rfl (x':=AI ((i+1:Nat):Int)) (inc_eq i (by omega)) ?_;refine u_ (ih (i+1) ⟨by omega,?_⟩ (by omega));rw [good_succ hv,hi.2];simp [soundB];omega)
  refine A.valE 19 rfl (x':=AB true) (ab_eq (by simp [k1])) ?_
  refine j_ rfl (map_at hv) rfl ?_
  refine g_ ?_
  by_cases k2:v.kind=2
  ·refine e_ 27 rfl (x':=AB false) (ab_eq (by simp [k2])) ?_;(refine j_ rfl (map_at hv) rfl ?_;refine g_ ?_;refine A.split 43 rfl (fun hd=>?_) (fun hd=>?_);(simp at hd;(refine y_ ?_;refine R_ ?_;exact Sb.eq (ab_eq (bad_sound hv (by simp [soundB];omega)).symm)));simp at hd;refine i_ rfl (map_at hv) rfl ?_;refine k_ (fun he=>?_) fun he=>?_;(simp at he;(refine y_ ?_;refine R_ ?_;exact Sb.eq (ab_eq (bad_sound hv (by simp [soundB];omega)).symm)));simp at he;refine y_ ?_;refine A.valE 3 rfl (x':=AI ((i+1:Nat):Int)) (inc_eq i (by omega)) ?_;refine u_ (ih (i+1) ⟨by omega,?_⟩ (by omega));rw [good_succ hv,hi.2];simp [soundB];omega)
  refine A.valE 27 rfl (x':=AB true) (ab_eq (by simp [k2])) ?_
  refine j_ rfl (map_at hv) rfl ?_
  refine g_ ?_
  by_cases k3:v.kind=3
  ·refine A.valE 35 rfl (x':=AB false) (ab_eq (by simp [k3])) ?_
   (refine j_ rfl (map_at hv) rfl ?_;refine g_ ?_;refine A.split 43 rfl (fun hd=>?_) (fun hd=>?_);(simp at hd;(refine y_ ?_;refine R_ ?_;exact Sb.eq (ab_eq (bad_sound hv (by simp [soundB];omega)).symm)));simp at hd;refine i_ rfl (map_at hv) rfl ?_;refine k_ (fun he=>?_) fun he=>?_;(simp at he;(refine y_ ?_;refine R_ ?_;exact Sb.eq (ab_eq (bad_sound hv (by simp [soundB];omega)).symm)));simp at he;refine y_ ?_;refine A.valE 3 rfl (x':=AI ((i+1:Nat):Int)) (inc_eq i (by omega)) ?_;refine u_ (ih (i+1) ⟨by omega,?_⟩ (by omega));rw [good_succ hv,hi.2];simp [soundB];omega)
  refine A.valE 35 rfl (x':=AB true) (ab_eq (by simp [k3])) ?_
  (refine y_ ?_;refine R_ ?_;exact Sb.eq (ab_eq (bad_sound hv (by simp [soundB];omega)).symm))
 ·simp at hc
  have:i=l.length:=by omega
  subst this
  have h2:=hi.2
  rw [good_all] at h2
  refine y_ ?_;refine R_ ?_;refine Sb.eq (ab_eq ?_);rw [soundsB,h2,decide_eq_true h];rfl
theorem long_p(v:KV):Pure Tryz.prog gs0 63 [encV v] (AI (if v.dim=0 then 1 else v.dim)):=by
 refine p_ tt_ok Tryz.func63 8 fun w0 h0 F hgs=>?_
 (refine b_ fun bx=>?_;refine y_ ?_)
 refine k_ (fun hc=>?_) fun hc=>?_
 ·simp at hc;refine y_ ?_;refine R_ ?_;refine Sb.eq (ai_eq ?_);rw [if_pos hc]
 ·simp at hc;refine y_ ?_;refine R_ ?_;refine Sb.eq (ai_eq ?_);rw [if_neg hc]
theorem rSame_p(a b:List (List Int))(ha:short a):Pure Tryz.prog gs0 51 [rowsA a,rowsA b] (AB (sameB a b)):=by
 have ha1:=ha.1
 by_cases hlen:a.length=b.length
 case neg=>
  refine p_ tt_ok Tryz.func51 53 fun w0 h0 F hgs=>?_
  refine y_ ?_
  refine e_ 11 rfl (x':=AB true) (ab_eq (by simp;omega)) ?_;refine R_ ?_;refine Sb.eq (ab_eq ?_);simp [sameB,alikeB,hlen]
 refine p_ tt_ok Tryz.func51 53 fun w0 h0 F hgs=>?_
 refine y_ ?_
 refine e_ 11 rfl (x':=AB false) (ab_eq (by simp;omega)) ?_
 refine A.keep [0,1,5] rfl ?_
 refine A.loopP (ι:=Nat) (fun i=>(⟨[(0,rowsA a),(1,rowsA b),(5,AI (i:Int))],[]⟩,[])) (fun i=>i<=a.length/\allEq (alikeB (· == ·)) a b i=true) (fun i=>a.length-i) 0 ⟨by omega,rfl⟩ rfl fun i hi ih=>?_
 refine y_ ?_
 refine k_ (fun hc=>?_) fun hc=>?_
 ·simp at hc
  refine Exists.elim (at_exN (l:=a) (i:=i) (by omega)) fun x hx=>Exists.elim (at_exN (l:=b) (i:=i) (by omega)) fun y hy=>?_
  have hxl:=ha.2 x (List.mem_of_getElem? hx)
  have h1:=allEq_succ (alikeB (· == ·)) hx hy
  refine y_ ?_
  refine d_ 10 [0,1,2,3,4,5,6,7,8,9] [] ?_;refine iw_ rfl (map_at hx) rfl ?_;refine iw_ rfl (map_at hy) rfl ?_;refine WA.nil (l:=[]) rfl ?_
  refine A.entsEq (Λ':=[]) rfl ?_
  refine y_ ?_
  refine k_ (fun hc=>?_) fun hc=>?_
  ·simp at hc
   refine y_ ?_;refine R_ ?_;refine Sb.eq (ab_eq ?_)
   have h2:=allEq_le (f:=alikeB (· == ·)) (a:=a) (b:=b) (j:=i+1) (by rw [h1,alikeB,decide_eq_false (by omega)];simp) a.length (by omega)
   rw [sameB,alikeB,h2];simp
  ·simp at hc
   have hxy:x.length=y.length:=by omega
   refine y_ ?_
   refine A.keep [0,1,5,6] rfl ?_
   refine A.loopP (ι:=Nat) (fun j=>(⟨[(0,rowsA a),(1,rowsA b),(5,AI (i:Int)),(6,AI (j:Int))],[]⟩,[])) (fun j=>j<=x.length/\allEq (· == ·) x y j=true) (fun j=>x.length-j) 0 ⟨by omega,rfl⟩ rfl fun j hj jh=>?_
   refine y_ ?_
   refine i_ rfl (map_at hx) rfl ?_
   refine k_ (fun hc=>?_) fun hc=>?_
   ·rename_i hc0
    simp at hc
    refine Exists.elim (at_exN (l:=x) (i:=j) (by omega)) fun u hu=>Exists.elim (at_exN (l:=y) (i:=j) (by omega)) fun w hw=>?_
    have h3:=allEq_succ (· == ·) hu hw
    refine y_ ?_
    refine d_ 14 [0,1,2,3,4,5,6,7,8,9,10,11,12,13] [] ?_;refine iw_ rfl (map_at hx) rfl ?_;refine iw_ rfl (map_at hu) rfl ?_;refine iw_ rfl (map_at hy) rfl ?_;refine iw_ rfl (map_at hw) rfl ?_;refine WA.nil (l:=[]) rfl ?_
    refine A.entsEq (Λ':=[]) rfl ?_
    refine y_ ?_
    refine k_ (fun he=>?_) fun he=>?_
    ·simp at he
     refine y_ ?_;refine R_ ?_;refine Sb.eq (ab_eq ?_)
     have h4:=allEq_le (f:=(· == ·)) (a:=x) (b:=y) (j:=j+1) (by rw [h3];simp [he]) x.length (by omega)
     have h2:=allEq_le (f:=alikeB (· == ·)) (a:=a) (b:=b) (j:=i+1) (by rw [h1];simp [alikeB,h4]) a.length (by omega)
     rw [sameB,alikeB,h2];simp
    ·simp at he
     refine y_ ?_
     refine A.valE 6 rfl (x':=AI ((j+1:Nat):Int)) (inc_eq j (by omega)) ?_
     refine u_ (jh (j+1) ⟨by omega,by rw [h3];simp [hj.2,he]⟩ (by omega))
   ·simp at hc
    have hjl:j=x.length:=by omega
    have h4:=hj.2
    rw [hjl] at h4
    refine y_ ?_
    refine A.valE 5 rfl (x':=AI ((i+1:Nat):Int)) (inc_eq i (by omega)) ?_
    refine u_ (ih (i+1) ⟨by omega,by rw [h1,hi.2,alikeB,h4,decide_eq_true hxy];rfl⟩ (by omega))
 ·simp at hc
  have:i=a.length:=by omega
  subst this
  have h2:=hi.2
  refine y_ ?_;refine R_ ?_;refine Sb.eq (ab_eq ?_);rw [sameB,alikeB,h2,decide_eq_true hlen];rfl
theorem alike_refl{α:Type}{f:α->α->Bool}(hf: ∀x,f x x=true)(a:List α):alikeB f a a=true:=by
 unfold alikeB allEq
 simp only [decide_true,Bool.true_and,List.all_eq_true]
 intro k _
 cases a[k]? with
 |none=>rfl
 |some x=>exact hf x
theorem store_noN(l:List KV)(ch:List Int)(q:PR)(pr:List Int)(hb:l.length<=281474976710656)(hs:soundsB l=false):Pure Tryz.prog gs0 88 [encN ⟨l,ch,q,pr⟩] nilV:=by
 have hp:=sounds_p l hb
 rw [hs] at hp
 refine p_ tt_ok Tryz.func88 31 fun w0 h0 F hgs=>?_
 (refine b_ fun bx=>?_;refine y_ ?_);exact cr_ (hp)
theorem store_pN(l:List KV)(ch:List Int)(q:PR)(pr:List Int)(hs:soundsB l=true):
 FunE Tryz.prog gs0 88 [encN ⟨l,ch,q,pr⟩] [] (fun p:Value×List (Value×List Int)=> .ms p.1 1 l.length) (fun p=>[.rows 1 (rowsH p.2), .row 1 p.1 (msL 1 (rowsH p.2))]) (fun p=>p.2.map Prod.snd=storeM l):=by
 have hs0:=hs
 unfold soundsB at hs0
 simp at hs0
 have hp:=sounds_p l (by omega)
 rw [hs] at hp
 have hl:((l.map encV).length:Int)=l.length:=by rw [List.length_map]
 unfold FunE
 refine Fun.of (S:=tt) (fn:=Tryz.f88) (n:=31) tt_ok Tryz.func88 rfl rfl rfl rfl fun w0 h0 F hgs=>?_
 (refine b_ fun bx=>?_;refine y_ ?_);refine c_ (hp) ?_
 refine A.valE 12 rfl (x':=AI (l.length:Nat)) (ai_eq hl) ?_
 refine A.make rfl rfl rfl rfl rfl rfl rfl rfl rfl rfl rfl rfl (by omega) ?_ (by omega) fun zo=>?_
 ·show ((24:Nat):Int)*_<=_
  omega
 refine y_ ?_
 refine A.valE 3 rfl (x':= .ms zo 1 l.length) (by rw [Int.toNat_natCast];rfl) ?_
 refine A.valE 16 rfl (x':=AI (l.length:Nat)) (ai_eq hl) ?_
 refine A.keep [3,15,16,17] rfl ?_
 refine l_ (Λ':=[.row 1 zo (List.replicate (l.length:Int).toNat nilV)]) ?_
 refine A.entsEq (Λ':=[.row 1 zo (List.replicate l.length nilV)]) (by rw [Int.toNat_natCast]) ?_
 refine A.rows0 1 ?_
 refine A.loopP (ι:=List (Value×List Int)) (fun hs=>(⟨[(3, .ms zo 1 l.length),(15,varsA l),(16,AI (l.length:Nat)),(17,AI (hs.length:Nat))],[]⟩,[.rows 1 (rowsH hs), .row 1 zo (msL 1 (rowsH hs)++List.replicate (l.length-hs.length) nilV)]))
  (fun hs=>hs.map Prod.snd=(storeM l).take hs.length/\hs.length<=l.length) (fun hs=>l.length-hs.length) [] ⟨rfl,Nat.zero_le _⟩ rfl fun hs hi ih=>?_
 refine y_ ?_
 refine k_ (fun hc=>?_) fun hc=>?_
 ·simp at hc
  refine Exists.elim (at_exN (l:=l) (i:=hs.length) hc) fun v hv=>?_
  have hvm:=hs0.2 v (List.mem_of_getElem? hv)
  simp [soundB] at hvm
  have hlo:1<=longI v/\longI v<=64:=by unfold longI;split<;>omega
  refine y_ ?_
  refine j_ rfl (map_at hv) rfl ?_
  (refine b_ fun bx=>?_;refine y_ ?_)
  refine A.valE 26 rfl (x':=AI (longI v)) (ai_eq (by unfold longI;split<;>split<;>omega)) ?_
  refine A.make rfl rfl rfl rfl rfl rfl rfl rfl rfl rfl rfl rfl (by omega) ?_ (by omega) fun z=>?_
  ·show ((4:Nat):Int)*_<=_
   omega
  refine A.indexRow rfl rfl rfl rfl rfl rfl rfl rfl (by omega) (by rw [List.length_append,rowsH_len,List.length_replicate];omega) rfl ?_
  have hrl:(List.replicate (longI v).toNat (0:Int)).length=(longI v).toNat:=List.length_replicate
  refine A.valE 27 rfl (x':= .ms z 1 (List.replicate (longI v).toNat (0:Int)).length) (by rw [hrl];rfl) ?_
  refine l_ (Λ':=[.row 1 z (List.replicate (longI v).toNat (AI32 0)), .rows 1 (rowsH hs), .row 1 zo (msL 1 (rowsH hs)++List.replicate (l.length-hs.length) nilV)]) ?_
  refine A.entsEq (Λ':=[.row 1 z ((List.replicate (longI v).toNat (0:Int)).map AI32), .rows 1 (rowsH hs), .row 1 zo (msL 1 (rowsH hs)++List.replicate (l.length-hs.length) nilV)]) (by rw [List.map_replicate]) ?_
  refine A.storeRow rfl rfl rfl rfl rfl rfl rfl rfl rfl ?_ (xs':=msL 1 (rowsH (hs++[(z,List.replicate (longI v).toNat 0)]))++List.replicate (l.length-(hs++[(z,List.replicate (longI v).toNat (0:Int))]).length) nilV) ?_ ?_
  ·rw [List.length_append,rowsH_len,List.length_replicate];omega
  ·have:=out_set hs z (List.replicate (longI v).toNat 0) (l.length-(hs++[(z,List.replicate (longI v).toNat (0:Int))]).length)
   rw [show l.length-hs.length=l.length-(hs++[(z,List.replicate (longI v).toNat (0:Int))]).length+1 by simp;omega]
   exact this
  refine A.rowsIn (.refl _) ?_
  refine y_ ?_
  refine A.valE 17 rfl (x':=AI (((hs++[(z,List.replicate (longI v).toNat (0:Int))]).length:Nat):Int)) ?_ ?_
  ·rw [inc_eq hs.length (by omega)];simp
  refine A.entsEq (Λ':=[.rows 1 (rowsH (hs++[(z,List.replicate (longI v).toNat (0:Int))])), .row 1 zo (msL 1 (rowsH (hs++[(z,List.replicate (longI v).toNat (0:Int))]))++List.replicate (l.length-(hs++[(z,List.replicate (longI v).toNat (0:Int))]).length) nilV)]) (by simp [rowsH]) ?_
  refine u_ (ih (hs++[(z,List.replicate (longI v).toNat 0)]) ⟨?_,by simp;omega⟩ (by simp;omega))
  simp [hi.1,storeM,List.take_add_one,hv]
 ·simp at hc
  have hlen:hs.length=l.length:=by omega
  have hsnd:hs.map Prod.snd=storeM l:=by rw [hi.1,hlen];exact List.take_of_length_le (by rw [storeM,List.length_map];exact Nat.le_refl _)
  refine A.entsEq (Λ':=[.rows 1 (rowsH hs), .row 1 zo (msL 1 (rowsH hs))]) (by rw [hlen,Nat.sub_self];simp) ?_
  refine y_ ?_
  refine A.ret1 (Λ':=[.rows 1 (rowsH hs), .row 1 zo (msL 1 (rowsH hs))]) rfl rfl rfl sl_ ⟨(zo,hs), .refl,rfl,hsnd⟩
theorem storeS_pN(l:List KV)(ch:List Int)(q:PR)(pr:List Int)(hb:l.length<=281474976710656):Pure Tryz.prog gs0 88 [encN ⟨l,ch,q,pr⟩] (rowsA (storeS l)):=by
 cases h:soundsB l with
 |true=>rw [storeS,h,if_pos rfl];exact rows_pure (store_pN l ch q pr h)
 |false=>
  have:=store_noN l ch q pr hb h
  rw [storeS,h]
  exact fun w0 h vs L F g r q=>(this w0 h vs L F g r q).mono fun _ _ _ ⟨x,Λ',L1,⟨e1,e1'⟩,e2,e3⟩=>⟨rowsA [],Λ',L1,⟨rfl,e1'⟩,by subst e1;exact Sb.nil.rp e2,e3⟩
theorem rMay_pN(l:List KV)(ch:List Int)(q:PR)(pr:List Int)(s:List (List Int))(hb:l.length<=281474976710656)(hs:short s):Pure Tryz.prog gs0 27 [encN ⟨l,ch,q,pr⟩,rowsA s] (AB (mayB l s)):=by
 have hl:((l.map encV).length:Int)=l.length:=by rw [List.length_map]
 have hsl:((s.map rowA).length:Int)=s.length:=by rw [List.length_map]
 have hp:=rsound_p l hb
 cases hso:soundsB l with
 |false=>
  rw [hso] at hp
  refine p_ tt_ok Tryz.func27 67 fun w0 h0 F hgs=>?_
  (refine b_ fun bx=>?_;refine y_ ?_);refine c_ (hp) ?_;refine R_ ?_;refine Sb.eq (ab_eq ?_);simp [mayB,hso]
 |true=>
 rw [hso] at hp
 by_cases hlen:s.length=l.length
 case neg=>
  refine p_ tt_ok Tryz.func27 67 fun w0 h0 F hgs=>?_
  (refine b_ fun bx=>?_;refine y_ ?_);refine c_ (hp) ?_
  refine e_ 20 rfl (x':=AB true) (ab_eq (by simp;omega)) ?_;refine R_ ?_;refine Sb.eq (ab_eq ?_);simp [mayB,hlen]
 have hs0:=hso
 unfold soundsB at hs0
 simp at hs0
 refine p_ tt_ok Tryz.func27 67 fun w0 h0 F hgs=>?_
 (refine b_ fun bx=>?_;refine y_ ?_);refine n_ (hp) ?_
 refine A.freeze 2 rfl (sz:=11) rfl rfl ?_
 refine y_ ?_
 refine e_ 20 rfl (x':=AB false) (ab_eq (by simp;omega)) ?_
 refine A.keep [1,2,5] rfl ?_
 refine A.loopP (ι:=Nat) (fun i=>(⟨[(1,rowsA s),(2, .pe 11 (encN ⟨l,ch,q,pr⟩)),(5,AI (i:Int))],[]⟩,[])) (fun i=>i<=l.length/\allEq mayRow l s i=true) (fun i=>l.length-i) 0 ⟨by omega,rfl⟩ rfl fun i hi ih=>?_
 refine y_ ?_
 refine k_ (fun hc=>?_) fun hc=>?_
 ·simp at hc
  refine Exists.elim (at_exN (l:=l) (i:=i) (by omega)) fun v hv=>Exists.elim (at_exN (l:=s) (i:=i) (by omega)) fun x hx=>?_
  have hvm:=hs0.2 v (List.mem_of_getElem? hv)
  simp [soundB] at hvm
  have hlo:longI v=if v.dim=0 then 1 else v.dim:=by unfold longI;split<;>split<;>omega
  have hxl:=hs.2 x (List.mem_of_getElem? hx)
  have h1:=allEq_succ mayRow hv hx
  refine y_ ?_
  refine d_ 11 [0,1,2,3,4,5,6,7,8,9,10] [(10,AI (if v.dim=0 then 1 else v.dim))] ?_;refine iw_ rfl (map_at hx) rfl ?_;refine iw_ rfl (map_at hv) rfl ?_;refine WA.c rfl rfl (long_p v) (.sub .refl) ?_
  refine WA.nil (l:=[]) rfl ?_
  refine A.entsEq (Λ':=[]) rfl ?_
  refine y_ ?_
  refine k_ (fun hc=>?_) fun hc=>?_
  ·have hne:((x.length:Int)==longI v)=false:=by simp at hc;rw [hlo];simpa using hc
   refine y_ ?_;refine R_ ?_;refine Sb.eq (ab_eq ?_)
   have h2:=allEq_le (f:=mayRow) (a:=l) (b:=s) (j:=i+1) (by rw [h1,mayRow,hne];simp) l.length (by omega)
   rw [mayB,h2];simp
  ·have heq:((x.length:Int)==longI v)=true:=by simp at hc;rw [hlo];simpa using hc
   refine y_ ?_
   refine A.keep [1,2,5,6] rfl ?_
   refine A.loopP (ι:=Nat) (fun j=>(⟨[(1,rowsA s),(2, .pe 11 (encN ⟨l,ch,q,pr⟩)),(5,AI (i:Int)),(6,AI (j:Int))],[]⟩,[])) (fun j=>j<=x.length/\x.any (fun u=> !fitsB v.kind u)=(x.drop j).any (fun u=> !fitsB v.kind u)) (fun j=>x.length-j) 0 ⟨by omega,rfl⟩ rfl fun j hj jh=>?_
   refine y_ ?_
   refine i_ rfl (map_at hx) rfl ?_
   refine k_ (fun hc=>?_) fun hc=>?_
   ·rename_i hc0
    simp at hc
    refine Exists.elim (at_exN (l:=x) (i:=j) (by omega)) fun u hu=>?_
    have hj2:=hj.2
    rw [drop_at hu,List.any_cons] at hj2
    refine y_ ?_
    refine d_ 18 [0,1,2,3,4,5,6,7,8,9,10,11,12,13,14,15,16,17] [(13,optA (convC v.kind u))] ?_;refine iw_ rfl (map_at hv) rfl ?_;refine iw_ rfl (map_at hx) rfl ?_;refine iw_ rfl (map_at hu) rfl ?_;refine cw_ (conv_p _ _) ?_
    refine WA.nil (l:=[]) rfl ?_
    refine A.entsEq (Λ':=[]) rfl ?_
    refine y_ ?_
    refine k_ (fun he=>?_) fun he=>?_
    ·rw [conv_fits] at he
     have hf:fitsB v.kind u=false:=by revert he;cases fitsB v.kind u<;>simp
     rw [hf] at hj2
     refine y_ ?_;refine R_ ?_;refine Sb.eq (ab_eq ?_)
     have h2:=allEq_le (f:=mayRow) (a:=l) (b:=s) (j:=i+1) (by rw [h1,mayRow,hj2];simp) l.length (by omega)
     rw [mayB,h2];simp
    ·rw [conv_fits] at he
     have hf:fitsB v.kind u=true:=by revert he;cases fitsB v.kind u<;>simp
     rw [hf] at hj2
     refine y_ ?_
     refine A.valE 6 rfl (x':=AI ((j+1:Nat):Int)) (inc_eq j (by omega)) ?_
     refine u_ (jh (j+1) ⟨by omega,by simpa using hj2⟩ (by omega))
   ·simp at hc
    have hjl:j=x.length:=by omega
    have h4:=hj.2
    rw [hjl,List.drop_length] at h4
    refine y_ ?_
    refine A.valE 5 rfl (x':=AI ((i+1:Nat):Int)) (inc_eq i (by omega)) ?_
    refine u_ (ih (i+1) ⟨by omega,by rw [h1,hi.2,mayRow,heq,h4];rfl⟩ (by omega))
 ·simp at hc
  have:i=l.length:=by omega
  subst this
  refine y_ ?_;refine R_ ?_;refine Sb.eq (ab_eq ?_);rw [mayB,hso,hi.2,decide_eq_true hlen];rfl
section
variable{V:List KV}{C:List Int}
theorem smGl_of: ∀{l:List GD},(∀g,g∈l->smG g)->smGl l
 | [],_=>by rw [smGl];trivial
 |y::r,h=>by rw [smGl];exact ⟨h y (.head _),smGl_of fun x hx=>h x (.tail _ hx)⟩
theorem wfGl_of: ∀{l:List GD},(∀g,g∈l->wfG g)->wfGl l
 | [],_=>by rw [wfGl];trivial
 |y::r,h=>by rw [wfGl];exact ⟨h y (.head _),wfGl_of fun x hx=>h x (.tail _ hx)⟩
theorem wfRl_of: ∀{l:List PR},(∀x,x∈l->wfR x)->wfRl l
 | [],_=>by rw [wfRl];trivial
 |y::r,h=>by rw [wfRl];exact ⟨h y (.head _),wfRl_of fun x hx=>h x (.tail _ hx)⟩
theorem tgRl_of: ∀{l:List PR},(∀x,x∈l->tgR x)->tgRl l
 | [],_=>by rw [tgRl];trivial
 |y::r,h=>by rw [tgRl];exact ⟨h y (.head _),tgRl_of fun x hx=>h x (.tail _ hx)⟩
theorem okF_sm_n: ∀(m:Nat) (p:PR) (n hi:Bool),SizeOf.sizeOf p<=m->okF (Loc V C) n hi p->wfR p/\smR p/\tgR p
 |0,p,_,_,h,_=>by
  obtain ⟨k,c,v,i,to,e,gs,l⟩:=p
  simp only [PR.mk.sizeOf_spec] at h;omega
 |m+1,p,n,hi,hm,w=>by
  rw [okF_eq] at w
  obtain ⟨⟨w1,w2,w3⟩,w4,w5⟩:=w
  obtain ⟨l1,l2,l3,l4⟩:=w1.lens
  have hb:=w1.body
  have hL: ∀x,x∈p.l->wfR x/\smR x/\tgR x:=fun x hx=>by
   obtain ⟨a,b,hw⟩:=okFl_some w4 hx
   exact okF_sm_n m x a b (by have:=pr_lt hx;omega) hw
  have hG: ∀g,g∈p.gs-> ∀x,x∈g.body->wfR x/\smR x/\tgR x:=fun g hg x hx=>by
   have h1:=okFs_mem w5 g hg
   rw [okFg_eq] at h1
   obtain ⟨a,b,hw⟩:=okFl_some h1 hx
   exact okF_sm_n m x a b (by have:=gg_lt hg;have:=bd_lt hx;omega) hw
  have hgl: ∀g,g∈p.gs->g.body.length=1:=fun g hg=>by obtain ⟨y,hy⟩:=hb g hg;rw [hy];rfl
  have hto:=w1.to
  have he:=w1.e
  have hgs:=w1.gs
  obtain ⟨k,c,v,i,to,e,gs,l⟩:=p
  have l1:to.length<=8:=l1
  have l2:e.length<=8:=l2
  have l3:gs.length<=16:=l3
  have l4:l.length<=2048:=l4
  rw [wfR,smR,tgR]
  refine ⟨⟨⟨fun t ht=>(hto t ht).1,wfKl_of fun x hx=>(he x hx).1,by omega,by omega,by omega⟩,wfGl_of fun g hg=>?_,wfRl_of fun x hx=>(hL x hx).1⟩,
   ⟨⟨fun t ht=>(hto t ht).2,fun x hx=>(he x hx).2,by omega,by omega,by omega,by omega⟩,smGl_of fun g hg=>?_,smRl_of fun x hx=>(hL x hx).2.1⟩,by omega,tgRl_of fun x hx=>(hL x hx).2.2⟩
  ·have h1:=hgs g hg
   have h2:=hG g hg
   obtain ⟨k',e',c',i',to',t',b'⟩:=g
   rw [wfG]
   exact ⟨⟨h1.1.1,h1.2.1.1,h1.2.2.1⟩,wfRl_of fun x hx=>(h2 x hx).1⟩
  ·have h1:=hgs g hg
   have h2:=hG g hg
   have h3:=hgl g hg
   obtain ⟨k',e',c',i',to',t',b'⟩:=g
   have h3:b'.length=1:=h3
   rw [smG]
   exact ⟨⟨h1.1.2,h1.2.1.2,h1.2.2.2,by omega⟩,smRl_of fun x hx=>(h2 x hx).2.1⟩
theorem okF_sm{p:PR}{n hi:Bool}(w:okF (Loc V C) n hi p):wfR p/\smR p/\tgR p:=okF_sm_n _ p n hi (Nat.le_refl _) w
end
structure ST where
 store:List (List Int)
 root:PR
 inn:List Int
 time:Int
theorem may_kok{k:KN}(h:mayK k=true):KOk k.vars k.chans:=by
 unfold mayK lensK at h
 simp only [Bool.and_eq_true,decide_eq_true_eq] at h
 obtain ⟨⟨⟨⟨⟨⟨⟨a,b⟩,c⟩,_⟩,_⟩,d⟩,e⟩,_⟩:=h
 exact ⟨a,b,c,d,e⟩
theorem may_fits{k:KN}(h:mayK k=true):fitsR k.vars k.chans.length false k.root 2048 32:=by
 unfold mayK at h
 simp only [Bool.and_eq_true,decide_eq_true_eq] at h
 exact h.2
theorem KOk.sounds{V:List KV}{C:List Int}(h:KOk V C):soundsB V=true:=by
 unfold soundsB
 have h1:=h.var
 have h2:=h.vl
 rw [List.all_eq_true] at h1
 simp only [Bool.and_eq_true,decide_eq_true_eq,Bool.not_eq_true',List.any_eq_false]
 refine ⟨h2,fun v hv=>?_⟩
 have:=h1 v hv
 simp only [varOk,primB,Bool.and_eq_true,decide_eq_true_eq] at this
 have h3:soundB v=true:=by
  simp only [soundB,Bool.and_eq_true,Bool.or_eq_true,beq_iff_eq,decide_eq_true_eq]
  omega
 rw [h3];decide
theorem mayB_short{l:List KV}{s:List (List Int)}(h:mayB l s=true):s.length<=256/\ ∀r,r∈s->r.length<=64:=by
 unfold mayB soundsB at h
 simp only [Bool.and_eq_true,decide_eq_true_eq,Bool.not_eq_true',List.any_eq_false] at h
 obtain ⟨⟨h1,h2,h3⟩,h4⟩:=h
 refine ⟨by omega,fun r hr=>?_⟩
 obtain ⟨i,hi,rfl⟩:=List.getElem_of_mem hr
 have hi':i<l.length:=by omega
 have h5:=(List.all_eq_true.1 h4) i (List.mem_range.2 hi')
 rw [List.getElem?_eq_getElem hi',List.getElem?_eq_getElem hi] at h5
 have h6:soundB l[i]=true:=by have:=h3 l[i] (List.getElem_mem hi');simpa using this
 simp only [soundB,mayRow,longI,Bool.and_eq_true,decide_eq_true_eq,beq_iff_eq] at h5 h6
 have h7:=h5.1
 split at h7<;>omega
def clearM(st:List (List Int))(v:Int)(n:Nat):List (List Int):=(List.range n).foldl (fun st i=>putM st v (i:Nat) 0) st
def Small(st:List (List Int)):Prop:=st.length<=256/\ ∀r,r∈st->r.length<=64
theorem Small.put_p{st:List (List Int)}(h:Small st)(v i x:Int):Pure Tryz.prog gs0 47 [rowsA st,AI v,AI i,AI32 x] (rowsA (putM st v i x)):=Put_p st v i x (by have:=h.1;omega) fun r hr=>by have:=h.2 r hr;omega
section
variable{V:List KV}{C:List Int}
end
theorem clearM_succ(st:List (List Int))(v:Int)(n:Nat):clearM st v (n+1)=putM (clearM st v n) v (n:Nat) 0:=by
 unfold clearM
 rw [List.range_succ,List.foldl_append];rfl
section
variable{K:AC}{k:List It}{E:AEnv}{Λ:List AEnt}
theorem A.rangeIterN{x:Operand}{ps:Array Tmp}{assign body:Code}{g:FuncId}{cap cap':List AV}{xss:List (List AV)}(hx:E.ev K.gs [] x=some (.fn g [] cap'))(hs:SbL cap' cap)(it:Iter K.P K.S K.ok K.gs g cap xss)(hrd:K.rd=none)
 (hb:allBelow K.n ps.toList=true) (hlen: ∀xs,xs∈xss->Nat.beq (lenN xs) ps.toList.length=true) (Inv:Nat->List AEnt->Prop) (Stop:LoopState->Option Code->List AEnt->Prop) (h0:Inv 0 Λ)
 (rounds: ∀(h0':GH) (lp:Nat) (LR:Loop),K.h0.le h0'-> ∀i xs Λi (h1:GH) (hg1:GsOk h1 K.gs) (F:List Ent),xss[i]? =some xs->Inv i Λi->h0'.le h1->
   A ⟨K.P,K.S,K.w0,K.f,K.fn,K.n,K.ok,K.hfn,h1,F,K.gs,hg1,fun y Λ'=>
       (y= .v (.bool true)/\ ∃Λ'',Λ'= .loop lp LR .ready none::Λ''/\Inv (i+1) Λ'')\/(y= .v (.bool false)/\ ∃st pd Λ'',st≠ .busy/\Λ'= .loop lp LR st pd::Λ''/\Stop st pd Λ''),[],some lp⟩
     [.code assign, .begin, .code body] ⟨setsA ps.toList xs E.us,[]⟩ (.loop lp LR .ready none::Λi))
 (fin: ∀(h1:GH) (hg1:GsOk h1 K.gs) (r:Nat) Λ',K.h0.le h1->Inv xss.length Λ'->A ⟨K.P,K.S,K.w0,K.f,K.fn,K.n,K.ok,K.hfn,h1,K.F,K.gs,hg1,K.Q,r::K.D,none⟩ k E Λ')
 (stop: ∀(h1:GH) (hg1:GsOk h1 K.gs) (r:Nat) st pd Λ',K.h0.le h1->st≠ .busy->Stop st pd Λ'->A ⟨K.P,K.S,K.w0,K.f,K.fn,K.n,K.ok,K.hfn,h1,K.F,K.gs,hg1,K.Q,r::K.D,none⟩ (jumpIts pd++k) E Λ'):
 A K (.code (.rangeFunc x ps assign body)::k) E Λ:=
 A.rangeIter hx hs it hrd hb hlen Inv Stop h0 (fun h0' lp tm hl i xs Λi h1 hg1 F hxs hi hl1=>rounds h0' lp _ hl i xs Λi h1 hg1 F hxs hi hl1) fin stop
end
def kindOk(kind x:Int):Prop:=(kind=2->0<=x/\x<=255)/\(kind=3->x=0\/x=1)
theorem kindOk_fits{k x:Int}(h:fitsB k x=true):kindOk k x:=by
 unfold fitsB at h
 constructor
 ·intro hk;subst hk;simp at h;exact h
 ·intro hk;subst hk;simp at h;exact h
theorem kindOk_truth(k:Int)(b:Bool)(hk:k=3):kindOk k (truthI b):=⟨fun h=>by omega,fun _=>by cases b<;>simp [truthI]⟩
theorem kindOk_one(x:Int):kindOk 1 x:=⟨fun h=>by omega,fun h=>by omega⟩
def goodS(l:List KV)(s:List (List Int)):Prop:= ∀(i:Nat) (v:KV) (r:List Int),l[i]? =some v->s[i]? =some r-> ∀x,x∈r->fitsB v.kind x=true
theorem atM_kind{l:List KV}{s:List (List Int)}(hg:goodS l s){v i x:Int}{y:KV}(hy:l[v.toNat]? =some y)(hx:atM s v i=some x):fitsB y.kind x=true:=by
 unfold atM at hx
 split at hx
 ·cases hx
 ·cases hr:s[v.toNat]? with
  |none=>rw [hr] at hx;cases hx
  |some r=>rw [hr] at hx;exact hg _ y r hy hr x (List.mem_of_getElem? hx)
theorem fits_value{l:List KV}{s:List (List Int)}(hg:goodS l s){e:KE}(hf:fine e=true){kind x:Int}(hk:fitsM l e kind=true)(hx:valM s e=some x):kindOk kind x:=by
 rcases fine_cases hf with ⟨n,rfl⟩|⟨v,h1,h2,rfl⟩|⟨v,a,h1,h2,h3,rfl⟩|⟨o,a,h1,h2,h3,rfl⟩|⟨o,a,b,h1,h2,h3,h4,rfl⟩|⟨t,a,h1,h2,h3,rfl⟩
 ·simp [fitsM,fitsL,fitC] at hk
  simp [valM,valMl,combM] at hx
  subst hx
  exact ⟨fun h=>by omega,fun h=>by omega⟩
 ·simp only [fitsM,fitsL,fitC] at hk
  simp [valM,valMl,combM] at hx
  rw [if_neg (by decide),if_pos trivial] at hk
  split at hk
  ·rename_i y hy
   simp at hk
   rw [<-hk.2];exact kindOk_fits (atM_kind hg hy hx)
  ·cases hk
 ·simp only [fitsM,fitsL,fitC] at hk
  rw [if_neg (by decide),if_neg (by decide),if_pos trivial] at hk
  split at hk
  ·rename_i y _ _ hy _
   simp at hk
   simp only [valM,valMl,combM] at hx
   cases ha:valM s a with
   |none=>rw [ha] at hx;simp at hx
   |some z=>
    rw [ha] at hx;simp at hx
    rw [<-hk.1.2];exact kindOk_fits (atM_kind hg hy hx)
  ·cases hk
 ·simp only [fitsM,fitsL,fitC] at hk
  rw [if_neg (by decide),if_neg (by decide),if_neg (by decide)] at hk
  simp at hk
  simp only [valM,valMl,combM] at hx
  cases ha:valM s a with
  |none=>rw [ha] at hx;simp at hx
  |some z=>
   rw [ha] at hx;simp at hx
   split at hk
   ·rename_i ho
    subst ho
    simp [applyC] at hx
    rw [<-hx.2];exact kindOk_truth _ _ hk.1
   ·rw [hk.1];exact kindOk_one x
 ·simp only [fitsM,fitsL,fitC] at hk
  rw [if_neg (by decide),if_neg (by decide),if_neg (by decide)] at hk
  simp only [valM,valMl,combM] at hx
  cases ha:valM s a with
  |none=>rw [ha] at hx;simp at hx
  |some z=>
   rw [ha] at hx;simp at hx
   simp at hk
   split at hk
   ·rw [hk.1];exact kindOk_one x
   ·rename_i ho
    have hk3:kind=3:=by
     by_cases h:kind=3
     ·exact h
     ·simp [h] at hk
    subst hk3
    refine ⟨fun h=>by omega,fun _=>?_⟩
    split at hx
    ·rename_i hsh
     simp at hx
     subst hx
     simp [isSh] at hsh;omega
    ·cases hb:valM s b with
     |none=>rw [hb] at hx;simp at hx
     |some w=>
      rw [hb] at hx;simp at hx
      have ho':o=14\/o=15\/o=16\/o=17\/o=18\/o=19\/o=20\/o=21\/o=22:=by omega
      have ht: ∀c:Bool,truthI c=0\/truthI c=1:=fun c=>by cases c<;>simp [truthI]
      rcases ho' with rfl|rfl|rfl|rfl|rfl|rfl|rfl|rfl|rfl<;>simp [applyC] at hx
      ·rw [<-hx];exact ht _
      ·rw [<-hx];exact ht _
      ·rw [<-hx];exact ht _
      ·rw [<-hx];exact ht _
      ·rw [<-hx];exact ht _
      ·rw [<-hx];exact ht _
      ·rw [<-hx.2];exact ht _
      ·rw [<-hx.2];exact ht _
      ·rw [<-hx];exact ht _
 ·simp only [fitsM,fitsL,fitC] at hk
  rw [if_neg (by decide),if_neg (by decide),if_neg (by decide)] at hk
  simp at hk
  simp only [valM,valMl,combM] at hx
  cases ha:valM s a with
  |none=>rw [ha] at hx;simp at hx
  |some z=>
   rw [ha] at hx;simp at hx
   rw [conv_fits] at hx
   split at hx
   ·rename_i hz
    injection hx with hx
    subst hx
    rw [<-hk.1];exact kindOk_fits hz
   ·cases hx
theorem may_good{l:List KV}{s:List (List Int)}(hs:soundsB l=true)(hlen:s.length=l.length)(hr: ∀(i:Nat) (v:KV) (r:List Int),l[i]? =some v->s[i]? =some r->(r.length:Int)=longI v)(hg:goodS l s):mayB l s=true:=by
 simp only [mayB,hs,hlen,decide_true,Bool.true_and,allEq,List.all_eq_true,List.mem_range]
 intro i hi
 have h2:i<s.length:=by omega
 rw [List.getElem?_eq_getElem hi,List.getElem?_eq_getElem h2]
 simp only [mayRow,Bool.and_eq_true,beq_iff_eq]
 refine ⟨hr i _ _ (List.getElem?_eq_getElem hi) (List.getElem?_eq_getElem h2),?_⟩
 simp only [Bool.not_eq_true',List.any_eq_false]
 intro x hx
 rw [hg i _ _ (List.getElem?_eq_getElem hi) (List.getElem?_eq_getElem h2) x hx];simp
theorem long_pos(v:KV):0<longI v:=by unfold longI;split<;>omega
theorem store_len(l:List KV):(storeM l).length=l.length:=by rw [storeM,List.length_map]
theorem store_at{l:List KV}{i:Nat}{v:KV}{r:List Int}(hv:l[i]? =some v)(hr:(storeM l)[i]? =some r):r=List.replicate (longI v).toNat 0:=by
 rw [storeM,List.getElem?_map,hv] at hr;injection hr with hr;exact hr.symm
theorem fits_zero{v:KV}(h:soundB v=true):fitsB v.kind 0=true:=by
 simp [soundB] at h
 rcases h.1.1 with (h|h)|h<;>simp [fitsB,h]
theorem sounds_at{l:List KV}(h:soundsB l=true){v:KV}(hv:v∈l):soundB v=true:=by
 simp [soundsB] at h;exact h.2 v hv
theorem store_good{l:List KV}(h:soundsB l=true):goodS l (storeM l):=fun i v r hv hr x hx=>by
 rw [store_at hv hr] at hx
 rw [(List.mem_replicate.1 hx).2]
 exact fits_zero (sounds_at h (List.mem_of_getElem? hv))
theorem may_store{l:List KV}(h:soundsB l=true):mayB l (storeM l)=true:=may_good h (store_len l) (fun i v r hv hr=>by rw [store_at hv hr,List.length_replicate];have:=long_pos v;omega) (store_good h)
structure StOk(V:List KV)(st:List (List Int)):Prop where
 may:mayB V st=true
 ws:wfS st
theorem may_parts{V:List KV}{st:List (List Int)}(h:mayB V st=true):soundsB V=true/\st.length=V.length/\(∀(i:Nat) (v:KV) (r:List Int),V[i]? =some v->st[i]? =some r->(r.length:Int)=longI v)/\goodS V st:=by
 simp only [mayB,Bool.and_eq_true,decide_eq_true_eq,allEq,List.all_eq_true,List.mem_range] at h
 obtain ⟨⟨h1,h2⟩,h3⟩:=h
 have hm: ∀(i:Nat) (v:KV) (r:List Int),V[i]? =some v->st[i]? =some r->mayRow v r=true:=fun i v r hv hr=>by
  have:=h3 i (at_lt hv)
  rw [hv,hr] at this;exact this
 refine ⟨h2,h1,fun i v r hv hr=>?_,fun i v r hv hr x hx=>?_⟩
 ·have:=hm i v r hv hr
  simp only [mayRow,Bool.and_eq_true,beq_iff_eq] at this
  exact this.1
 ·have:=hm i v r hv hr
  simp only [mayRow,Bool.and_eq_true,Bool.not_eq_true',List.any_eq_false] at this
  have:=this.2 x hx
  simpa using this
theorem StOk.put{V:List KV}{st:List (List Int)}(h:StOk V st){v i x:Int}(hx:i32 x)(hk: ∀y,V[v.toNat]? =some y->fitsB y.kind x=true):StOk V (putM st v i x):=by
 obtain ⟨h1,h2,h3,h4⟩:=may_parts h.may
 unfold putM
 by_cases ha:(atM st v i).isSome=true
 ·rw [if_pos ha]
  cases hr:st[v.toNat]? with
  |none=>exact h
  |some r=>
   show StOk V (st.set v.toNat (r.set i.toNat x))
   have hin: ∀z,z∈r.set i.toNat x->z∈r\/z=x:=fun z hz=>List.mem_or_eq_of_mem_set hz
   refine ⟨may_good h1 (by show (st.set _ _).length=_;rw [List.length_set];exact h2) (fun j y q hy hq=>?_) (fun j y q hy hq z hz=>?_),fun q hq z hz=>?_⟩
   ·replace hq:(st.set v.toNat (r.set i.toNat x))[j]? =some q:=hq
    rw [List.getElem?_set] at hq
    split at hq
    ·rename_i hj
     subst hj
     split at hq
     ·injection hq with hq
      rw [<-hq,List.length_set];exact h3 _ y r hy hr
     ·cases hq
    ·exact h3 j y q hy hq
   ·replace hq:(st.set v.toNat (r.set i.toNat x))[j]? =some q:=hq
    rw [List.getElem?_set] at hq
    split at hq
    ·rename_i hj
     subst hj
     split at hq
     ·injection hq with hq
      rw [<-hq] at hz
      rcases hin z hz with hz|rfl
      ·exact h4 _ y r hy hr z hz
      ·exact hk y hy
     ·cases hq
    ·exact h4 j y q hy hq z hz
   ·replace hq:q∈st.set v.toNat (r.set i.toNat x):=hq
    rcases List.mem_or_eq_of_mem_set hq with hq|hq
    ·exact h.ws q hq z hz
    ·rw [hq] at hz
     rcases hin z hz with hz|rfl
     ·exact h.ws r (List.mem_of_getElem? hr) z hz
     ·exact hx
 ·rw [if_neg ha];exact h
theorem StOk.small{V:List KV}{st:List (List Int)}(h:StOk V st):Small st:=mayB_short h.may
theorem prim_fits{k x:Int}(hk:k=1\/k=2\/k=3)(h:kindOk k x):fitsB k x=true:=by
 obtain ⟨h2,h3⟩:=h
 rcases hk with rfl|rfl|rfl
 ·rfl
 ·have:=h2 rfl;simp [fitsB];omega
 ·have:=h3 rfl;simpa [fitsB] using this
theorem sound_prim{v:KV}(h:soundB v=true):v.kind=1\/v.kind=2\/v.kind=3:=by
 simp [soundB] at h
 rcases h.1.1 with (h|h)|h
 ·exact .inl h
 ·exact .inr (.inl h)
 ·exact .inr (.inr h)
theorem place_v{st:List (List Int)}{v:Int}{ix:List KE}{p:Int×Int}(h:placeM st v ix=some p):p.1=v:=by
 match ix,h with
 | [],h=>
   rw [placeM] at h
   split at h
   ·injection h with h;rw [<-h]
   ·cases h
 | [e],h=>
   rw [placeM] at h
   split at h
   ·split at h
    ·injection h with h;rw [<-h]
    ·cases h
   ·cases h
theorem placeB_at{V:List KV}{t:PL}{k:Int}(h:placeB V t k=true): ∀y,V[t.v.toNat]? =some y->y.kind=k:=fun y hy=>by
 unfold placeB at h
 split at h
 ·cases h
 ·rw [hy] at h
  simp only [Bool.and_eq_true,beq_iff_eq] at h
  exact h.1
theorem value_fits{V:List KV}{st:List (List Int)}(hs:StOk V st){e:KE}{k x:Int}(hf:fitV V e k=true)(hv:valueM st e=some x):kindOk k x:=by
 obtain ⟨h1,h2,h3,h4⟩:=may_parts hs.may
 unfold fitV at hf
 simp only [Bool.and_eq_true,decide_eq_true_eq] at hf
 unfold valueM at hv
 rw [if_pos hf.1] at hv
 exact fits_value h4 hf.1.1 hf.2 hv
theorem value_in{V:List KV}{st:List (List Int)}(hs:StOk V st){e:KE}{x:Int}(hw:wfK e)(hv:valueM st e=some x):i32 x:=valueM_in hs.ws hw x hv
section
variable{V:List KV}{C:List Int}
theorem goods{st:List (List Int)}(h:StOk V st){v:KV}{i:Nat}(hv:V[i]? =some v):soundB v=true:=sounds_at (may_parts h.may).1 (List.mem_of_getElem? hv)
theorem clear_ok{st:List (List Int)}(h:StOk V st)(v:Int): ∀n,StOk V (clearM st v n)
 |0=>h
 |n+1=>by
  rw [clearM_succ]
  exact (clear_ok h v n).put (by unfold i32;omega) fun y hy=>fits_zero (goods h hy)
theorem guard_in{g:GD}{b:Bool}(h:guardB V C.length g b=true)(h3:g.kind=3):inputB V C.length g.c g.item g.to=true:=by
 unfold guardB at h
 rw [if_neg (by omega),if_pos h3] at h
 simp only [Bool.and_eq_true] at h
 exact h.2.2
end
theorem fitb8{v:Int}(hv:i32 v):(v==IntKind.i32.wrap (IntKind.u8.wrap v))=(decide (0<=v)&&decide (v<=255)):=by
 unfold i32 at hv
 have h8:IntKind.u8.wrap v=v % 256:=by
  unfold IntKind.wrap;rfl
 rw [h8,w32_eq,Bool.eq_iff_iff]
 simp only [beq_iff_eq,Bool.and_eq_true,decide_eq_true_eq]
 omega
theorem fitb1{v:Int}(hv:i32 v):(bitsOf BinOp.or IntKind.i32 v 1==1)=(v==0||v==1):=by
 unfold i32 at hv
 rw [Bool.eq_iff_iff]
 simp only [beq_iff_eq,Bool.or_eq_true]
 show IntKind.i32.wrap ((BitVec.ofInt 32 v|||BitVec.ofInt 32 1).toNat:Int)=1↔_
 have h1:(BitVec.ofInt 32 1).toNat=1:=by decide
 have h2:((BitVec.ofInt 32 v).toNat:Int)=v % 4294967296:=by
  rw [BitVec.toNat_ofInt]
  have:(0:Int)<=v % 4294967296:=by omega
  show (((v % ((2^32:Nat):Int)).toNat:Nat):Int)=_
  rw [show ((2^32:Nat):Int)=4294967296 by decide,Int.toNat_of_nonneg this]
 have h3:(BitVec.ofInt 32 v|||BitVec.ofInt 32 1).toNat=(BitVec.ofInt 32 v).toNat|||1:=by rw [BitVec.toNat_or,h1]
 have h4:=(BitVec.ofInt 32 v|||BitVec.ofInt 32 1).isLt
 have h5:(BitVec.ofInt 32 v).toNat<=(BitVec.ofInt 32 v).toNat|||1:=Nat.left_le_or
 rw [h3] at h4⊢
 constructor
 ·intro h
  rw [w32_eq] at h
  have h6:(BitVec.ofInt 32 v).toNat|||1=1:=by omega
  rw [h6] at h5
  omega
 ·rintro (h|h)<;>subst h<;>decide
theorem fitsq_p(t v:Int)(hv:i32 v):Pure Tryz.prog gs0 119 [AU8 t,AI32 v] (AB (fitsB t v)):=by
 refine p_ tt_ok Tryz.func119 20 fun w0 h0 F hgs=>?_
 refine y_ ?_
 refine k_ (fun hc=>?_) fun hc=>?_
 ·refine y_ ?_;refine R_ ?_;refine Sb.eq ?_;simp at hc;subst hc;rw [fitb8 hv];rfl
 ·refine y_ ?_
  refine k_ (fun hd=>?_) fun hd=>?_
  ·refine y_ ?_;refine R_ ?_;refine Sb.eq ?_;simp at hc hd;subst hd;rw [fitb1 hv];rfl
  ·refine y_ ?_;refine R_ ?_;refine Sb.eq ?_;simp at hc hd;simp [fitsB,hc,hd]
theorem may_sounds{k:KN}(h:mayK k=true):soundsB k.vars=true:=KOk.sounds (C:=k.chans) (may_kok h)
theorem storeS_eq{k:KN}(h:mayK k=true):storeS k.vars=storeM k.vars:=by unfold storeS;rw [if_pos (may_sounds h)]
theorem store_ok{V:List KV}(h:soundsB V=true):StOk V (storeM V):=⟨may_store h,fun r hr x hx=>by
 unfold storeM at hr
 rw [List.mem_map] at hr
 obtain ⟨v,_,rfl⟩:=hr
 rw [List.eq_of_mem_replicate hx];unfold i32;omega⟩
theorem start_root{k:KN}(h:mayK k=true)(hw:WfN k)(hs:smR k.root):okF (Loc k.vars k.chans) true false k.root:=by
 obtain ⟨h1,h2,h3⟩:=may_fits h
 exact ok_kernel h1 (by omega) hw.root hs
end Go.Proofs.YtkbolbpojpmicaaGreat
namespace Go.Proofs.YtkbolbpojpmicaaGreat
mutual
def untR:PR->Bool
 |⟨k,_,_,_,_,_,gs,l⟩=> !(k==7||k==8)&&(untL l&&untGs gs)
def untL:List PR->Bool
 | []=>true
 |p::r=>untR p&&untL r
def untG:GD->Bool
 |⟨k,_,_,_,_,_,b⟩=> !(k==4)&&untL b
def untGs:List GD->Bool
 | []=>true
 |g::r=>untG g&&untGs r
end
theorem untR_eq(p:PR):untR p=(!(p.kind==7||p.kind==8)&&(untL p.l&&untGs p.gs)):=by obtain ⟨k,c,v,i,to,e,gs,l⟩:=p;rw [untR]
theorem untG_eq(g:GD):untG g=(!(g.kind==4)&&untL g.body):=by obtain ⟨k,e,c,i,to,t,b⟩:=g;rw [untG]
theorem untL_all: ∀{l:List PR},untL l=true↔ ∀x,x∈l->untR x=true
 | []=>by simp [untL]
 |p::r=>by rw [untL,Bool.and_eq_true,untL_all];simp
theorem untGs_all: ∀{l:List GD},untGs l=true↔ ∀g,g∈l->untG g=true
 | []=>by simp [untGs]
 |p::r=>by rw [untGs,Bool.and_eq_true,untGs_all];simp
structure UT(p:PR):Prop where
 k7:p.kind≠7
 k8:p.kind≠8
 gs: ∀g,g∈p.gs->g.kind≠4
theorem unt_iff{p:PR}:untR p=true↔UT p/\(∀x,x∈p.l->untR x=true)/\ ∀g,g∈p.gs->untL g.body=true:=by
 rw [untR_eq]
 simp only [Bool.and_eq_true,Bool.not_eq_true',Bool.or_eq_false_iff,beq_eq_false_iff_ne,untL_all,untGs_all]
 constructor
 ·rintro ⟨⟨h1,h2⟩,h3,h4⟩
  refine ⟨⟨h1,h2,fun g hg=>?_⟩,h3,fun g hg=>?_⟩
  ·have:=h4 g hg;rw [untG_eq] at this;simp at this;exact this.1
  ·have:=h4 g hg;rw [untG_eq] at this;simp at this;exact untL_all.1 this.2
 ·rintro ⟨⟨h1,h2,h3⟩,h4,h5⟩
  refine ⟨⟨h1,h2⟩,h4,fun g hg=>?_⟩
  rw [untG_eq]
  have:=h5 g hg
  simp [h3 g hg];exact untL_all.2 this
section
variable{V:List KV}{C:List Int}
def LU(V:List KV)(C:List Int)(p:PR):Prop:=Loc V C p/\UT p
theorem lu_of_n: ∀(m:Nat) (p:PR) (n hi:Bool),SizeOf.sizeOf p<=m->untR p=true->okF (Loc V C) n hi p->okF (LU V C) n hi p
 |0,p,_,_,h,_,_=>by
  obtain ⟨k,c,v,i,to,e,gs,l⟩:=p
  simp only [PR.mk.sizeOf_spec] at h;omega
 |m+1,p,n,hi,hm,hu,w=>by
  obtain ⟨u1,u2,u3⟩:=unt_iff.1 hu
  rw [okF_eq] at w⊢
  obtain ⟨⟨w1,w2,w3⟩,w4,w5⟩:=w
  have hl: ∀(l:List PR),(∀x,x∈l->SizeOf.sizeOf x<=m/\untR x=true)-> ∀n0 n1 h0 h1,okFl (Loc V C) n0 n1 h0 h1 l->okFl (LU V C) n0 n1 h0 h1 l:=by
   intro l
   induction l with
   |nil=>intro _ n0 n1 h0 h1 _;exact okFl_0
   |cons x r ih=>
    intro hx n0 n1 h0 h1 w
    rw [okFl] at w⊢
    exact ⟨lu_of_n m x n0 h0 (hx x (.head _)).1 (hx x (.head _)).2 w.1,ih (fun y hy=>hx y (.tail _ hy)) _ _ _ _ w.2⟩
  refine ⟨⟨⟨w1,u1⟩,w2,w3⟩,hl p.l (fun x hx=>⟨by have:=pr_lt hx;omega,u2 x hx⟩) _ _ _ _ w4,okFs_of fun g hg=>?_⟩
  have:=okFs_mem w5 g hg
  rw [okFg_eq] at this⊢
  exact hl g.body (fun x hx=>⟨by have:=gg_lt hg;have:=bd_lt hx;omega,untL_all.1 (u3 g hg) x hx⟩) _ _ _ _ this
theorem lu_of{p:PR}{n hi:Bool}(hu:untR p=true)(w:okF (Loc V C) n hi p):okF (LU V C) n hi p:=lu_of_n _ p n hi (Nat.le_refl _) hu w
end
end Go.Proofs.YtkbolbpojpmicaaGreat
namespace Go.Tp
open Go Go.RowKit
section
variable{K:AC}{k:List It}{E:AEnv}{Λ:List AEnt}
end
end Go.Tp
namespace Go.Proofs.YtkbolbpojpmicaaGreat
open Go Go.Tp
structure WD where
 store:List (List Int)
 inn:List Int
 out:List Int
 steps:Nat
structure FR where
 c:Int
 v:Int
 i:Int
 to:List PL
 e:List KE
 gs:List GD
 rest:List PR
section
variable{w:WD}{p:PR}{fs:List FR}
end
section
variable{V:List KV}{n:Nat}{p:PR}
end
section
variable{k:KN}{w:WD}{p q:PR}{fs:List FR}
end
theorem bl_lt{p x:PR}{g:GD}(hg:g∈p.gs)(h:x∈g.body):SizeOf.sizeOf x<SizeOf.sizeOf p:=by
 have h1:=gg_lt hg
 have h2:=bd_lt h
 omega
def addS(f:PR->Int)(n:Int)(x:PR):Int:=IntKind.i64.wrap (n+f x)
def sumS(f:PR->Int)(p:PR):Int:=p.gs.foldl (fun n g=>g.body.foldl (addS f) n) (p.l.foldl (addS f) 1)
theorem rsz_f(p:PR)(hs:smR p)(f:PR->Int)(hl: ∀x,x∈p.l->Pure Tryz.prog gs0 43 [cellsR x] (AI (f x)))(hg: ∀g,g∈p.gs-> ∀x,x∈g.body->Pure Tryz.prog gs0 43 [cellsR x] (AI (f x))):
 Pure Tryz.prog gs0 43 [cellsR p] (AI (sumS f p)):=by
 have hsa:=smR_all hs
 have hll:=hsa.ll
 have hgl:=hsa.gl
 have n1:((encRl p.l).length:Int)=p.l.length:=by rw [encRl_len]
 have n2:((encGl p.gs).length:Int)=p.gs.length:=by rw [encGl_len]
 unfold sumS
 refine p_ tt_ok Tryz.func43 53 fun w0 h0 F hgs=>?_
 (refine b_ fun bx=>?_;refine y_ ?_)
 refine A.freeze 1 (sz:=8) rfl rfl rfl ?_
 refine A.keep [1,3,4] rfl ?_
 refine A.loopP (ι:=Nat) (fun i=>(⟨[(1, .pe 8 (cellsR p)),(3,AI ((p.l.take i).foldl (addS f) 1)),(4,AI (i:Nat))],[]⟩,[])) (fun i=>i<=p.l.length) (fun i=>p.l.length-i) 0 (Nat.zero_le _) rfl fun i hi ih=>?_
 refine y_ ?_
 refine k_ (fun hc=>?_) fun hc=>?_
 ·have hc':i<p.l.length:=by have:=hc;simp only [n1,decide_eq_true_eq] at this;omega
  refine Exists.elim (at_exN (l:=p.l) (i:=i) hc') fun x hx=>?_
  have hsz:=hl x (List.mem_of_getElem? hx)
  have htk:p.l.take (i+1)=p.l.take i++[x]:=by rw [List.take_add_one,hx];rfl
  refine y_ ?_
  refine i_ rfl (encRl_at hx) (encR_eq x) ?_
  refine c_ hsz ?_
  refine A.valE 3 rfl (x':=AI ((p.l.take (i+1)).foldl (addS f) 1)) (by rw [htk,List.foldl_append];rfl) ?_
  refine A.valE 4 rfl (x':=AI ((i+1:Nat):Int)) (inc_eq i (by omega)) ?_
  refine u_ (ih (i+1) (by omega) (by omega))
 have hc': ¬i<p.l.length:=by have:=hc;simp only [n1,decide_eq_false_iff_not] at this;omega
 have hil:i=p.l.length:=by omega
 refine e_ 3 rfl (x':=AI (p.l.foldl (addS f) 1)) (by rw [hil,List.take_length]) ?_
 refine A.keep [1,3,5] rfl ?_
 refine A.loopP (ι:=Nat) (fun j=>(⟨[(1, .pe 8 (cellsR p)),(3,AI ((p.gs.take j).foldl (fun n g=>g.body.foldl (addS f) n) (p.l.foldl (addS f) 1))),(5,AI (j:Nat))],[]⟩,[])) (fun j=>j<=p.gs.length) (fun j=>p.gs.length-j) 0 (Nat.zero_le _) rfl fun j hj jh=>?_
 refine y_ ?_
 refine k_ (fun hc=>?_) fun hc=>?_
 ·have hc':j<p.gs.length:=by have:=hc;simp only [n2,decide_eq_true_eq] at this;omega
  refine Exists.elim (at_exN (l:=p.gs) (i:=j) hc') fun g hgj=>?_
  have hgm:=List.mem_of_getElem? hgj
  have htk:p.gs.take (j+1)=p.gs.take j++[g]:=by rw [List.take_add_one,hgj];rfl
  have n3:((encRl g.body).length:Int)=g.body.length:=by rw [encRl_len]
  have hbl:=(smG_all (hsa.g g hgm)).bl
  refine Exists.elim (show∃n0,n0=(p.gs.take j).foldl (fun n g=>g.body.foldl (addS f) n) (p.l.foldl (addS f) 1) from ⟨_,rfl⟩) fun n0 hn0=>?_
  refine e_ 3 rfl (x':=AI n0) (by rw [hn0]) ?_
  refine A.keep [1,3,5,6] rfl ?_
  refine A.loopP (ι:=Nat) (fun t=>(⟨[(1, .pe 8 (cellsR p)),(3,AI ((g.body.take t).foldl (addS f) n0)),(5,AI (j:Nat)),(6,AI (t:Nat))],[]⟩,[])) (fun t=>t<=g.body.length) (fun t=>g.body.length-t) 0 (Nat.zero_le _) rfl fun t ht th=>?_
  refine y_ ?_
  refine i_ rfl (encGl_at hgj) (encG_eq g) ?_
  refine k_ (fun hc=>?_) fun hc=>?_
  ·have hct:t<g.body.length:=by have:=hc;simp only [n3,decide_eq_true_eq] at this;omega
   refine Exists.elim (at_exN (l:=g.body) (i:=t) hct) fun x hx=>?_
   have hsz:=hg g hgm x (List.mem_of_getElem? hx)
   have htk2:g.body.take (t+1)=g.body.take t++[x]:=by rw [List.take_add_one,hx];rfl
   refine y_ ?_
   refine i_ rfl (encGl_at hgj) (encG_eq g) ?_
   refine i_ rfl (encRl_at hx) (encR_eq x) ?_
   refine c_ hsz ?_
   refine A.valE 3 rfl (x':=AI ((g.body.take (t+1)).foldl (addS f) n0)) (by rw [htk2,List.foldl_append];rfl) ?_
   refine A.valE 6 rfl (x':=AI ((t+1:Nat):Int)) (inc_eq t (by omega)) ?_
   refine u_ (th (t+1) (by omega) (by omega))
  have hct: ¬t<g.body.length:=by have:=hc;simp only [n3,decide_eq_false_iff_not] at this;omega
  have htl:t=g.body.length:=by omega
  refine e_ 3 rfl (x':=AI ((p.gs.take (j+1)).foldl (fun n g=>g.body.foldl (addS f) n) (p.l.foldl (addS f) 1))) (by rw [htl,List.take_length,htk,List.foldl_append,<-hn0];rfl) ?_
  refine A.valE 5 rfl (x':=AI ((j+1:Nat):Int)) (inc_eq j (by omega)) ?_
  refine u_ (jh (j+1) (by omega) (by omega))
 have hc': ¬j<p.gs.length:=by have:=hc;simp only [n2,decide_eq_false_iff_not] at this;omega
 have hjl:j=p.gs.length:=by omega
 rw [hjl,List.take_length]
 exact yr_
theorem fold_szL: ∀(l:List PR) (n:Int),0<=n->n+(szL l:Nat)<=4294967296->l.foldl (addS fun x=>(szR x:Nat)) n=n+(szL l:Nat)
 | [],n,_,_=>by rw [szL];simp
 |x::r,n,h0,h=>by
  rw [szL] at h⊢
  have e:addS (fun x=>(szR x:Nat)) n x=n+(szR x:Nat):=by
   show IntKind.i64.wrap (n+((szR x:Nat):Int))=_
   exact wr64 _ (by omega)
  rw [List.foldl_cons,e,fold_szL r _ (by omega) (by omega)]
  omega
theorem fold_szGs: ∀(l:List GD) (n:Int),0<=n->n+(szGs l:Nat)<=4294967296->l.foldl (fun n g=>g.body.foldl (addS fun x=>(szR x:Nat)) n) n=n+(szGs l:Nat)
 | [],n,_,_=>by rw [szGs];simp
 |g::r,n,h0,h=>by
  rw [szGs,szG_eq] at h⊢
  rw [List.foldl_cons,fold_szL g.body n h0 (by omega),fold_szGs r _ (by omega) (by omega)]
  omega
theorem rsz_n: ∀(m:Nat) (p:PR),SizeOf.sizeOf p<=m->smR p->szR p<=1000000->Pure Tryz.prog gs0 43 [cellsR p] (AI (szR p:Nat))
 |0,p,h,_,_=>by
  obtain ⟨k,c,v,i,to,e,gs,l⟩:=p
  simp only [PR.mk.sizeOf_spec] at h;omega
 |m+1,p,h,hw,hz=>by
  have hwa:=smR_all hw
  have e:=szR_eq p
  have h1:=rsz_f p hw (fun x=>(szR x:Nat)) (fun x hx=>rsz_n m x (by have:=pr_lt hx;omega) (hwa.l x hx) (by have:=szL_le hx;omega))
   (fun g hg x hx=>rsz_n m x (by have:=bl_lt hg hx;omega) ((smG_all (hwa.g g hg)).body x hx) (by have:=szGs_le hg;have:=szL_le hx;rw [szG_eq] at*;omega))
  have e2:sumS (fun x=>(szR x:Nat)) p=(szR p:Nat):=by
   unfold sumS
   rw [fold_szL p.l 1 (by omega) (by omega),fold_szGs p.gs _ (by omega) (by omega)]
   omega
  rw [e2] at h1;exact h1
theorem rsz_p{p:PR}(hw:smR p)(hz:szR p<=1000000):Pure Tryz.prog gs0 43 [cellsR p] (AI (szR p:Nat)):=rsz_n _ p (Nat.le_refl _) hw hz
structure SmN(k:KN):Prop where
 wf:WfN k
 root:smR k.root
end Go.Proofs.YtkbolbpojpmicaaGreat
namespace Go.Tp
open Go Go.RowKit
section
variable{K:AC}{k:List It}{E:AEnv}{Λ:List AEnt}
theorem A.indexPart{all:Array Oper}{o:Oper}{l:List Oper}{ks:List (Nat×Bool)}{t el:TypeId}{ti ei:TI}{x ix:Operand}{b off p m c' n c sz:Nat}{xs:List AV}{kk:IntKind}{i:Int}{E':AEnv}(j0:Nat)
 (hg:gyesA E all o.guard=some ks) (ho:o.op= .indexAddr t x ix) (hx:E.ev K.gs ks x=some (.v (.slice (some ⟨b,p,none⟩) m c'))) (hi:E.ev K.gs ks ix=some (.v (.int kk i))) (ht:K.S.get t=some ti) (hdd:ti.d= .slice el) (he:K.S.get el=some ei) [j:ARow Λ (.slice (some ⟨b,off,none⟩) n c) sz xs]
 (hs:Nat.beq ei.size sz=true) (hp:p=off+j0*sz) (h0:0<=i) (h1:i<m) (h2:j0+i.toNat<n) (hput:E.put K.n none o.dst (.ep (.slice (some ⟨b,off,none⟩) n c) sz (j0+i.toNat))=some E') (next:A K (.ops all l::k) E' Λ):A K (.ops all (o::l)::k) E Λ:=by
 refine ⟨fun h e L hl r q=>?_⟩
 have hs:=Nat.eq_of_beq_eq_true hs
 obtain ⟨v1,e1,f1⟩:=r.ev (K.hgs.mono hl) _ hx
 obtain ⟨v2,e2,f2⟩:=r.ev (K.hgs.mono hl) _ hi
 rw [Rp_v] at f1 f2;rw [f1.1] at e1;rw [f2.1] at e2
 obtain ⟨e',e4,e5⟩:=putA_eq (y:= .pointer (some ⟨b,p+i.toNat*sz,none⟩)) r hput (Rp_ep.2 ⟨b,off,n,c,rfl,h2,by rw [hp,Nat.add_mul,Nat.add_assoc]⟩)
 have hiv:idxv K.S t (.slice (some ⟨b,p,none⟩) m c') i=some (.pointer (some ⟨b,p+i.toNat*sz,none⟩),m):=by simp only [idxv,ht,hdd,he,hs]
 exact V.indexY (C:=K.cfg) (gyesA_eq r hg) ho e1 e2 hiv e4 h0 h1 (next.run h e' L hl e5 q)
theorem Fun.row1{P:Program}{gs:Ua}{f:FuncId}{args:List AV}{Q:AV->List AEnt->Prop}{Λ:List AEnt}{z:Value}{sz n:Nat}{l:List AV}(hl:l≠[])
 (hv: ∀b o c,l.length<=c->Fun P gs f (.ms (.slice (some ⟨b,o,none⟩) l.length c) sz l.length::args) (.row sz (.slice (some ⟨b,o,none⟩) l.length c) l::Λ) Q):Fun P gs f (.ms z sz n::args) (.row sz z l::Λ) Q:=by
 intro w0 h vs L F g r q
 have r0:=r
 have q0:=q
 rw [RpC_cons] at r
 obtain ⟨u,us,rfl,r1,r2⟩:=r
 rw [Rp_ms] at r1
 obtain ⟨rfl,a',cap',rfl⟩:=r1
 obtain ⟨M,L2,rfl,⟨p,⟨a,cap,zs,e1,e2,e3,e4,e5⟩,rfl⟩,q2⟩:=q
 injection e1 with e1 e1' e1''
 subst e1;subst e1';subst e1''
 rcases e5 with ⟨e5,_⟩|⟨b,o,sp,rfl,rfl,e6⟩
 ·exact (hl e5).elim
 ·exact hv b o cap' e2 w0 h _ _ F g r0 q0
theorem A.rowCut{a:Option Addr}{n c sz:Nat}{l l1 l2:List AV}(m:Nat){Λ':List AEnt} [i:ARow Λ (.slice a n c) sz l] [j:AOut Λ (.row sz (.slice a n c) l) Λ'](hl:l=l1++l2)(hm:l1.length=m)(h0:l1≠[])
 (next:A K k E (.row sz (.slice a m c) l1::Λ')):A K k E Λ:=by
 subst hl;subst hm
 refine A.perm j.perm (A.ents (fun h L q=>?_) next)
 obtain ⟨M,L2,rfl,⟨p,⟨a',cap,zs,g1,g2,g3,g4,g5⟩,rfl⟩,q4⟩:=q
 injection g1 with g1 g1' g1''
 subst g1;subst g1';subst g1''
 rw [List.length_append] at g2
 refine ⟨[p]++L2,⟨[p],L2,rfl,⟨p,⟨a,c,zs.take l1.length,rfl,by omega,?_,g4,?_⟩,rfl⟩,q4⟩, .refl _⟩
 ·have:=g3.takeN l1.length
  rwa [List.take_left' rfl] at this
 ·rcases g5 with ⟨g5,_⟩|⟨b,o,sp,g6,g7,g8⟩
  ·simp at g5;exact (h0 g5.1).elim
  ·refine .inr ⟨b,o,catL (zs.drop l1.length)++sp,g6,?_,?_⟩
   ·rw [g7,<-List.append_assoc,<-catL_app,List.take_append_drop]
   ·rw [List.length_append,(g3.dropN l1.length).clen,List.drop_left' rfl,g8,List.length_append,<-Nat.add_mul]
    congr 1;omega
theorem catL_rep(v:Value): ∀m:Nat,(List.replicate m (cellsL v)).flatten=catL (List.replicate m v)
 |0=>rfl
 |m+1=>by rw [List.replicate_succ,List.flatten_cons,catL_rep v m];rfl
theorem RpC.rep{h:GH}{y:AV}{v:Value}(r:Rp h y v): ∀m:Nat,RpC h (List.replicate m y) (List.replicate m v)
 |0=>RpC_nil.2 rfl
 |m+1=>RpC_cons.2 ⟨_,_,rfl,r,RpC.rep r m⟩
theorem A.clearRow{all:Array Oper}{o:Oper}{l:List Oper}{ks:List (Nat×Bool)}{x:Operand}{t el:TypeId}{ti ei:TI}{b off p m c' n c sz:Nat}{xs xs':List AV}{y:AV}{Λ':List AEnt}(j0:Nat)
 (hg:gyesA E all o.guard=some ks) (ho:o.op= .call ⟨.builtin .clear, #[x], #[t]⟩) (hx:E.ev K.gs ks x=some (.v (.slice (some ⟨b,p,none⟩) m c'))) (ht:K.S.get t=some ti) (hdd:ti.d= .slice el) (he:K.S.get el=some ei)
 [i:ARow Λ (.slice (some ⟨b,off,none⟩) n c) sz xs] [u:ARowUp Λ (.slice (some ⟨b,off,none⟩) n c) sz xs xs' Λ'] (hs:Nat.beq ei.size sz=true) (hsz:Nat.blt 0 ei.size=true) (hp:p=off+j0*sz) (hm:j0+m=xs.length) (h0:0<m)
 (hz1:allOne ei.zero=true) (hy: ∀h,∃v,Rp h y v/\cellsL v=ei.zero) (hxs:xs'=xs.take j0++List.replicate m y) (hd:o.dst=none)
 (next:A K (.ops all l::k) E Λ'):A K (.ops all (o::l)::k) E Λ:=by
 subst hxs
 have hs:=Nat.eq_of_beq_eq_true hs
 subst hs
 refine ⟨fun h e L hl r q=>?_⟩
 obtain ⟨v1,e1,f1⟩:=r.ev (K.hgs.mono hl) _ hx
 rw [Rp_v] at f1;rw [f1.1] at e1
 obtain ⟨Λ1,Λ2,d1,d2⟩:=u.split
 subst d1;subst d2
 obtain ⟨L1,M,L2,rfl,q1,⟨pp,⟨a,cap',zs,g1,g2,g3,g4,g5⟩,rfl⟩,q3⟩:=q.mid
 injection g1 with g1 g1' g1''
 subst g1;subst g1';subst g1''
 rcases g5 with ⟨g5,_⟩|⟨b',o',sp,g6,rfl,g8⟩
 ·rw [g5] at hm;simp at hm;omega
 injection g6 with g6;injection g6 with g6 g7;subst g6;subst g7
 refine V.sure (C:=K.cfg) (gyesA_eq r hg) fun ac w g s hk=>?_
 obtain ⟨yv,y1,y2⟩:=hy h
 have ok:=TT.Ok.get K.ok ht
 have oke:=TT.Ok.get K.ok he
 have hund:K.P.underlying t=some (.slice el):=by rw [ok.und,hdd]
 obtain ⟨zv,hz,hzl⟩:=run_zeroCells (w:=w) oke
 have hsz':0<ei.size:=by simpa [Nat.blt_eq] using hsz
 have hzc:(Builtin.zeroCells zv.cells m).toList=(List.replicate m ei.zero).flatten:=by
  rw [show zv.cells=⟨ei.zero⟩ from by rw [<-hzl]]
  rw [zeroCells_eq]
  intro e
  have:=oke.len
  rw [e] at this;simp at this;omega
 have hcat:(List.replicate m ei.zero).flatten=catL (List.replicate m yv):=by
  rw [<-y2];exact catL_rep yv m
 have hzs:zs.length=xs.length:=g3.rp.len
 have c1:=(g3.takeN j0).clen
 rw [List.length_take,Nat.min_eq_left (by omega)] at c1
 have c2:=(g3.dropN j0).clen
 have hel:Els h ei.size (List.replicate m y) (List.replicate m yv):=by
  refine ⟨RpC.rep y1 m,fun z hz=>?_,fun z hz=>?_⟩
  ·rw [List.eq_of_mem_replicate hz,y2,oke.len]
  ·rw [List.eq_of_mem_replicate hz,y2];exact hz1
 have hone: ∀u,u∈(List.replicate m ei.zero).flatten->oneC u=true:=by
  intro u hu
  rw [hcat] at hu
  obtain ⟨z,h1,h2⟩:=List.mem_flatMap.1 hu
  exact allOne_mem (hel.one z h1) u h2
 have hr:updL (catL zs++sp) (j0*ei.size) (catL (List.replicate m yv))=some (catL (zs.take j0++List.replicate m yv)++sp):=by
  have hzd:zs=zs.take j0++zs.drop j0:=(List.take_append_drop _ _).symm
  conv=>lhs;rw [hzd]
  have h1:updL (catL (zs.drop j0)++sp) 0 (catL (List.replicate m yv))=some (catL (List.replicate m yv)++sp):=by
   refine updL_head _ _ _ ?_
   rw [c2,hel.clen,List.length_drop,List.length_replicate];congr 1;omega
  have h2:=updL_app (catL (List.replicate m yv)) (catL (zs.take j0)) _ _ h1
  rw [c1,Nat.add_zero] at h2
  rw [catL_app,List.append_assoc,h2,catL_app,List.append_assoc]
 rw [<-hcat] at hr
 obtain ⟨w',r1,r2⟩:=run_storeCells (P:=K.P) (List.replicate m ei.zero).flatten b p 0 w (L1:=L1) (k:=j0*ei.size) (by simpa [AC.G] using s) (by omega) (updL_spec _ _ _ hr).1 hone hr
 have hnext:=next.run h e ((L1++([⟨b,off,catL (zs.take j0++List.replicate m yv)++sp,none⟩]++L2))) hl r (RpL.mid_of q1 ⟨_,⟨some ⟨b,off,none⟩,c,zs.take j0++List.replicate m yv,?_,?_,(g3.takeN j0).app hel,rfl, .inr ⟨b,off,sp,rfl,rfl,?_⟩⟩,rfl⟩ q3)
 ·have hex:(execOp ac.eval o).run K.cfg.P w= .ok (.value (.tuple #[])) w':=by
   unfold execOp
   rw [ho]
   obtain ⟨m',rfl⟩: ∃m',m=m'+1:=⟨m-1,by omega⟩
   have r1':Sem.run K.cfg.P (storeCells ⟨b,p,none⟩ (Builtin.zeroCells zv.cells (m'+1)).toList) w= .ok () w':=by rw [hzc];exact r1
   have hund':K.cfg.P.underlying t=some (.slice el):=hund
   have hz':Sem.run K.cfg.P (zeroValue el) w= .ok zv w:=hz
   simp [resolve,invoke,builtin,Builtin.clear_,g.ev hk e1,Go.run_underlying hund',hz',r1']
  unfold Oper.wp
  rw [hex]
  exact ⟨e,h,_,by rw [hd];exact g,(by simpa [AC.G] using r2),hnext⟩
 all_goals rw [List.length_append,List.length_take,List.length_replicate,Nat.min_eq_left (by omega),hm]
 ·exact g2
 ·exact g8
end
section
variable{K:AC}{all:Array Oper}{m:Nat}{k:List It}{pubs:Nat->List Nat}{Y:Ua}{π:List Nat}{E:AEnv}{Λ:List AEnt}{D:Da}
theorem WA.indexPart{i0:Nat}{o:Oper}{ks:List (Nat×Bool)}{t el:TypeId}{ti ei:TI}{x ix:Operand}{b off p q c' n c sz:Nat}{xs:List AV}{kk:IntKind}{i:Int}{E':AEnv}(j0:Nat)(hi0:nthL all.toList i0=some o)
 (hg:gyesA E all o.guard=some ks) (ho:o.op= .indexAddr t x ix) (hx:E.ev K.gs ks x=some (.v (.slice (some ⟨b,p,none⟩) q c'))) (hi:E.ev K.gs ks ix=some (.v (.int kk i))) (ht:K.S.get t=some ti) (hdd:ti.d= .slice el) (he:K.S.get el=some ei) [j:ARow Λ (.slice (some ⟨b,off,none⟩) n c) sz xs]
 (hs:Nat.beq ei.size sz=true) (hp:p=off+j0*sz) (h0:0<=i) (h1:i<q) (h2:j0+i.toNat<n) (hput:E.put K.n none o.dst (.ep (.slice (some ⟨b,off,none⟩) n c) sz (j0+i.toNat))=some E') (next:WA K all m k pubs Y π E' Λ D):WA K all m k pubs Y (i0::π) E Λ D:=by
 refine ⟨fun h e L Es hl r q' d=>?_⟩
 have hs:=Nat.eq_of_beq_eq_true hs
 obtain ⟨v1,e1,f1⟩:=r.ev (K.hgs.mono hl) _ hx
 obtain ⟨v2,e2,f2⟩:=r.ev (K.hgs.mono hl) _ hi
 rw [Rp_v] at f1 f2;rw [f1.1] at e1;rw [f2.1] at e2
 obtain ⟨e',e4,e5⟩:=putA_eq (y:= .pointer (some ⟨b,p+i.toNat*sz,none⟩)) r hput (Rp_ep.2 ⟨b,off,n,c,rfl,h2,by rw [hp,Nat.add_mul,Nat.add_assoc]⟩)
 have hiv:idxv K.S t (.slice (some ⟨b,p,none⟩) q c') i=some (.pointer (some ⟨b,p+i.toNat*sz,none⟩),q):=by simp only [idxv,ht,hdd,he,hs]
 exact WE.valueY (G:=drawRg K.cfg all (L++K.G) pubs (YA Y) m k) hi0 (kd_index ho) (gyesA_eq r hg) (fun a w E0 g s hk=>by
  have:=run_idxv (P:=K.cfg.P) (w:=w) (kk:=kk) K.ok hiv h0 h1
  unfold execOp
  rw [ho]
  simp only [g.ev hk e1,g.ev hk e2,Sem.run_bind,this,Result.andThen_ok,Sem.run_pure]) e4 (next.run h e' L Es hl e5 q' d)
end
end Go.Tp
namespace Go.Tp
open Go Go.RowKit
theorem St.self{w0 w:World}{h:GH}{L:List Ent}(s:St w0 h L w):St w h [] w:=
 ⟨Below.refl _ _,s.imm,s.imm1,fun p hp=>(by cases hp),List.Pairwise.nil,fun _ _ _ _=>rfl,Nat.le_refl _⟩
theorem putRow_heap_other{α:Type} [Inhabited α](enc:α->Value)(w:World)(b lo:Nat)(d:Array α){j:Nat}(hj:j≠b):(Sort.putRow enc w b lo d).heap[j]? =w.heap[j]? :=by
 unfold Sort.putRow Sort.mapBlock
 simp only [Array.getElem?_modify]
 rw [if_neg (fun e=>hj e.symm)]
theorem St.sorted{α:Type} [Inhabited α]{w0 w:World}{h:GH}{L:List Ent}{b lo:Nat}{cs:List Value}{enc:α->Value}{d d':Array α}{n:Nat}{os:Array Obj}
 (s:St w0 h (⟨b,lo,cs,none⟩::L) w) (hd:d.size<=cs.length) (hp:0<d.size) (hH:Sort.Holds enc w b lo d) (hs:d'.size=d.size) (h1: ∀j,j<d.size->oneC (enc d'[j]!)=true):
 St w0 h (⟨b,lo,d'.toList.map enc++cs.drop d.size,none⟩::L) (Sort.grow (Sort.putRow enc (Sort.ahead w n) b lo d') os):=by
 have k:=s.own _ (List.mem_cons_self ..)
 have hdis:=List.pairwise_cons.1 s.dis
 have hnew:=k.new 0 (by simp only;omega)
 simp only at hnew
 have hsz:(Sort.putRow enc (Sort.ahead w n) b lo d').heap.size=w.heap.size:=by rw [Sort.size_putRow];rfl
 have hlen:(d'.toList.map enc++cs.drop d.size).length=cs.length:=by simp [hs];omega
 have hcell: ∀a:Addr,(a.block≠b\/a.off<lo\/lo+d.size<=a.off)->a.block<w.heap.size->(Sort.grow (Sort.putRow enc (Sort.ahead w n) b lo d') os).cell? a=w.cell? a:=fun a ha hl=>by
  rw [Sort.cell?_grow _ _ _ (by rw [hsz];exact hl),Sort.cell?_putRow_other _ _ _ _ _ _ (by rw [hs];exact ha),Sort.cell?_ahead]
 have hfr: ∀a:Addr,a.block<w.heap.size->(Sort.grow (Sort.putRow enc (Sort.ahead w n) b lo d') os).frozen? a=w.frozen? a:=fun a hl=>by
  rw [Sort.frozen?_grow _ _ _ (by rw [hsz];exact hl),Sort.frozen?_putRow,Sort.frozen?_ahead]
 have hb:b<w.heap.size:=lt_of_cell (hH 0 hp).1
 refine ⟨⟨s.below.os,s.below.tape,s.below.output,?_,fun j hj=>?_⟩,fun b' o v hv=>?_,s.imm1,fun p hp'=>?_,?_,fun b' o v hv=>?_,?_⟩
 ·rw [Sort.size_grow,hsz];exact Nat.le_trans s.below.size (Nat.le_add_right _ _)
 ·have hjw:j<w.heap.size:=Nat.lt_of_lt_of_le hj s.below.size
  rw [Sort.heap_grow_old _ _ (by rw [hsz];exact hjw),putRow_heap_other _ _ _ _ _ (by omega)]
  exact s.below.block j hj
 ·have hc:=s.imm _ _ _ hv
  rw [hcell _ ?_ (lt_of_cell hc)]
  ·exact hc
  ·by_cases e1:b'=b
   ·refine .inr ?_
    by_cases e2:o<lo
    ·exact .inl e2
    ·refine .inr ?_
     simp only
     rcases Nat.lt_or_ge o (lo+d.size) with h2|h2
     ·have:=k.fresh (o-lo) (by simp only;omega)
      simp only at this
      rw [show lo+(o-lo)=o by omega,<-e1,hv] at this;cases this
     ·exact h2
   ·exact .inl e1
 ·rcases List.mem_cons.1 hp' with rfl|hp'
  ·refine ⟨fun v hv=>?_,fun i v hv=>?_,fun i hi=>hnew,fun i hi=>?_,fun i hi=>k.fresh i (by rw [<-hlen];exact hi),fun o ho=>by cases ho⟩
   ·rcases List.mem_append.1 hv with hv|hv
    ·obtain ⟨x,hx,rfl⟩:=List.mem_map.1 hv
     obtain ⟨j,hj,rfl⟩:=List.mem_iff_getElem.1 hx
     have hj':j<d'.size:=by simpa using hj
     have:=h1 j (by omega)
     rw [getElem!_pos d' j hj'] at this
     simpa using this
    ·exact k.one v (List.mem_of_mem_drop hv)
   ·simp only at hv⊢
    rcases Nat.lt_or_ge i d.size with hi|hi
    ·rw [Sort.cell?_grow _ _ _ (by rw [hsz];exact hb),Sort.cell?_putRow enc (Sort.ahead w n) b lo d d' hH hs i (by omega)]
     rw [List.getElem?_append_left (by simp;omega)] at hv
     have hj':i<d'.size:=by omega
     rw [getElem!_pos d' i hj']
     rw [List.getElem?_eq_getElem (by simpa using hj')] at hv
     simpa using hv
    ·rw [hcell _ (.inr (.inr (by simp only;omega))) hb]
     rw [List.getElem?_append_right (by simp;omega)] at hv
     refine k.cell i v ?_
     simp only [List.getElem?_drop,List.length_map,Array.length_toList] at hv⊢
     rwa [show d.size+(i-d'.size)=i by omega] at hv
   ·rw [hfr _ hb];exact k.warm i (by rw [<-hlen];exact hi)
  ·have q:=s.own p (List.mem_cons_of_mem _ hp')
   have ha:=hdis.1 p hp'
   refine ⟨q.one,fun i v hv=>?_,q.new,fun i hi=>?_,q.fresh,fun o ho=>?_⟩
   ·have hc:=q.cell i v hv
    have hi:i<p.cs.length:=by
     rcases Nat.lt_or_ge i p.cs.length with h|h
     ·exact h
     ·rw [List.getElem?_eq_none h] at hv;cases hv
    rw [hcell _ ?_ (lt_of_cell hc)]
    ·exact hc
    ·by_cases e1:p.b=b
     ·refine .inr ?_
      by_cases e2:p.lo+i<lo
      ·exact .inl e2
      ·refine .inr ?_
       simp only
       rcases Nat.lt_or_ge (p.lo+i) (lo+d.size) with h2|h2
       ·exact (ha.1 (p.lo+i-lo) i (by simp only;omega) hi e1.symm (by simp only;omega)).elim
       ·exact h2
     ·exact .inl e1
   ·obtain ⟨v,hv⟩:=getElem?_some_of_lt hi
    rw [hfr _ (lt_of_cell (q.cell i v hv))];exact q.warm i hi
   ·obtain ⟨h2,h3,h4⟩:=q.obj o ho
    refine ⟨h2,?_,h4⟩
    have hlt:p.b<w.heap.size:=(Array.getElem?_eq_some_iff.1 h3).1
    have hne:p.b≠b:=by
     intro e
     obtain ⟨c,t,fr,hc,_⟩:=Sort.cells_of_cell? (hH 0 hp).1
     rw [<-e,h3] at hc
     injection hc with hc
     exact h4 _ _ _ hc
    rw [Sort.heap_grow_old _ _ (by rw [hsz];exact hlt),putRow_heap_other _ _ _ _ _ hne]
    exact h3
 ·refine List.pairwise_cons.2 ⟨fun q hq=>⟨fun i j hi hj=>(hdis.1 q hq).1 i j (by simp only [hlen] at hi;exact hi) hj,(hdis.1 q hq).2⟩,hdis.2⟩
 ·rw [hfr _ (lt_of_cell (s.imm _ _ _ hv))];exact s.frz _ _ _ hv
 ·show w0.drawn<=w.drawn+n
  exact Nat.le_trans s.drn (Nat.le_add_right _ _)
theorem St.grown{h:GH}{L:List Ent}{W w':World}(s:St W h L w'): ∃q os,w'=Sort.grow (W.drewN q) os:=by
 refine ⟨w'.drawn-W.drawn,w'.heap.extract W.heap.size w'.heap.size,?_⟩
 obtain ⟨hp,tp,dr,os,ou⟩:=w'
 have b:=s.below
 obtain ⟨b1,b2,b3,b4,b5⟩:=b
 have hd:=s.drn
 simp only at b1 b2 b3 b4 b5 hd⊢
 unfold Sort.grow World.drewN
 simp only [World.mk.injEq]
 refine ⟨?_,b2,by omega,b1,b3⟩
 apply Array.ext_getElem?
 intro i
 rcases Nat.lt_or_ge i W.heap.size with hi|hi
 ·rw [b5 i hi,Array.getElem?_append_left hi]
 ·rw [Array.getElem?_append_right hi,Array.getElem?_extract]
  split
  ·rw [show W.heap.size+(i-W.heap.size)=i by omega]
  ·rename_i hn
   rw [Array.getElem?_eq_none (by omega)]
theorem pure_grown{P:Program}{gs:Ua}{f:FuncId}{args:List AV}{c:Int}{vs:List Value}{W:World}{h:GH}(hf:Pure P gs f args (.v (.int .i64 c)))(s:St W h [] W)(g:GsOk h gs)(r:RpC h args vs):
 Calls P f ⟨vs⟩ W fun e w'=>e= .returned (.int .i64 c)/\ ∃q os,w'=Sort.grow (W.drewN q) os:=by
 refine ((hf W h vs [] [] g r rfl).2 W s).mono fun e w' ⟨v,h',L',e1,⟨x,Λ',L1,⟨q1,q2⟩,q3,_⟩,e3⟩=>?_
 subst q1
 rw [Rp_v] at q3
 exact ⟨by rw [e1,q3.1],e3.grown⟩
end Go.Tp
namespace Go.Tp
open Go Go.RowKit
def pickL{α:Type}(l:List α):List Nat->Option (List α)
 | []=>some []
 |i::π=>match nthL l i with
  |some x=>match pickL l π with
   |some r=>some (x::r)
   |none=>none
  |none=>none
theorem pickL_eq{α:Type}{l:List α}: ∀{π:List Nat} {r:List α},pickL l π=some r->r=π.filterMap fun i=>l[i]?
 | [],r,h=>by injection h with h;subst h;rfl
 |i::π,r,h=>by
  simp only [pickL] at h
  split at h
  ·rename_i x hx
   split at h
   ·rename_i r' hr
    injection h with h;subst h
    rw [nthL_eq] at hx
    rw [List.filterMap_cons,hx,pickL_eq hr]
   ·cases h
  ·cases h
theorem range_pick{α:Type}(l:List α):(List.range l.length).filterMap (fun i=>l[i]?)=l:=by
 induction l with
 |nil=>rfl
 |cons x l ih=>
  rw [List.length_cons,List.range_succ_eq_map,List.filterMap_cons]
  simp only [List.getElem?_cons_zero,List.filterMap_map]
  congr 1
theorem perm_pick{α:Type}(π:List Nat){l r:List α}(h:pickL l π=some r)(h1:nodupB π=true)(h2:(π.all fun i=>Nat.blt i l.length)=true)(h3:((List.range l.length).all fun i=>memB i π)=true):l.Perm r:=by
 rw [pickL_eq h]
 have:(List.range l.length).Perm π:=by
  refine (List.perm_ext_iff_of_nodup List.nodup_range (nodupB_spec h1)).2 fun a=>⟨fun ha=>?_,fun ha=>?_⟩
  ·exact memB_iff.1 ((List.all_eq_true.1 h3) a ha)
  ·have:=(List.all_eq_true.1 h2) a ha
   rw [Nat.blt_eq] at this
   exact List.mem_range.2 this
 have:=this.filterMap fun i=>l[i]?
 rwa [range_pick] at this
def Slots.ofL:List (Nat×Ent)->Slots
 | []=>Slots.none
 |(j,x)::r=>(Slots.ofL r).set j (some x)
theorem Slots.ofL_none: ∀{l:List (Nat×Ent)} {j:Nat},j∉l.map (·.1)->Slots.ofL l j=Option.none
 | [],_,_=>rfl
 |(i,x)::r,j,h=>by
  simp only [List.map_cons,List.mem_cons,not_or] at h
  rw [Slots.ofL,Slots.set_ne _ h.1]
  exact Slots.ofL_none h.2
theorem Slots.ofL_perm{n:Nat}: ∀{l:List (Nat×Ent)},(l.map (·.1)).Nodup->(∀j,j∈l.map (·.1)->j<n)->(Slots.list n (Slots.ofL l)).Perm (l.map (·.2))
 | [],_,_=>by rw [show Slots.ofL []=Slots.none from rfl,Slots.list_none];exact .refl _
 |(j,x)::r,h,hn=>by
  simp only [List.map_cons,List.nodup_cons] at h
  have h1:=Slots.list_put (hn j (List.mem_cons_self ..)) (Slots.ofL r) x
  have h2:(Slots.ofL r).set j Option.none=Slots.ofL r:=by rw [<-Slots.ofL_none h.1];exact Slots.set_same _ _
  rw [h2] at h1
  exact h1.trans ((Slots.ofL_perm h.2 fun i hi=>hn i (List.mem_cons_of_mem _ hi)).cons x)
section
variable{C:Cfg}{k:List It}{e:Env}{h:GH}{L:List Ent}
theorem V.drawL{all:Array Oper}{id:Nat}(l:List (Nat×Ent))(m:Nat)(π:List Nat)(pubs:Nat->List Nat)(Y:Nat->List Value->Value->GH->Prop)(hn:(l.map (·.1)).Nodup)(hj: ∀j,j∈l.map (·.1)->j<all.size)(hm:C.P.follows .mixedOrders=true)(hok:drawOkN all m π pubs=true)
 (hv:WE (drawRg C all L pubs Y m k) π e h (Slots.ofL l)):V C (.code (.region id all true)::k) e h (l.map (·.2)++L):=by
 intro ho a w b cs g s hf hk
 have hok1:=drawOkN_spec hok
 have hnd:=hok1.2
 have ok:DrawOk (drawRg C all L pubs Y m k) m π:=drawOk_spec hok1.1
 have hW:=hv a g
 have hp:=Slots.ofL_perm (n:=all.size) hn hj
 have s':(drawRg C all L pubs Y m k).live h (Slots.ofL l) {w with drawn:=w.drawn+1}:=by
  show St C.w0 h (Slots.list all.size (Slots.ofL l)++L) _
  exact s.drew.perm (hp.append_right L).symm
 have hd:Done all m π (Array.replicate all.size false):=by
  refine ⟨by simp,fun i hi=>⟨fun _=>?_,fun _=>by simp [hi]⟩,fun i o ho hi=>?_⟩
  rotate_left
  ·have:(Array.replicate all.size false).getD i false=false:=by
    simp only [Array.getD_eq_getD_getElem?,Array.getElem?_replicate];split<;>rfl
   have hi':(Array.replicate all.size false).getD i false=true:=hi
   rw [this] at hi';cases hi'
  by_cases him:i<m
  ·left;exact ok.full i him
  ·right;omega
 have hr:=Rg.run (drawRg C all L pubs Y m k) ok (itsOk_tail ho) (cs:=cs) hnd hf hk (fun a h E x=>x) m π ok.len (List.Sublist.refl _) (Array.replicate all.size false) (w.tape w.drawn (.order b.fn id)) a h (Slots.ofL l) _ hd hW s'
 obtain ⟨v,w'',fr,h'',L'',q1,q2,q3,q4,q5⟩:=hr
 refine ⟨v,w'',fr,h'',L'',q1,q2,?_,q4,q5⟩
 have hstep:=stepR_region_draw (P:=C.P) (b:=b) (a:=a) (k:=items k) (cs:=cs) (w:=w) (ops:=all) (id:=id)
 have hsch:Region.schedule (C.P.follows .mixedOrders) all (w.tape w.drawn (.order b.fn id))=Region.linearise.go .any all (m+(all.size-m)) (w.tape w.drawn (.order b.fn id)) (Array.replicate all.size false) []:=by
  rw [show m+(all.size-m)=all.size by have:m<=all.size:=ok.le;omega]
  simp only [Region.schedule,hm,Bool.true_or,if_true]
  rfl
 rw [hsch] at hstep
 exact .head hstep q3
end
def oneEnt:AEnt->Bool
 | .box _ _=>true
 | .row _ _ _=>true
 | .tail _ _=>true
 |_=>false
theorem oneEnt_rp{h:GH}{x:AEnt}{M:List Ent}(ho:oneEnt x=true)(r:RpEnt h x M): ∃p,M=[p]:=by
 cases x with
 |box b y=>obtain ⟨z,_,e⟩:=r;exact ⟨_,e⟩
 |row sz z l=>obtain ⟨p,_,e⟩:=r;exact ⟨_,e⟩
 |tail sz z=>obtain ⟨p,_,e⟩:=r;exact ⟨_,e⟩
 |_=>cases ho
theorem RpL.ofD{h:GH}: ∀{D:Da} {L:List Ent},(D.all fun x=>oneEnt x.2)=true->RpL h (D.map (·.2)) L-> ∃l:List (Nat×Ent),l.map (·.1)=D.map (·.1)/\L=l.map (·.2)/\RpD h D (Slots.ofL l)
 | [],L,_,r=>by
   have r:L=[]:=r
   exact ⟨[],rfl,r,fun i=>rfl⟩
 |(j,x)::D,L,ho,r=>by
  simp only [List.all_cons,Bool.and_eq_true] at ho
  obtain ⟨M,L2,rfl,r1,r2⟩:=r
  obtain ⟨p,rfl⟩:=oneEnt_rp ho.1 r1
  obtain ⟨l,e1,e2,e3⟩:=RpL.ofD ho.2 r2
  exact ⟨(j,p)::l,by simp [e1],by simp [e2],e3.set r1⟩
section
variable{K:AC}{all:Array Oper}{k:List It}{E:AEnv}{Λ:List AEnt}
theorem A.drawL{id:Nat}(D:Da)(m:Nat)(π:List Nat)(pubs:Nat->List Nat)(Y:Ua){Λ':List AEnt}(hp:Λ.Perm (D.map (·.2)++Λ'))(ho:(D.all fun x=>oneEnt x.2)=true)(hn:nodupB (D.map (·.1))=true)(hj:((D.map (·.1)).all fun j=>Nat.blt j (lenO all.toList))=true)
 (hm:K.P.follows .mixedOrders=true) (hok:drawOkN all m π pubs=true) (hv:WA K all m k pubs Y π E Λ' D):A K (.code (.region id all true)::k) E Λ:=
 ⟨fun h e L hl r q=>by
   obtain ⟨L',q1,q2⟩:=q.perm hp
   obtain ⟨M,L2,rfl,q3,q4⟩:=q1.split
   obtain ⟨l,e1,rfl,e3⟩:=RpL.ofD ho q3
   refine V.perm (q2.append_right _) ?_
   rw [List.append_assoc]
   refine V.drawL (C:=K.cfg) l m π pubs (YA Y) (by rw [e1];exact nodupB_spec hn) (fun j hj'=>?_) hm hok (hv.run h e L2 _ hl r q4 e3)
   rw [e1] at hj'
   have:=(List.all_eq_true.1 hj) j hj'
   rw [lenO_eq] at this
   simpa [Nat.blt_eq] using this⟩
end
section
variable{K:AC}{all:Array Oper}{m:Nat}{k:List It}{pubs:Nat->List Nat}{Y:Ua}{π:List Nat}{E:AEnv}{Λ:List AEnt}{D:Da}
theorem WA.appendR{i:Nat}{o:Oper}{ks:List (Nat×Bool)}{y1 y2:Operand}{t el:TypeId}{ti ei:TI}{x2:AV}{l1 l2:List AV}{z:Value}{sz sz' n d:Nat}{ps:List Nat}{D':Da}(hi:nthL all.toList i=some o)
 (hg:gyesA E all o.guard=some ks) (ho:o.op= .call ⟨.builtin .append, #[y1,y2], #[t,t]⟩) (h1:E.ev K.gs ks y1=some (.ms z sz' n)) (h2:E.ev K.gs ks y2=some x2)
 (ht:K.S.get t=some ti) (hdd:ti.d= .slice el) (he:K.S.get el=some ei) (hD:lookD D i=some (.row sz z l1)) (hp:pubs i=i::ps) (hpi:memB i ps=false) (hDD:dropD ps D=D') (hse:Nat.beq ei.size sz=true)
 (hsz:Nat.blt 0 ei.size=true) (hz1:allOne ei.zero=true) (hd:o.dst=some d) (hc:okPutA K.n E d=true) (hnd:nodupB ps=true) (hlt:((i::ps).all fun j=>Nat.blt j (lenO all.toList))=true) (hel:allElt ei l2=true)
 (hs:SbP D ps x2 (.sl ei.size l2 none)) (hb:(l1.length+l2.length)*ei.size<=281474976710656) (hby:(l1.length+l2.length)*ei.size*ei.bytes<=140737488355328)
 (next: ∀z',WA K all m k pubs Y π ⟨(d, .ms z' sz (l1.length+l2.length))::E.us,E.cs⟩ Λ ((i, .row sz z' (l1++l2))::D')):WA K all m k pubs Y (i::π) E Λ D:=by
 subst hDD
 have hse:=Nat.eq_of_beq_eq_true hse
 subst hse
 refine ⟨fun h e L Es hl r q dd=>?_⟩
 obtain ⟨v1,e1,f1⟩:=r.ev (K.hgs.mono hl) _ h1
 obtain ⟨v2,e2,f2⟩:=r.ev (K.hgs.mono hl) _ h2
 rw [Rp_ms] at f1
 obtain ⟨rfl,_⟩:=f1
 have hEi:=dd i
 rw [hD] at hEi
 obtain ⟨p0,hp1,p,⟨a,cap,zs,rfl,g2,g3,g4,g5⟩,hpe⟩:=hEi
 injection hpe with hpe;subst hpe
 have hsz':0<ei.size:=by simpa [Nat.blt_eq] using hsz
 have hni:i∉ps:=fun hm=>by rw [memB_iff.2 hm] at hpi;cases hpi
 have hlt': ∀j,j∈i::ps->j<all.size:=fun j hj=>by
  have:=(List.all_eq_true.1 hlt) j hj
  rw [lenO_eq] at this
  simpa [Nat.blt_eq] using this
 have hkap:kd o= .ap:=by unfold kd;rw [ho]
 refine WE.apAny (G:=drawRg K.cfg all (L++K.G) pubs (YA Y) m k) hi (gyesA_eq r hg) hkap hd (okPutA_eq r hc) (by show memB i (pubs i)=true;rw [hp];simp [memB]) fun ac w g s hk=>?_
 obtain ⟨s1,pk⟩:=live_pub (C:=K.cfg) (n:=all.size) ps Es h (nodupB_spec hnd) (fun j hj=>hlt' j (List.mem_cons_of_mem _ hj)) s
 have f2':=SbP.rp dd pk.1 pk.2 hs f2
 obtain ⟨zs2,b1,b2,b3⟩:=sl_Sl f2'
 have hEi':pubE ps Es i=some p0:=by rw [pubE_at,if_neg hni,hp1]
 have hl':=Slots.list_take (hlt' i (List.mem_cons_self ..)) hEi'
 have s2:St K.w0 (pubH Es ps h) (p0::(Slots.list all.size ((pubE ps Es).set i none)++(L++K.G))) w:=St.perm s1 (hl'.append_right _)
 have hlen1:(catL zs).length=l1.length*ei.size:=by rw [cat_len g3.sz,g3.rp.len]
 have hlen2:(catL zs2).length=l2.length*ei.size:=by rw [cat_len b2,b1.len]
 have how:Ow ei.size a l1.length cap (catL zs) p0:=⟨g4,g2,hlen1,g5.elim (fun ⟨_,k2,k3,k4⟩=> .inl ⟨k2,k3,k4⟩) .inr⟩
 obtain ⟨w',x',a',n',cap',r1,r2,r3⟩:=run_appendOwn (ty:=o.type) K.ok ht hdd he hsz' hz1 (allOne_mem g3.oneAll) s2 how b3 (by rw [hlen1,hlen2,<-Nat.add_mul];exact hb) (by rw [hlen1,hlen2,<-Nat.add_mul];exact hby)
 have hn':n'=l1.length+l2.length:=by
  have:=r3.2.2.1
  rw [List.length_append,hlen1,hlen2,<-Nat.add_mul] at this
  exact (Nat.eq_of_mul_eq_mul_right hsz' this).symm
 subst hn'
 have g3':=g3.mono pk.1
 have hrow:RpRow (pubH Es ps h) ei.size (.slice a' (l1.length+l2.length) cap') (l1++l2) x':=by
  refine ⟨a',cap',zs++zs2,by rw [List.length_append],by rw [List.length_append];exact r3.2.1,⟨g3'.rp.append b1,fun z hz=>?_,fun z hz=>?_⟩,r3.1,?_⟩
  ·rcases List.mem_append.1 hz with hz|hz
   ·exact g3.sz z hz
   ·exact b2 z hz
  ·rcases List.mem_append.1 hz with hz|hz
   ·exact g3.one z hz
   ·exact allElt_one hel _ zs2 b1 z hz
  ·have hcat:catL (zs++zs2)=catL zs++catL zs2:=by simp [catL]
   rcases r3.2.2.2 with ⟨k2,k3,k4⟩|k5
   ·refine .inl ⟨?_,k2,k3,k4⟩
    have:=r3.2.1
    exact List.length_eq_zero_iff.1 (by rw [List.length_append];omega)
   ·rw [hcat,List.length_append];exact .inr k5
 refine ⟨_,w',pubH Es ps h,(pubE ps Es).set i (some x'),?_,?_,pk.1,(next (.slice a' (l1.length+l2.length) cap')).run _ ⟨_::e.us,e.cs⟩ L _ (GH.le_trans hl pk.1) ⟨(r.1.mono pk.1).put (Rp_ms.2 ⟨rfl,_,_,rfl⟩),r.2.mono pk.1⟩ (q.mono pk.1) (((dd.mono pk.1).pub _).set ⟨x',hrow,rfl⟩)⟩
 ·unfold execOp
  rw [ho]
  have r1':Sem.run K.cfg.P (Builtin.append_ #[t,t] o.type #[Value.slice a l1.length cap,v2]) w=Result.ok (Value.slice a' (l1.length+l2.length) cap') w':=r1
  simp [resolve,invoke,builtin,g.ev hk e1,g.ev hk e2,r1']
 ·have hq:=Slots.list_put (hlt' i (List.mem_cons_self ..)) (pubE ps Es) x'
  exact St.perm r2 (hq.append_right _).symm
end
end Go.Tp
namespace Go.Tp
open Go Go.RowKit
section
variable{K:AC}{all:Array Oper}{m:Nat}{k:List It}{pubs:Nat->List Nat}{Y:Ua}{π:List Nat}{E:AEnv}{Λ:List AEnt}{D:Da}
end
end Go.Tp
namespace Go.Proofs.YtkbolbpojpmicaaGreat
open Go Go.Tp
abbrev evA(x:EL):AV:= .ag [AI x.1,AI32 x.2]
abbrev trA(t:TR):AV:= .sl 2 (t.map evA) none
theorem trA_len(t:TR):((t.map evA).length:Int)=t.length:=by rw [List.length_map]
def cmpJ(x y:Int):Int:=if x<y then-1 else if y<x then 1 else 0
theorem nan32_p(x:Int):Pure Tryz.prog gs0 189 [AI32 x] (AB false):=by
 refine p_ tt_ok Tryz.func189 6 fun w0 h0 F hgs=>?_
 refine y_ ?_
 refine R_ ?_
 refine Sb.eq (ab_eq ?_)
 simp
theorem cmp32_p(x y:Int):Pure Tryz.prog gs0 112 [AI32 x,AI32 y] (AI (cmpJ x y)):=by
 have h1:=nan32_p x
 have h2:=nan32_p y
 refine Exists.elim (show∃R,R=cmpJ x y from ⟨_,rfl⟩) fun R hR=>?_
 rw [<-hR]
 unfold cmpJ at hR
 refine p_ tt_ok Tryz.func112 20 fun w0 h0 F hgs=>?_
 refine y_ ?_
 refine c_ h1 ?_
 refine n_ h2 ?_
 (repeat' first|refine A.s rfl ?_|refine A.r rfl rfl ?_|refine A.w rfl rfl ?_|refine A.p rfl ?_|refine A.b rfl fun bx=>?_|refine A.t rfl fun bl=>?_|((fail_if_success (refine A.lit? rfl ?_));refine A.gS rfl (fun hc=>?_) (fun hc=>?_))|((fail_if_success (refine A.litP? rfl ?_));refine A.gSP rfl (fun hc=>?_) (fun hc=>?_)))
 all_goals (refine R_ ?_;refine Sb.eq (ai_eq ?_);rw [hR];simp at*;omega)
end Go.Proofs.YtkbolbpojpmicaaGreat
namespace Go.Tp
open Go Go.RowKit
def keyD:TypeDesc->Bool
 | .int _=>true
 | .string=>true
 |_=>false
section
variable{P:Program}{w:World}{t kt:TypeId}{ti ki:TI}
theorem run_checkKeyD{em:Bool}{v:Value}(hk:TI.Ok P kt ki)(hd:keyD ki.d=true):(Instr.checkKey em 10000 kt v).run P w= .ok () w:=by
 unfold Instr.checkKey
 simp only [Sem.run_bind,run_underlying hk,Result.andThen_ok]
 cases hx:ki.d<;>rw [hx] at hd<;>first|(cases hd;done)|(cases v<;>rfl)
theorem run_findKeyD{v:Value}{es:List MapEntry}{r:Option (Nat×Value)}(hk:TI.Ok P kt ki)(hf:Instr.findNow ki.d v es 0=some r):(Instr.findKey kt v es).run P w= .ok r w:=by
 unfold Instr.findKey
 simp only [Sem.run_bind,run_underlying hk,Result.andThen_ok,hf]
 rfl
end
def posV(d:TypeDesc)(k:Value):List Value->Option (Option Nat)
 | []=>some none
 |m::r=>match Instr.sameNow d k m with
  |some true=>some (some 0)
  |some false=>match posV d k r with
   |some (some p)=>some (some (p+1))
   |some none=>some none
   |none=>none
  |none=>none
theorem findNow_posV{d:TypeDesc}{k:Value}: ∀{ks vs:List Value} {b i:Nat} {r:Option Nat},ks.length=vs.length->posV d k ks=some r->
 Instr.findNow d k (mapEs ks vs b) i=some (match r with
  |some p=>(vs[p]?).map fun v=>(i+p,v)
  |none=>none)
 | [],vs,b,i,r,hl,h=>by
   simp only [posV] at h
   injection h with h;subst h
   cases vs<;>rfl
 |m::ks,[],b,i,r,hl,h=>by simp at hl
 |m::ks,v::vs,b,i,r,hl,h=>by
  rw [posV] at h
  rw [mapEs,Instr.findNow]
  cases hs:Instr.sameNow d k m with
  |none=>rw [hs] at h;cases h
  |some q=>
   rw [hs] at h
   simp only
   cases q with
   |true=>
    simp only at h⊢
    injection h with h;subst h
    simp
   |false=>
    simp only at h⊢
    cases hp:posV d k ks with
    |none=>rw [hp] at h;cases h
    |some r'=>
     have ih:=findNow_posV (vs:=vs) (b:=b+1) (i:=i+1) (by simpa using hl) hp
     rw [ih]
     rw [hp] at h
     cases r' with
     |none=>simp only at h;injection h with h;subst h;rfl
     |some p=>
      simp only at h;injection h with h;subst h
      simp only [List.getElem?_cons_succ]
      cases vs[p]? with
      |none=>rfl
      |some u=>simp;omega
section
variable{C:Cfg}{k:List It}{e:Env}{h:GH}{L:List Ent}
theorem V.updateG{all:Array Oper}{o:Oper}{l:List Oper}{ks:List (Nat×Bool)}{t kt et:TypeId}{ti ki:TI}{m ky y:Operand}{b n:Nat}{es:Array MapEntry}{kv v:Value}{L2:List Ent}
 (hg:gyes e all o.guard=some ks) (ho:o.op= .mapUpdate t m ky y) (hm:e.ev ks m=some (.map (some b))) (hkv:e.ev ks ky=some kv) (hv:e.ev ks y=some v) (ht:C.S.get t=some ti) (htd:ti.d= .map kt et) (hkt:C.S.get kt=some ki) (hkd:keyD ki.d=true)
 (hf:Instr.findNow ki.d kv es.toList 0=some none) (hd:o.dst=none) (hL:L=⟨b,0,[],some (.map es n)⟩::L2)
 (next:V C (.ops all l::k) e h (⟨b,0,[],some (.map (es.push ⟨kv,v,n⟩) (n+1))⟩::L2)):V C (.ops all (o::l)::k) e h L:=
 V.sure hg fun a w g s hk=>by
  subst hL
  have hob:=((s.own _ (List.mem_cons_self ..)).obj _ rfl).2.1
  simp only at hob
  have s2:=s.setObj rfl (.map (es.push ⟨kv,v,n⟩) (n+1)) (fun _ _ _ x=>by cases x)
  unfold Oper.wp execOp
  rw [ho]
  simp only [g.ev hk hm,g.ev hk hkv,g.ev hk hv,Instr.mapUpdate,Sem.run_bind,run_underlying (TT.Ok.get C.ok ht),htd,Result.andThen_ok,run_getMap hob,run_checkKeyD (TT.Ok.get C.ok hkt) hkd,run_findKeyD (TT.Ok.get C.ok hkt) hf,run_setMap _ hob,Sem.run_pure]
  exact ⟨e,h,_,by rw [hd];exact g,s2,next⟩
theorem V.lookupG{all:Array Oper}{o:Oper}{l:List Oper}{ks:List (Nat×Bool)}{t kt et:TypeId}{ti ki:TI}{m ky:Operand}{b n d i:Nat}{c:Bool}{es:Array MapEntry}{kv v:Value}{L2:List Ent}
 (hg:gyes e all o.guard=some ks) (ho:o.op= .lookup t m ky c) (hm:e.ev ks m=some (.map (some b))) (hkv:e.ev ks ky=some kv) (ht:C.S.get t=some ti) (htd:ti.d= .map kt et) (hkt:C.S.get kt=some ki) (hkd:keyD ki.d=true)
 (hf:Instr.findNow ki.d kv es.toList 0=some (some (i,v))) (hd:o.dst=some d) (hc:okPut C.n e d=true) (hL:L=⟨b,0,[],some (.map es n)⟩::L2)
 (next:V C (.ops all l::k) ⟨(d,if c then .tuple #[v, .bool true] else v)::e.us,e.cs⟩ h L):V C (.ops all (o::l)::k) e h L:=
 V.gives hg hd hc fun a w g s hk=>by
  have hob:=((s.own ⟨b,0,[],some (.map es n)⟩ (by rw [hL];exact List.mem_cons_self ..)).obj _ rfl).2.1
  simp only at hob
  refine ⟨_,w,h,L,?_,s,next⟩
  unfold execOp
  rw [ho]
  simp only [g.ev hk hm,g.ev hk hkv,Instr.lookup,Sem.run_bind,run_underlying (TT.Ok.get C.ok ht),htd,Result.andThen_ok,run_getMap hob,run_checkKeyD (TT.Ok.get C.ok hkt) hkd,run_findKeyD (TT.Ok.get C.ok hkt) hf,Sem.run_pure]
theorem V.lookupNilG{all:Array Oper}{o:Oper}{l:List Oper}{ks:List (Nat×Bool)}{t kt et:TypeId}{ti ki:TI}{m ky:Operand}{b n d:Nat}{c:Bool}{es:Array MapEntry}{kv v:Value}{L2:List Ent}
 (hg:gyes e all o.guard=some ks) (ho:o.op= .lookup t m ky c) (hm:e.ev ks m=some (.map (some b))) (hkv:e.ev ks ky=some kv) (ht:C.S.get t=some ti) (htd:ti.d= .map kt et) (hkt:C.S.get kt=some ki) (hkd:keyD ki.d=true)
 (hz:(C.P.info? et).bind (fun x=>x.zero)=some v)
 (hf:Instr.findNow ki.d kv es.toList 0=some none) (hd:o.dst=some d) (hc:okPut C.n e d=true) (hL:L=⟨b,0,[],some (.map es n)⟩::L2)
 (next:V C (.ops all l::k) ⟨(d,if c then .tuple #[v, .bool false] else v)::e.us,e.cs⟩ h L):V C (.ops all (o::l)::k) e h L:=
 V.gives hg hd hc fun a w g s hk=>by
  have hob:=((s.own ⟨b,0,[],some (.map es n)⟩ (by rw [hL];exact List.mem_cons_self ..)).obj _ rfl).2.1
  simp only at hob
  refine ⟨_,w,h,L,?_,s,next⟩
  obtain ⟨xi,hx1,hx2⟩: ∃xi,C.P.info? et=some xi/\xi.zero=some v:=by
   cases hi:C.P.info? et with
   |none=>rw [hi] at hz;cases hz
   |some xi=>rw [hi] at hz;exact ⟨xi,rfl,hz⟩
  have hz1:(zeroValue et).run C.P w= .ok v w:=by simp [zeroValue,run_typeInfo hx1,hx2]
  unfold execOp
  rw [ho]
  simp only [g.ev hk hm,g.ev hk hkv,Instr.lookup,Sem.run_bind,run_underlying (TT.Ok.get C.ok ht),htd,Result.andThen_ok,run_getMap hob,run_checkKeyD (TT.Ok.get C.ok hkt) hkd,run_findKeyD (TT.Ok.get C.ok hkt) hf,hz1,Sem.run_pure]
end
section
variable{K:AC}{k:List It}{E:AEnv}{Λ:List AEnt}
theorem A.updateG{all:Array Oper}{o:Oper}{l:List Oper}{ks:List (Nat×Bool)}{t kt et:TypeId}{ti ki:TI}{m ky y:Operand}{b:Nat}{kv:Value}{nks:List Value}{xs:List AV}{x:AV}{Λ':List AEnt}
 (hg:gyesA E all o.guard=some ks) (ho:o.op= .mapUpdate t m ky y) (hm:E.ev K.gs ks m=some (.v (.map (some b)))) (hkv:E.ev K.gs ks ky=some (.v kv)) (hv:E.ev K.gs ks y=some x) (ht:K.S.get t=some ti) (htd:ti.d= .map kt et) (hkt:K.S.get kt=some ki) (hkd:keyD ki.d=true)
 [i:AMp Λ b nks xs Λ'] (hf:posV ki.d kv nks=some none) (hd:o.dst=none) (next:A K (.ops all l::k) E (.mp b (nks++[kv]) (xs++[x])::Λ')):A K (.ops all (o::l)::k) E Λ:=by
 refine ⟨fun h e L hl r q=>?_⟩
 obtain ⟨v1,e1,f1⟩:=r.ev (K.hgs.mono hl) _ hm
 obtain ⟨v2,e2,f2⟩:=r.ev (K.hgs.mono hl) _ hkv
 obtain ⟨v3,e3,f3⟩:=r.ev (K.hgs.mono hl) _ hv
 rw [Rp_v] at f1 f2
 rw [f1.1] at e1
 rw [f2.1] at e2
 obtain ⟨L',q1,q2⟩:=q.perm i.perm
 obtain ⟨M,L2,rfl,⟨hlen,vs,hvs,rfl⟩,q4⟩:=q1
 have hl2:nks.length=vs.length:=by rw [hlen,hvs.len]
 refine V.perm (q2.append_right _) ?_
 refine V.updateG (C:=K.cfg) (n:=nks.length) (es:=⟨mapEs nks vs 0⟩) (L2:=L2++K.G) (gyesA_eq r hg) ho e1 e2 e3 ht htd hkt hkd (findNow_posV hl2 hf) hd rfl ?_
 have:=next.run h e (⟨b,0,[],some (.map ⟨mapEs (nks++[kv]) (vs++[v3]) 0⟩ (nks++[kv]).length)⟩::L2) hl r (.one ⟨by simp [hlen],_,hvs.append (RpC_cons.2 ⟨_,_,rfl,f3,RpC_nil.2 rfl⟩),rfl⟩ q4)
 rw [mapEs_snoc hl2] at this
 simpa using this
theorem A.lookupG{all:Array Oper}{o:Oper}{l:List Oper}{ks:List (Nat×Bool)}{t kt et:TypeId}{ti ki:TI}{m ky:Operand}{b d p:Nat}{c:Bool}{kv:Value}{nks:List Value}{xs:List AV}{x:AV}{Λ':List AEnt}
 (hg:gyesA E all o.guard=some ks) (ho:o.op= .lookup t m ky c) (hm:E.ev K.gs ks m=some (.v (.map (some b)))) (hkv:E.ev K.gs ks ky=some (.v kv)) (ht:K.S.get t=some ti) (htd:ti.d= .map kt et) (hkt:K.S.get kt=some ki) (hkd:keyD ki.d=true)
 [i:AMp Λ b nks xs Λ'] (hf:posV ki.d kv nks=some (some p)) (hx:xs[p]? =some x) (hd:o.dst=some d) (hc:okPutA K.n E d=true) (next:A K (.ops all l::k) ⟨(d,if c then .tp [x, .v (.bool true)] else x)::E.us,E.cs⟩ Λ):A K (.ops all (o::l)::k) E Λ:=by
 refine ⟨fun h e L hl r q=>?_⟩
 obtain ⟨v1,e1,f1⟩:=r.ev (K.hgs.mono hl) _ hm
 obtain ⟨v2,e2,f2⟩:=r.ev (K.hgs.mono hl) _ hkv
 rw [Rp_v] at f1 f2
 rw [f1.1] at e1
 rw [f2.1] at e2
 obtain ⟨L',q1,q2⟩:=q.perm i.perm
 have q1':=q1
 obtain ⟨M,L2,rfl,⟨hlen,vs,hvs,rfl⟩,q4⟩:=q1
 have hl2:nks.length=vs.length:=by rw [hlen,hvs.len]
 obtain ⟨u,hu,hux⟩:=hvs.at hx
 have hfn:=findNow_posV (b:=0) (i:=0) hl2 hf
 simp only [hu,Option.map_some] at hfn
 refine V.perm (q2.append_right _) ?_
 refine V.lookupG (C:=K.cfg) (n:=nks.length) (es:=⟨mapEs nks vs 0⟩) (L2:=L2++K.G) (gyesA_eq r hg) ho e1 e2 ht htd hkt hkd hfn hd (okPutA_eq r hc) rfl ?_
 refine V.perm (q2.symm.append_right _) ?_
 refine next.run h _ L hl ⟨r.1.put ?_,r.2⟩ q
 cases c with
 |false=>exact hux
 |true=>exact Rp_tp.2 ⟨_,rfl,RpC_cons.2 ⟨_,_,rfl,hux,RpC_cons.2 ⟨_,_,rfl,Rp_v.2 ⟨rfl,rfl⟩,RpC_nil.2 rfl⟩⟩⟩
theorem A.lookupNilG{all:Array Oper}{o:Oper}{l:List Oper}{ks:List (Nat×Bool)}{t kt et:TypeId}{ti ki:TI}{m ky:Operand}{b d:Nat}{c:Bool}{kv:Value}{nks:List Value}{xs:List AV}{v:Value}{Λ':List AEnt}
 (hg:gyesA E all o.guard=some ks) (ho:o.op= .lookup t m ky c) (hm:E.ev K.gs ks m=some (.v (.map (some b)))) (hkv:E.ev K.gs ks ky=some (.v kv)) (ht:K.S.get t=some ti) (htd:ti.d= .map kt et) (hkt:K.S.get kt=some ki) (hkd:keyD ki.d=true) (hz:(K.P.info? et).bind (fun x=>x.zero)=some v) (hone:oneC v=true)
 [i:AMp Λ b nks xs Λ'] (hf:posV ki.d kv nks=some none) (hd:o.dst=some d) (hc:okPutA K.n E d=true) (next:A K (.ops all l::k) ⟨(d,if c then .tp [.v v, .v (.bool false)] else .v v)::E.us,E.cs⟩ Λ):A K (.ops all (o::l)::k) E Λ:=by
 refine ⟨fun h e L hl r q=>?_⟩
 obtain ⟨v1,e1,f1⟩:=r.ev (K.hgs.mono hl) _ hm
 obtain ⟨v2,e2,f2⟩:=r.ev (K.hgs.mono hl) _ hkv
 rw [Rp_v] at f1 f2
 rw [f1.1] at e1
 rw [f2.1] at e2
 obtain ⟨L',q1,q2⟩:=q.perm i.perm
 obtain ⟨M,L2,rfl,⟨hlen,vs,hvs,rfl⟩,q4⟩:=q1
 have hl2:nks.length=vs.length:=by rw [hlen,hvs.len]
 have hfn:=findNow_posV (b:=0) (i:=0) hl2 hf
 refine V.perm (q2.append_right _) ?_
 refine V.lookupNilG (C:=K.cfg) (n:=nks.length) (es:=⟨mapEs nks vs 0⟩) (L2:=L2++K.G) (gyesA_eq r hg) ho e1 e2 ht htd hkt hkd hz hfn hd (okPutA_eq r hc) rfl ?_
 refine V.perm (q2.symm.append_right _) ?_
 refine next.run h _ L hl ⟨r.1.put ?_,r.2⟩ q
 cases c with
 |false=>exact Rp_v.2 ⟨rfl,hone⟩
 |true=>exact Rp_tp.2 ⟨_,rfl,RpC_cons.2 ⟨_,_,rfl,Rp_v.2 ⟨rfl,hone⟩,RpC_cons.2 ⟨_,_,rfl,Rp_v.2 ⟨rfl,rfl⟩,RpC_nil.2 rfl⟩⟩⟩
theorem A.eqMap{all:Array Oper}{o:Oper}{l:List Oper}{ks:List (Nat×Bool)}{op:BinOp}{t ty kt et:TypeId}{ti:TI}{x:Operand}{p:Option Nat}{d:Nat}
 (hg:gyesA E all o.guard=some ks) (ho:o.op= .binOp op t x (.const (.map none)) ty) (hop:op= .eql) (hx:E.ev K.gs ks x=some (.v (.map p))) (ht:K.S.get t=some ti) (hdd:ti.d= .map kt et) (hd:o.dst=some d) (hc:okPutA K.n E d=true)
 (next:A K (.ops all l::k) ⟨(d, .v (.bool p.isNone))::E.us,E.cs⟩ Λ):A K (.ops all (o::l)::k) E Λ:=by
 refine ⟨fun h e L hl r q=>?_⟩
 obtain ⟨v1,e1,f1⟩:=r.ev (K.hgs.mono hl) _ hx
 rw [Rp_v] at f1
 rw [f1.1] at e1
 subst hop
 refine V.valueY (C:=K.cfg) (v:= .bool p.isNone) (gyesA_eq r hg) (fun ac w g s hk=>?_) (by rw [hd];exact okPut_put (okPutA_eq r hc))
  (next.run h ⟨(d, .bool p.isNone)::e.us,e.cs⟩ L hl ⟨r.1.put (Rp_v.2 ⟨rfl,rfl⟩),r.2⟩ q)
 have ok:=TT.Ok.get K.ok ht
 have:=run_eql_map_nil (P:=K.P) w t kt et p (by rw [ok.und,hdd])
 unfold execOp;rw [ho]
 have e3:ac.eval (.const (.map none))= .map none:=rfl
 have hgd:(eqGuard .eql t x (.const (.map none)) (.map p) (.map none)).run K.P w= .ok () w:=run_eqGuard rfl
 show Sem.run K.P _ w=_
 simp only [g.ev hk e1,e3,Sem.run_bind,hgd,this,Result.andThen_ok,Sem.run_pure]
end
theorem subL_ext{B:List Value}: ∀(cs:List Value) (k n:Nat) {r:List Value},subL cs k n=some r->subL (cs++B) k n=some r
 | [],0,0,r,h=>by cases B<;>exact h
 |_::_,0,0,r,h=>h
 | [],k+1,0,r,h=>by simp [subL] at h
 | [],0,n+1,r,h=>by simp [subL] at h
 | [],k+1,n+1,r,h=>by simp [subL] at h
 |c::cs,0,n+1,r,h=>by
  rw [List.cons_append]
  simp only [subL] at h⊢
  split at h
  ·rename_i r' hr
   rw [subL_ext cs 0 n hr];exact h
  ·cases h
 |_::cs,k+1,0,r,h=>by
  rw [List.cons_append]
  simp only [subL] at h⊢
  exact subL_ext cs k 0 h
 |_::cs,k+1,n+1,r,h=>by
  rw [List.cons_append]
  simp only [subL] at h⊢
  exact subL_ext cs k (n+1) h
theorem subL_in{cs B:List Value}{k n:Nat}{r:List Value}(h:subL cs k n=some r): ∀A:List Value,subL (A++(cs++B)) (A.length+k) n=some r
 | []=>by rw [List.nil_append,List.length_nil,Nat.zero_add];exact subL_ext cs k n h
 |a::A=>by
  rw [List.cons_append,List.length_cons,show A.length+1+k=(A.length+k)+1 by omega]
  have e:subL (a::(A++(cs++B))) ((A.length+k)+1) n=subL (A++(cs++B)) (A.length+k) n:=by
   cases n<;>simp only [subL]
  rw [e];exact subL_in h A
theorem ldV_in{ti:TI}{A B cs:List Value}{b b' o0 k0:Nat}{v:Value}(h:ldV ti ⟨b',0,cs,none⟩ k0=some v):ldV ti ⟨b,o0,A++(cs++B),none⟩ (o0+A.length+k0)=some v:=by
 have h0:Nat.ble 0 k0=true:=by cases k0<;>rfl
 have hle:Nat.ble o0 (o0+A.length+k0)=true:=Nat.ble_eq_true_of_le (by omega)
 simp only [ldV,h0,hle,Nat.sub_zero,show o0+A.length+k0-o0=A.length+k0 by omega] at h⊢
 unfold partv at h⊢
 split at h
 ·split at h
  ·rename_i r hr
   rw [subL_in hr A];exact h
  ·cases h
 ·rw [nthL_eq] at h⊢
  have hk:k0<cs.length:=(List.getElem?_eq_some_iff.1 h).1
  rw [List.getElem?_append_right (by omega),show A.length+k0-A.length=k0 by omega,List.getElem?_append_left hk]
  exact h
theorem row_split{zs:List Value}{i:Nat}{z0:Value}(sp:List Value)(hz0:zs[i]? =some z0):catL zs++sp=catL (zs.take i)++(cellsL z0++(catL (zs.drop (i+1))++sp)):=by
 have hi:i<zs.length:=(List.getElem?_eq_some_iff.1 hz0).1
 have hzs:zs=zs.take i++z0::zs.drop (i+1):=by
  have:=List.take_append_drop i zs
  rw [List.drop_eq_getElem_cons hi] at this
  rw [List.getElem?_eq_getElem hi] at hz0
  injection hz0 with hz0
  rw [hz0] at this
  exact this.symm
 conv=>lhs;rw [hzs]
 rw [catL_app,List.append_assoc]
 congr 1
 show (cellsL z0++catL (zs.drop (i+1)))++sp=_
 rw [List.append_assoc]
section
variable{K:AC}{k:List It}{E:AEnv}{Λ:List AEnt}
theorem A.loadPart{all:Array Oper}{o:Oper}{l:List Oper}{ks:List (Nat×Bool)}{t:TypeId}{p:Operand}{b sz off:Nat}(i k0:Nat){xs:List AV}{ti:TI}{x y:AV}{E':AEnv}
 (hg:gyesA E all o.guard=some ks) (ho:o.op= .load t p) (hp:E.ev K.gs ks p=some (.v (.pointer (some ⟨b,off,none⟩)))) (ht:K.S.get t=some ti) (n c o0:Nat) [j:ARow Λ (.slice (some ⟨b,o0,none⟩) n c) sz xs] (hoff:off=o0+i*sz+k0)
 (hx:xs[i]? =some x) (hld:ldA ti x k0=some y) (hput:E.put K.n none o.dst y=some E') (next:A K (.ops all l::k) E' Λ):A K (.ops all (o::l)::k) E Λ:=by
 subst hoff
 refine ⟨fun h e L hl r q=>?_⟩
 obtain ⟨v1,e1,f1⟩:=r.ev (K.hgs.mono hl) _ hp
 rw [Rp_v] at f1;rw [f1.1] at e1
 obtain ⟨M,m1,pp,⟨a,cap',zs,g1,g2,g3,g4,g5⟩,rfl⟩:=q.mem j.mem
 injection g1 with g1 g1' g1''
 subst g1;subst g1';subst g1''
 rcases g5 with ⟨g5,_⟩|⟨b',off',sp,g6,rfl,g9⟩
 ·subst g5;cases hx
 ·injection g6 with g6;injection g6 with g6 g7;subst g6;subst g7
  obtain ⟨z0,hz0,hr0⟩:=g3.rp.at hx
  obtain ⟨v,s1,s2⟩:=ldA_rp (b:=b) hr0 hld
  have hzl:zs.length=xs.length:=g3.rp.len
  have hi:i<xs.length:=(List.getElem?_eq_some_iff.1 hx).1
  have hA:(catL (zs.take i)).length=i*sz:=by
   rw [(g3.takeN i).clen,List.length_take,Nat.min_eq_left (by omega)]
  have hv:ldV ti ⟨b,o0,catL zs++sp,none⟩ (o0+i*sz+k0)=some v:=by
   rw [row_split sp hz0,<-hA];exact ldV_in s1
  obtain ⟨e',e5,e6⟩:=putA_eq r hput s2
  exact V.loadY (C:=K.cfg) (gyesA_eq r hg) ho e1 ht (i:=⟨List.mem_append_left _ (m1 _ (List.mem_singleton.2 rfl)),rfl⟩) hv e5 (next.run h e' L hl e6 q)
end
section
variable{K:AC}{all:Array Oper}{m:Nat}{k:List It}{pubs:Nat->List Nat}{Y:Ua}{π:List Nat}{E:AEnv}{Λ:List AEnt}{D:Da}
theorem WA.epV(t:Nat){b o0 n c sz i:Nat}(hx:lookA E.us t=some (.ep (.slice (some ⟨b,o0,none⟩) n c) sz i))(next:WA K all m k pubs Y π ⟨(t, .v (.pointer (some ⟨b,o0+i*sz,none⟩)))::E.us,E.cs⟩ Λ D):WA K all m k pubs Y π E Λ D:=by
 refine ⟨fun h e L Es hl r q d=>?_⟩
 rcases r.1.look t with ⟨y,v,e1,e2,e3⟩|⟨e1,e2⟩
 ·rw [hx] at e1;injection e1 with e1;subst e1
  rw [Rp_ep] at e3
  obtain ⟨b',o',n',c',e4,_,e5⟩:=e3
  injection e4 with e4;injection e4 with e4;injection e4 with e6 e7
  subst e6;subst e7;subst e5
  exact WE.val (G:=drawRg K.cfg all (L++K.G) pubs (YA Y) m k) t e2 rfl (next.run h ⟨(t,_)::e.us,e.cs⟩ L Es hl ⟨r.1.put (Rp_v.2 ⟨rfl,rfl⟩),r.2⟩ q d)
 ·rw [hx] at e1;cases e1
theorem WA.loadPart{i0:Nat}{o:Oper}{ks:List (Nat×Bool)}{t:TypeId}{p:Operand}{b sz off:Nat}(i k0:Nat){xs:List AV}{ti:TI}{x y:AV}{E':AEnv}(hi0:nthL all.toList i0=some o)
 (hg:gyesA E all o.guard=some ks) (ho:o.op= .load t p) (hp:E.ev K.gs ks p=some (.v (.pointer (some ⟨b,off,none⟩)))) (ht:K.S.get t=some ti) (n c o0:Nat) [j:ARow Λ (.slice (some ⟨b,o0,none⟩) n c) sz xs] (hoff:off=o0+i*sz+k0)
 (hx:xs[i]? =some x) (hld:ldA ti x k0=some y) (hput:E.put K.n none o.dst y=some E') (next:WA K all m k pubs Y π E' Λ D):WA K all m k pubs Y (i0::π) E Λ D:=by
 subst hoff
 refine ⟨fun h e L Es hl r q d=>?_⟩
 obtain ⟨v1,e1,f1⟩:=r.ev (K.hgs.mono hl) _ hp
 rw [Rp_v] at f1;rw [f1.1] at e1
 obtain ⟨M,m1,pp,⟨a,cap',zs,g1,g2,g3,g4,g5⟩,rfl⟩:=q.mem j.mem
 injection g1 with g1 g1' g1''
 subst g1;subst g1';subst g1''
 rcases g5 with ⟨g5,_⟩|⟨b',off',sp,g6,rfl,g9⟩
 ·subst g5;cases hx
 ·injection g6 with g6;injection g6 with g6 g7;subst g6;subst g7
  obtain ⟨z0,hz0,hr0⟩:=g3.rp.at hx
  obtain ⟨v,s1,s2⟩:=ldA_rp (b:=b) hr0 hld
  have hzl:zs.length=xs.length:=g3.rp.len
  have hi:i<xs.length:=(List.getElem?_eq_some_iff.1 hx).1
  have hA:(catL (zs.take i)).length=i*sz:=by
   rw [(g3.takeN i).clen,List.length_take,Nat.min_eq_left (by omega)]
  have hv:ldV ti ⟨b,o0,catL zs++sp,none⟩ (o0+i*sz+k0)=some v:=by
   rw [row_split sp hz0,<-hA];exact ldV_in s1
  obtain ⟨e',e4,e5⟩:=putA_eq r hput s2
  exact WE.valueY (G:=drawRg K.cfg all (L++K.G) pubs (YA Y) m k) hi0 (kd_load ho) (gyesA_eq r hg) (fun a w E0 g s hk=>by
   have:=run_ldV (TT.Ok.get K.ok ht) (s.own ⟨b,o0,catL zs++sp,none⟩ (List.mem_append_right _ (List.mem_append_left _ (m1 _ (List.mem_singleton.2 rfl))))) rfl hv
   unfold execOp
   rw [ho]
   have this:Sem.run K.cfg.P (Instr.loadAt t (Value.pointer (some ⟨b,o0+i*sz+k0,none⟩))) w= .ok v w:=this
   simp only [g.ev hk e1,Sem.run_bind,this,Result.andThen_ok,Sem.run_pure]) e4 (next.run h e' L Es hl e5 q d)
end
end Go.Tp
namespace Go.Tp
open Go Go.RowKit
section
variable{K:AC}{k:List It}{E:AEnv}{Λ:List AEnt}
theorem A.nilRow(sz:Nat)(next:A K k E (.row sz (.slice none 0 0) []::Λ)):A K k E Λ:=by
 refine ⟨fun h e L hl r q=>?_⟩
 have hr0: ∃p,RpRow h sz (.slice none 0 0) [] p/\[(⟨0,0,[],none⟩:Ent)]=[p]:=⟨⟨0,0,[],none⟩,⟨none,0,[],rfl,Nat.zero_le _,⟨(by rw [RpC_nil]),(fun z hz=>by cases hz),(fun z hz=>by cases hz)⟩,rfl, .inl ⟨rfl,rfl,rfl,fun y hy=>by cases hy⟩⟩,rfl⟩
 exact V.empty (next.run h e (_::L) hl r (.one hr0 q))
theorem A.valR(t:Nat){x x':AV}(hx:lookA E.us t=some x)(hr: ∀(h:GH) z,Rp h x z->Rp h x' z)(next:A K k ⟨(t,x')::E.us,E.cs⟩ Λ):A K k E Λ:=by
 refine ⟨fun h e L hl r q=>?_⟩
 rcases r.1.look t with ⟨y,v,e1,e2,e3⟩|⟨e1,e2⟩
 ·rw [hx] at e1;injection e1 with e1;subst e1
  exact V.val t e2 rfl (next.run _ ⟨(t,v)::e.us,e.cs⟩ L hl ⟨r.1.put (hr _ _ e3),r.2⟩ q)
 ·rw [hx] at e1;cases e1
end
end Go.Tp
namespace Go.Proofs.YtkbolbpojpmicaaGreat
open Go Go.Tp
theorem has19_p(l:List Int)(v:Int)(hb:l.length<=281474976710656):Pure Tryz.prog gs0 57 [intsA l,AI v] (AB (l.contains v)):=by
 have h1:=contains_p l v hb
 refine p_ tt_ok Tryz.func57 8 fun w0 h0 F hgs=>?_
 refine y_ ?_
 exact cr_ h1
abbrev whA(t:TR)(op:List Int)(f:Nat):AV:= .ag [trA t,intsA op,AI (f:Nat)]
theorem from_p(t:TR)(op:List Int)(f n:Nat)(hn:n<=t.length):Pure Tryz.prog gs0 218 [whA t op f,AI (n:Nat)] (whA (t.drop n) op f):=by
 have nt:=trA_len t
 refine p_ tt_ok Tryz.func218 14 fun w0 h0 F hgs=>?_
 (repeat refine A.s rfl ?_)
 refine A.b rfl fun b2=>?_
 refine A.b rfl fun b4=>?_
 (repeat refine A.s rfl ?_)
 refine d_ 9 [0,1,2,3,4,5,6,7,8] [] ?_
 refine WA.slice (ys:=(t.drop n).map evA) rfl rfl rfl rfl rfl rfl rfl rfl rfl rfl (by show (0:Int)<=(n:Nat);omega) (by show ((n:Nat):Int)<=((t.map evA).length:Int);rw [nt];omega) (Int.le_refl _) (by
  show ((t.map evA).drop ((n:Nat):Int).toNat).take (((t.map evA).length:Int).toNat-((n:Nat):Int).toNat)=_
  rw [Int.toNat_natCast,Int.toNat_natCast,List.map_drop,List.take_of_length_le (by rw [List.length_drop];exact Nat.le_refl _)]) rfl ?_
 refine w_ ?_
 refine z_ ?_
 refine A.retC (Λ':=[]) rfl rfl rfl rfl rfl (List.nil_sublist _) ⟨?_,rfl⟩
 exact .refl
theorem only_snoc(t:TR)(ch:List Int){i:Nat}{e:EL}(h:t[i]? =some e):onlyT (t.take (i+1)) ch=if ch.contains e.1 then onlyT (t.take i) ch++[e] else onlyT (t.take i) ch:=by
 unfold onlyT
 rw [List.take_add_one,h,List.filter_append]
 show List.filter _ (t.take i)++List.filter _ [e]=_
 rw [List.filter_cons]
 split<;>simp
theorem only_len(t:TR)(ch:List Int):(onlyT t ch).length<=t.length:=List.length_filter_le ..
theorem only_p(t:TR)(ch:List Int)(ht:t.length<=1048576)(hc:ch.length<=281474976710656):Pure Tryz.prog gs0 23 [trA t,intsA ch] (trA (onlyT t ch)):=by
 have nt:=trA_len t
 refine p_ tt_ok Tryz.func23 24 fun w0 h0 F hgs=>?_
 refine y_ ?_
 refine A.emptyRow 5 2 rfl fun z0=>?_
 refine A.valE 9 rfl (x':=AI (t.length:Nat)) (ai_eq nt) ?_
 refine A.keep [1,5,8,9,10] rfl ?_
 refine A.loopP (ι:=Nat×Value) (fun u=>(⟨[(1,intsA ch),(5, .ms u.2 2 (onlyT (t.take u.1) ch).length),(8,trA t),(9,AI (t.length:Nat)),(10,AI (u.1:Nat))],[]⟩,[.row 2 u.2 ((onlyT (t.take u.1) ch).map evA)])) (fun u=>u.1<=t.length) (fun u=>t.length-u.1) (0,z0) (Nat.zero_le _) rfl fun u hu ih=>?_
 obtain ⟨i,z⟩:=u
 simp only at hu
 have hol:(onlyT (t.take i) ch).length<=t.length:=Nat.le_trans (only_len _ _) (by rw [List.length_take];omega)
 refine y_ ?_
 by_cases hci:i<t.length
 ·refine Exists.elim (at_exN (l:=t) (i:=i) hci) fun e he=>?_
  have hs:=only_snoc t ch he
  have hh:=has19_p ch e.1 hc
  refine T_ rfl (by show decide ((i:Int)<(t.length:Nat))=true;rw [decide_eq_true_eq];omega) ?_
  refine j_ rfl (map_at he) rfl ?_
  (repeat refine A.s rfl ?_)
  refine A.b rfl fun b7=>?_
  refine y_ ?_
  refine c_ hh ?_
  by_cases hce:ch.contains e.1=true
  ·rw [if_pos hce] at hs
   refine A.gT rfl hce ?_
   refine t_ fun bl=>?_
   refine A.appendRowE rfl rfl rfl rfl rfl rfl rfl rfl rfl rfl rfl rfl rfl rfl (by show (((onlyT (t.take i) ch).map evA).length+1)*2<=_;rw [List.length_map];omega) (by show (((onlyT (t.take i) ch).map evA).length+1)*2*16<=_;rw [List.length_map];omega) fun z2=>?_
   refine y_ ?_
   refine A.valE 10 rfl (x':=AI ((i+1:Nat):Int)) (inc_eq i (by omega)) ?_
   refine A.valE 5 rfl (x':= .ms z2 2 (onlyT (t.take (i+1)) ch).length) (by rw [hs,List.length_append,List.length_map];rfl) ?_
   refine l_ (Λ':=[.row 2 z2 ((onlyT (t.take i) ch).map evA++[evA e])]) ?_
   refine A.entsEq (Λ':=[.row 2 z2 ((onlyT (t.take (i+1)) ch).map evA)]) (by rw [hs,List.map_append];rfl) ?_
   refine u_ (ih (i+1,z2) (by show i+1<=_;omega) (by show _-(i+1)<_-i;omega))
  ·rw [if_neg hce] at hs
   refine F_ rfl (by simpa using hce) ?_
   refine A.valE 10 rfl (x':=AI ((i+1:Nat):Int)) (inc_eq i (by omega)) ?_
   refine A.valE 5 rfl (x':= .ms z 2 (onlyT (t.take (i+1)) ch).length) (by rw [hs]) ?_
   refine l_ (Λ':=[.row 2 z ((onlyT (t.take i) ch).map evA)]) ?_
   refine A.entsEq (Λ':=[.row 2 z ((onlyT (t.take (i+1)) ch).map evA)]) (by rw [hs]) ?_
   refine u_ (ih (i+1,z) (by show i+1<=_;omega) (by show _-(i+1)<_-i;omega))
 ·refine A.gF rfl (by show decide ((i:Int)<(t.length:Nat))=false;rw [decide_eq_false_iff_not];omega) ?_
  clear ih
  have hie:i=t.length:=by omega
  subst hie
  refine A.valE 5 rfl (x':= .ms z 2 (onlyT t ch).length) (by rw [List.take_length]) ?_
  refine A.entsEq (Λ':=[.row 2 z ((onlyT t ch).map evA)]) (by rw [List.take_length]) ?_
  refine A.freezeRow 5 rfl ?_
  exact yr_
end Go.Proofs.YtkbolbpojpmicaaGreat
