/-
  Texts Q20j Q20e Q20k Q20l T20o. Conditions: as each theorem says.
-/
import Derived.Test.YtpcloejpklkieaaGreatV3
import Derived.Test.YtpcloejpklkieaaGreatV8
set_option linter.unusedVariables false
set_option linter.unusedSimpArgs false
set_option maxRecDepth 100000
set_option maxHeartbeats 4000000
namespace Go.Proofs.YtpcloejpklkieaaGreat
open Go Go.Tp
theorem dropX_at{α:Type}{l:List α}{i:Nat}{x:α}(h:l[i]? =some x):l.drop i=x::l.drop (i+1):=by
 obtain ⟨h1,h2⟩:=List.getElem?_eq_some_iff.1 h
 rw [List.drop_eq_getElem_cons h1,h2]
theorem rless_p(a b:TR)(ha:a.length≤281474976710656):Pure Tryz.prog gs0 14 [trA a,trA b] (AB (ltL a b)):=by
 have na:=trA_len a
 have nb:=trA_len b
 refine p_ tt_ok Tryz.func14 67 fun w0 h0 F hgs=>?_
 refine y_ ?_
 refine A.keep [0,1,5] rfl ?_
 refine A.loopP (ι:=Nat) (fun i=>(⟨[(0,trA a),(1,trA b),(5,AI (i:Nat))],[]⟩,[])) (fun i=>i≤a.length∧i≤b.length∧ltL a b=ltL (a.drop i) (b.drop i)) (fun i=>a.length-i) 0 ⟨Nat.zero_le _,Nat.zero_le _,rfl⟩ rfl fun i hi ih=>?_
 obtain ⟨hi1,hi2,hi3⟩:=hi
 by_cases hca:i<a.length
 case neg=>
  have hda:a.drop i=[]:=List.drop_eq_nil_of_le (by omega)
  refine A.s rfl ?_
  refine y_ ?_
  refine e_ 10 rfl (x':=AB false) (ab_eq (by rw [na,decide_eq_false_iff_not];omega)) ?_
  refine A.valE 4 rfl (x':=AB (ltL a b)) (ab_eq ?_) ?_
  ·rw [hi3,hda,na,nb]
   by_cases hcb:i<b.length
   ·rw [List.drop_eq_getElem_cons hcb,ltL,decide_eq_true_eq];omega
   ·rw [List.drop_eq_nil_of_le (by omega:b.length≤i),ltL,decide_eq_false_iff_not];omega
  exact r_
 by_cases hcb:i<b.length
 case neg=>
  have hdb:b.drop i=[]:=List.drop_eq_nil_of_le (by omega)
  refine y_ ?_
  refine e_ 10 rfl (x':=AB true) (ab_eq (by rw [na,decide_eq_true_eq];omega)) ?_
  refine e_ 15 rfl (x':=AB false) (ab_eq (by rw [nb];show decide _=_;rw [decide_eq_false_iff_not];omega)) ?_
  refine A.valE 4 rfl (x':=AB (ltL a b)) (ab_eq ?_) ?_
  ·rw [hi3,hdb,na,nb,List.drop_eq_getElem_cons hca,ltL,decide_eq_false_iff_not];omega
  exact r_
 refine Exists.elim (at_exN (l:=a) (i:=i) hca) fun x hx=>?_
 refine Exists.elim (at_exN (l:=b) (i:=i) hcb) fun y hy=>?_
 rw [dropX_at hx,dropX_at hy,ltL] at hi3
 refine y_ ?_
 refine e_ 10 rfl (x':=AB true) (ab_eq (by rw [na,decide_eq_true_eq];omega)) ?_
 refine e_ 15 rfl (x':=AB true) (ab_eq (by rw [nb];show decide _=_;rw [decide_eq_true_eq];omega)) ?_
 refine d_ 10 [0,1,2,3,4,5,6,7,8,9] [] ?_;refine iw_ rfl (map_at hx) rfl ?_;refine iw_ rfl (map_at hy) rfl ?_;refine z_ ?_
 by_cases h1:x.1=y.1
 case neg=>
  refine T_ rfl (bne_iff_ne.2 h1) ?_
  refine d_ 10 [0,1,2,3,4,5,6,7,8,9] [] ?_;refine iw_ rfl (map_at hx) rfl ?_;refine iw_ rfl (map_at hy) rfl ?_;refine z_ ?_
  refine A.valE 4 rfl (x':=AB (ltL a b)) (ab_eq ?_) ?_
  ·rw [hi3,if_neg (fun e=>h1 (by rw [e]))]
   unfold ltE
   rw [decide_eq_false h1,Bool.false_and,Bool.or_false]
  exact r_
 refine F_ rfl (by rw [h1];simp) ?_
 refine d_ 10 [0,1,2,3,4,5,6,7,8,9] [] ?_;refine iw_ rfl (map_at hx) rfl ?_;refine iw_ rfl (map_at hy) rfl ?_;refine z_ ?_
 by_cases h2:x.2=y.2
 case neg=>
  refine T_ rfl (bne_iff_ne.2 h2) ?_
  refine d_ 10 [0,1,2,3,4,5,6,7,8,9] [] ?_;refine iw_ rfl (map_at hx) rfl ?_;refine iw_ rfl (map_at hy) rfl ?_;refine z_ ?_
  refine A.valE 4 rfl (x':=AB (ltL a b)) (ab_eq ?_) ?_
  ·rw [hi3,if_neg (fun e=>h2 (by rw [e]))]
   unfold ltE
   rw [decide_eq_true h1,Bool.true_and,decide_eq_false (by omega: ¬x.1<y.1),Bool.false_or]
  exact r_
 refine F_ rfl (by rw [h2];simp) ?_
 refine A.valE 5 rfl (x':=AI ((i+1:Nat):Int)) (inc_eq i (by omega)) ?_
 refine u_ (ih (i+1) ⟨by omega,by omega,by rw [hi3,if_pos (Prod.ext h1 h2)]⟩ (by omega))
theorem lt_same(a b:TR):(!ltL a b&& !ltL b a)=decide (a=b):=by
 rw [Bool.eq_iff_iff,Bool.and_eq_true,Bool.not_eq_true',Bool.not_eq_true',decide_eq_true_eq]
 constructor
 ·rintro ⟨h1,h2⟩;exact ltL_tri a b h1 h2
 ·rintro rfl;exact ⟨ltL_irrefl _,ltL_irrefl _⟩
theorem rtsame_p(a b:TR)(ha:a.length≤281474976710656)(hb:b.length≤281474976710656):Pure Tryz.prog gs0 10 [trA a,trA b] (AB (decide (a=b))):=by
 have h1:=rless_p a b ha
 have h2:=rless_p b a hb
 rw [←lt_same a b]
 by_cases hl:ltL a b=true
 ·rw [hl] at h1⊢
  refine p_ tt_ok Tryz.func10 15 fun w0 h0 F hgs=>?_
  refine y_ ?_
  exact cr_ h1
 ·have hl:ltL a b=false:=by simpa using hl
  rw [hl] at h1⊢
  refine p_ tt_ok Tryz.func10 15 fun w0 h0 F hgs=>?_
  refine y_ ?_
  refine c_ h1 ?_
  exact cr_ h2
abbrev tsA(l:List TR):AV:= .sl 1 (l.map trA) none
theorem lists_p(a b:List TR)(ha: ∀t,t∈a→t.length≤281474976710656)(hb: ∀t,t∈b→t.length≤281474976710656)(hl:a.length≤281474976710656):Pure Tryz.prog gs0 15 [tsA a,tsA b] (AB (decide (a=b))):=by
 have na:((a.map trA).length:Int)=a.length:=by rw [List.length_map]
 have nb:((b.map trA).length:Int)=b.length:=by rw [List.length_map]
 by_cases hlen:a.length=b.length
 case neg=>
  rw [decide_eq_false (fun e=>hlen (by rw [e]))]
  refine p_ tt_ok Tryz.func15 27 fun w0 h0 F hgs=>?_
  refine y_ ?_
  refine T_ rfl (by rw [na,nb,bne_iff_ne];omega) ?_
  exact r_
 refine Exists.elim (show∃R,R=decide (a=b) from ⟨_,rfl⟩) fun R hR=>?_
 rw [←hR]
 refine p_ tt_ok Tryz.func15 27 fun w0 h0 F hgs=>?_
 refine y_ ?_
 refine F_ rfl (by rw [na,nb,hlen];simp) ?_
 refine A.valE 12 rfl (x':=AI (a.length:Nat)) (ai_eq na) ?_
 refine A.keep [0,1,12,13] rfl ?_
 refine A.loopP (ι:=Nat) (fun i=>(⟨[(0,tsA a),(1,tsA b),(12,AI (a.length:Nat)),(13,AI (i:Nat))],[]⟩,[])) (fun i=>i≤a.length∧R=decide (a.drop i=b.drop i)) (fun i=>a.length-i) 0 ⟨Nat.zero_le _,hR⟩ rfl fun i hi ih=>?_
 obtain ⟨hi1,hi2⟩:=hi
 refine y_ ?_
 refine k_ (fun hc=>?_) fun hc=>?_
 ·have hci:i<a.length:=by simpa using hc
  clear hc
  refine Exists.elim (at_exN (l:=a) (i:=i) hci) fun x hx=>?_
  refine Exists.elim (at_exN (l:=b) (i:=i) (by omega)) fun y hy=>?_
  have hs:=rtsame_p x y (ha x (List.mem_of_getElem? hx)) (hb y (List.mem_of_getElem? hy))
  rw [dropX_at hx,dropX_at hy] at hi2
  refine y_ ?_
  refine d_ 8 [0,1,2,3,4,5,6,7] [] ?_
  refine iw_ rfl (map_at hx) rfl ?_
  refine iw_ rfl (map_at hy) rfl ?_
  refine WA.nil (l:=[]) rfl ?_
  refine n_ hs ?_
  by_cases he:x=y
  ·refine A.s rfl ?_
   refine e_ 25 rfl (x':=AB false) (ab_eq (by rw [decide_eq_true he];rfl)) ?_
   refine A.valE 13 rfl (x':=AI ((i+1:Nat):Int)) (inc_eq i (by omega)) ?_
   refine u_ (ih (i+1) ⟨by omega,by rw [hi2,he];simp⟩ (by omega))
  ·refine A.s rfl ?_
   refine e_ 25 rfl (x':=AB true) (ab_eq (by rw [decide_eq_false he];rfl)) ?_
   refine R_ ?_
   rw [hi2]
   simp only [List.cons.injEq,he,false_and,decide_false]
   exact .refl
 have hci: ¬i<a.length:=by simpa using hc
 clear hc ih
 refine y_ ?_
 refine R_ ?_
 rw [hi2,List.drop_eq_nil_of_le (by omega),List.drop_eq_nil_of_le (by omega)]
 exact .refl
abbrev bytsA(l:List Int):AV:= .sl 1 (l.map AU8) none
theorem walk_no(k:KN)(hk:SmN k)(hm:mayK k=false)(inn pk:List Int):Pure Tryz.prog gs0 7 [encN k,rowA inn,bytsA pk] (.tp [trA [],encST zeroS,AI 2]):=by
 have h1:=start_no k hk hm inn
 refine p_ tt_ok Tryz.func7 52 fun w0 h0 F hgs=>?_
 (refine b_ fun bx=>?_;refine b_ fun bx=>?_;refine y_ ?_)
 refine c_ h1 ?_
 refine m_ (ResA.tmp rfl (ResA.cell rfl rfl rfl (ResA.tmp rfl ResA.nil))) ?_
 exact s_
theorem walk_yes(k:KN)(hk:SmN k)(hm:mayK k=true)(inn:List Int)(hi: ∀x,x∈inn→i32 x)(hil:inn.length≤35184372088832)(pk:List Int)(hp: ∀x,x∈pk→Go.Tp.u8 x)(hpl:pk.length≤1000):
 Pure Tryz.prog gs0 7 [encN k,rowA inn,bytsA pk] (.tp [trA (walkM [] (startS k inn) (pk.map Int.toNat)).1,encST (walkM [] (startS k inn) (pk.map Int.toNat)).2,AI 0]):=by
 have h1:=start_yes k hk hm inn hil
 have hg0:=start_good hm hk.wf hk.root hi hil
 have n1:((pk.map AU8).length:Int)=pk.length:=by rw [List.length_map]
 refine Exists.elim (show∃R,R=walkM [] (startS k inn) (pk.map Int.toNat) from ⟨_,rfl⟩) fun R hR=>?_
 rw [←hR]
 refine p_ tt_ok Tryz.func7 52 fun w0 h0 F hgs=>?_
 (repeat refine A.s rfl ?_)
 refine A.b rfl fun b3=>?_
 (repeat refine A.s rfl ?_)
 refine A.b rfl fun b7=>?_
 refine y_ ?_
 refine c_ h1 ?_
 refine A.valE 23 rfl (x':=AI (pk.length:Nat)) (ai_eq n1) ?_
 refine A.emptyRow 6 2 rfl fun z0=>?_
 refine A.keep [3,6,7,22,23,24] rfl ?_
 refine A.loopP (ι:=Nat×TR×ST×Value) (fun u=>(⟨[(3,ptrA b3),(6, .ms u.2.2.2 2 u.2.1.length),(7,ptrA b7),(22,bytsA pk),(23,AI (pk.length:Nat)),(24,AI (u.1:Nat))],[]⟩,[.row 2 u.2.2.2 (u.2.1.map evA), .box b7 (encST u.2.2.1), .box b3 (encN k)]))
  (fun u=>u.1≤pk.length∧u.2.1.length≤u.1∧GoodK k u.2.2.1∧R=walkM u.2.1 u.2.2.1 ((pk.drop u.1).map Int.toNat)) (fun u=>pk.length-u.1) (0,[],startS k inn,z0) ⟨Nat.zero_le _,Nat.le_refl _,hg0,by rw [List.drop_zero];exact hR⟩ rfl fun u hu ih=>?_
 obtain ⟨i,t,s,z⟩:=u
 obtain ⟨hi1,htl,hg,hRi⟩:=hu
 simp only at hi1 htl hg hRi
 refine y_ ?_
 refine k_ (fun hc=>?_) fun hc=>?_
 ·have hci:i<pk.length:=by simpa using hc
  clear hc
  refine Exists.elim (at_exN (l:=pk) (i:=i) hci) fun n hn=>?_
  have hu8:=hp n (List.mem_of_getElem? hn)
  unfold Go.Tp.u8 at hu8
  have hdr:pk.drop i=n::pk.drop (i+1):=by rw [List.drop_eq_getElem_cons hci];rw [List.getElem?_eq_getElem hci] at hn;injection hn with hn;rw [hn]
  have hmv:=movesG_p k s hg
  have hml:=steps_len hg
  have hmp:=moves_pos s
  have n2:((movsA (movesM s)).length:Int)=(movesM s).length:=by rw [List.length_map]
  have hlt:n.toNat % (movesM s).length<(movesM s).length:=Nat.mod_lt _ (by omega)
  refine Exists.elim (at_exN (l:=movesM s) (i:=n.toNat % (movesM s).length) hlt) fun m hmm=>?_
  have hstep:walkM t s ((pk.drop i).map Int.toNat)=walkM (withM t (evM m,m.next)) m.next ((pk.drop (i+1)).map Int.toNat):=by
   rw [hdr,List.map_cons,walkM,hmm]
  have hgm:=(moves_good hg m (List.mem_of_getElem? hmm)).1
  refine y_ ?_
  refine i_ rfl (map_at hn) rfl ?_
  refine c_ hmv ?_
  refine A.valE 33 rfl (x':=AI (n.toNat:Nat)) (ai_eq (by rw [wr64 _ (by omega)];omega)) ?_
  refine A.valE 35 rfl (x':=AI ((movesM s).length:Nat)) (ai_eq n2) ?_
  refine A.divrem rfl rfl rfl rfl rfl rfl rfl (by omega) ?_
  refine A.valE 36 rfl (x':=AI ((n.toNat % (movesM s).length:Nat):Int)) (ai_eq (by
   show Int.tmod ((n.toNat:Nat):Int) ((movesM s).length:Nat)=_
   rfl)) ?_
  refine j_ rfl (map_at hmm) rfl ?_
  (repeat refine A.s rfl ?_)
  refine A.b rfl fun b12=>?_
  refine y_ ?_
  by_cases hk2:m.kind=2
  ·have hw:withM t (evM m,m.next)=t++[(m.ec,m.ev)]:=by unfold withM evM;rw [if_pos hk2]
   refine A.gT rfl (by rw [hk2];rfl) ?_
   refine t_ fun bl=>?_
   refine A.appendRowE rfl rfl rfl rfl rfl rfl rfl rfl rfl rfl rfl rfl rfl rfl (by show ((t.map evA).length+1)*2≤_;rw [List.length_map];omega) (by show ((t.map evA).length+1)*2*16≤_;rw [List.length_map];omega) fun z2=>?_
   refine y_ ?_
   refine A.valE 6 rfl (x':= .ms z2 2 (t++[(m.ec,m.ev)]).length) (by rw [List.length_append,List.length_map];rfl) ?_
   refine A.valE 24 rfl (x':=AI ((i+1:Nat):Int)) (inc_eq i (by omega)) ?_
   refine l_ (Λ':=[.row 2 z2 (t.map evA++[evA (m.ec,m.ev)]), .box b7 (encST m.next), .box b3 (encN k)]) ?_
   refine A.entsEq (Λ':=[.row 2 z2 ((t++[(m.ec,m.ev)]).map evA), .box b7 (encST m.next), .box b3 (encN k)]) (by rw [List.map_append];rfl) ?_
   refine u_ (ih (i+1,t++[(m.ec,m.ev)],m.next,z2) ⟨by show i+1≤_;omega,by show (t++[(m.ec,m.ev)]).length≤i+1;rw [List.length_append,List.length_singleton];omega,hgm,by rw [hRi,hstep,hw]⟩ (by show _-(i+1)<_-i;omega))
  ·have hw:withM t (evM m,m.next)=t:=by unfold withM evM;rw [if_neg hk2]
   refine F_ rfl (beq_eq_false_iff_ne.2 hk2) ?_
   refine A.valE 24 rfl (x':=AI ((i+1:Nat):Int)) (inc_eq i (by omega)) ?_
   refine l_ (Λ':=[.row 2 z (t.map evA), .box b7 (encST m.next), .box b3 (encN k)]) ?_
   refine u_ (ih (i+1,t,m.next,z) ⟨by show i+1≤_;omega,by show t.length≤i+1;omega,hgm,by rw [hRi,hstep,hw]⟩ (by show _-(i+1)<_-i;omega))
 have hci: ¬i<pk.length:=by simpa using hc
 clear hc ih
 rw [List.drop_eq_nil_of_le (by omega),List.map_nil,walkM] at hRi
 rw [hRi]
 refine y_ ?_
 refine d_ 3 [0,1,2] [] ?_
 refine z_ ?_
 refine A.freezeRow 6 rfl ?_
 refine m_ (ResA.tmp rfl (ResA.cell rfl rfl rfl (ResA.tmp rfl ResA.nil))) ?_
 exact s_
theorem states_val{k:KN}(hk:SmN k){most:Nat}(h:checkX k 0 (most:Nat)=0){inn:List Int}(hi: ∀x,x∈inn→i32 x)(hil:inn.length≤35184372088832){n:Nat}(hr:(reachM k inn most).map List.length=some n):Pure Tryz.prog gs0 17 [encN k,rowA inn,AI (most:Nat)] (.tp [AI (n:Nat),AI 0]):=by
 have h1:=states_yes k hk most h inn hi hil
 cases hm:reachM k inn most with
 |none=>rw [hm] at hr;cases hr
 |some l=>rw [hm] at h1 hr;injection hr with hr;rw [←hr];exact h1
theorem states_none{k:KN}(hk:SmN k){most:Nat}(h:checkX k 0 (most:Nat)=0){inn:List Int}(hi: ∀x,x∈inn→i32 x)(hil:inn.length≤35184372088832)(hr:reachM k inn most=none):Pure Tryz.prog gs0 17 [encN k,rowA inn,AI (most:Nat)] (.tp [AI 0,AI 190]):=by
 have h1:=states_yes k hk most h inn hi hil
 rw [hr] at h1;exact h1
theorem stuck_val{k:KN}(hk:SmN k){most:Nat}(h:checkX k 0 (most:Nat)=0){inn:List Int}(hi: ∀x,x∈inn→i32 x)(hil:inn.length≤35184372088832){o:Option TR}(hr:(reachM k inn most).map (stuckM badS)=some o):Pure Tryz.prog gs0 11 [encN k,rowA inn,AI (most:Nat)] (.tp [trA (optT o),AB o.isSome,AI 0]):=by
 cases hm:reachM k inn most with
 |none=>rw [hm] at hr;cases hr
 |some l=>
  rw [hm] at hr;injection hr with hr;rw [←hr]
  exact stuck_yes k hk most h inn hi hil l hm
theorem traces_val{k:KN}(hk:SmN k){n most:Nat}(hn:n≤1000)(h:checkX k (n:Nat) (most:Nat)=0){inn:List Int}(hi: ∀x,x∈inn→i32 x)(hil:inn.length≤35184372088832){ts:List TR}(hr:(closX k inn n most).map (fun l=>canT (l.map (·.1)))=some ts):Pure Tryz.prog gs0 9 [encN k,rowA inn,AI (n:Nat),AI (most:Nat)] (.tp [tsA ts,AI 0]):=by
 have h1:=traces_yes k hk n most hn h inn hi hil
 cases hm:closX k inn n most with
 |none=>rw [hm] at hr;cases hr
 |some l=>rw [hm] at h1 hr;injection hr with hr;rw [←hr];exact h1
theorem traces_none{k:KN}(hk:SmN k){n most:Nat}(hn:n≤1000)(h:checkX k (n:Nat) (most:Nat)=0){inn:List Int}(hi: ∀x,x∈inn→i32 x)(hil:inn.length≤35184372088832)(hr:closX k inn n most=none):Pure Tryz.prog gs0 9 [encN k,rowA inn,AI (n:Nat),AI (most:Nat)] (.tp [tsA [],AI 190]):=by
 have h1:=traces_yes k hk n most hn h inn hi hil
 rw [hr] at h1;exact h1
abbrev oP(c n:Int):PR:=⟨6,c,0,1,[],[knum n],[],[]⟩
abbrev iP(c:Int):PR:=⟨5,c,0,1,[⟨0,[]⟩],[],[],[]⟩
abbrev qP(l:List PR):PR:=⟨9,0,0,0,[],[],[],l⟩
abbrev someK(a b:Int):KN:=⟨[⟨1,0⟩],[1,2,0,0],⟨10,0,0,0,[],[],[],[qP [oP 2 1,oP 3 2],qP [iP a,iP b]]⟩,[]⟩
theorem out_p(c n:Int):Pure Tryz.prog gs0 18 [AI c,AI32 n] (cellsR (oP c n)):=by
 refine p_ tt_ok Tryz.func18 10 fun w0 h0 F hgs=>?_
 (refine b_ fun bx=>?_;refine t_ fun bl=>?_;refine y_ ?_);refine A.retC (Λ':=[]) rfl rfl rfl rfl rfl (List.nil_sublist _) ⟨?_,rfl⟩;exact s_
theorem in_p20(c:Int):Pure Tryz.prog gs0 19 [AI c] (cellsR (iP c)):=by
 refine p_ tt_ok Tryz.func19 7 fun w0 h0 F hgs=>?_
 (refine b_ fun bx=>?_;refine t_ fun bl=>?_;refine y_ ?_);refine A.retC (Λ':=[]) rfl rfl rfl rfl rfl (List.nil_sublist _) ⟨?_,rfl⟩;exact s_
theorem some_p20(a b:Int):Pure Tryz.prog gs0 16 [AI a,AI b] (encN (someK a b)):=by
 have h1:=out_p 2 1
 have h2:=out_p 3 2
 have h3:=in_p20 a
 have h4:=in_p20 b
 refine p_ tt_ok Tryz.func16 25 fun w0 h0 F hgs=>?_
 (refine b_ fun bx=>?_;refine y_ ?_)
 refine n_ h1 ?_
 refine n_ h2 ?_
 (refine t_ fun bl=>?_;refine b_ fun bx=>?_;refine y_ ?_)
 refine c_ h3 ?_
 refine n_ h4 ?_
 (refine t_ fun bl=>?_;refine b_ fun bx=>?_;refine t_ fun bl=>?_;refine t_ fun bl=>?_;refine t_ fun bl=>?_;refine y_ ?_)
 refine A.retC (Λ':=[]) rfl rfl rfl rfl rfl (List.nil_sublist _) ⟨?_,rfl⟩
 exact s_
theorem some_sm(a b:Int)(ha:i64 a)(hb:i64 b):SmN (someK a b) where
 wf:=⟨by show 1≤_;decide,by show 4≤_;decide,by show 0≤_;decide,by
  unfold i64 at ha hb
  simp [wfR,wfRl,wfGl,wfKl,wfK,wfPl,i32,i64,Go.Tp.u8];try omega⟩
 root:=by simp [smR,smRl,smGl,smK,smKl,smP]
abbrev s32:KN:=someK 3 2
abbrev s23:KN:=someK 2 3
theorem sm32:SmN s32:=some_sm 3 2 (by unfold i64;omega) (by unfold i64;omega)
theorem sm23:SmN s23:=some_sm 2 3 (by unfold i64;omega) (by unfold i64;omega)
theorem no_in: ∀x,x∈([]:List Int)→i32 x:=fun x h=>by cases h
abbrev endS:ST:=⟨[[2]],skipR,[],1⟩
theorem ev1:(reachM s32 [] 10).map List.length=some 1:=by kernel_rfl
theorem ev2:(reachM s32 [] 10).map (stuckM badS)=some (some []):=by kernel_rfl
theorem ev3:(closX s32 [] 5 10).map (fun l=>canT (l.map (·.1)))=some [[]]:=by kernel_rfl
theorem ev4:(reachM s23 [] 10).map List.length=some 3:=by kernel_rfl
theorem ev5:(reachM s23 [] 10).map (stuckM badS)=some none:=by kernel_rfl
theorem ev6:(closX s23 [] 1 10).map (fun l=>canT (l.map (·.1)))=some [[],[(2,1)]]:=by kernel_rfl
theorem ev7:reachM s23 [] 2=none:=by kernel_rfl
theorem ev8:walkM [] (startS s23 []) [0,0,0]=([(2,1),(3,2)],endS):=by kernel_rfl
theorem ck32:checkX s32 0 ((10:Nat):Int)=0:=by kernel_rfl
theorem ck32t:checkX s32 ((5:Nat):Int) ((10:Nat):Int)=0:=by kernel_rfl
theorem ck23:checkX s23 0 ((10:Nat):Int)=0:=by kernel_rfl
theorem ck23t:checkX s23 ((1:Nat):Int) ((10:Nat):Int)=0:=by kernel_rfl
theorem ck232:checkX s23 0 ((2:Nat):Int)=0:=by kernel_rfl
theorem may23:mayK s23=true:=by kernel_rfl
theorem end_sm:smR endS.root:=by simp [smR,smRl,smGl,skipR]
theorem works_p:Pure Tryz.prog gs0 8 [] (AB true):=by
 have k1:=some_p20 3 2
 have k2:=some_p20 2 3
 have h1:Pure Tryz.prog gs0 17 [encN s32,rowA [],AI 10] (.tp [AI 1,AI 0]):=states_val sm32 ck32 no_in (by decide) ev1
 have h2:Pure Tryz.prog gs0 11 [encN s32,rowA [],AI 10] (.tp [trA [],AB true,AI 0]):=stuck_val sm32 ck32 no_in (by decide) ev2
 have h3:Pure Tryz.prog gs0 9 [encN s32,rowA [],AI 5,AI 10] (.tp [tsA [[]],AI 0]):=traces_val sm32 (by decide) ck32t no_in (by decide) ev3
 have h4:Pure Tryz.prog gs0 17 [encN s23,rowA [],AI 10] (.tp [AI 3,AI 0]):=states_val sm23 ck23 no_in (by decide) ev4
 have h5:Pure Tryz.prog gs0 11 [encN s23,rowA [],AI 10] (.tp [trA [],AB false,AI 0]):=stuck_val sm23 ck23 no_in (by decide) ev5
 have h6:Pure Tryz.prog gs0 9 [encN s23,rowA [],AI 1,AI 10] (.tp [tsA [[],[(2,1)]],AI 0]):=traces_val sm23 (by decide) ck23t no_in (by decide) ev6
 have h7:Pure Tryz.prog gs0 17 [encN s23,rowA [],AI 2] (.tp [AI 0,AI 190]):=states_none sm23 ck232 no_in (by decide) ev7
 have h8:=walk_yes s23 sm23 may23 [] no_in (by decide) [0,0,0] (by intro x hx;simp at hx;subst hx;unfold Go.Tp.u8;omega) (by decide)
 rw [show walkM [] (startS s23 []) (([0,0,0]:List Int).map Int.toNat)=([(2,1),(3,2)],endS) from ev8] at h8
 have g1:=lists_p [[]] [[]] (by intro t ht;simp at ht;subst ht;decide) (by intro t ht;simp at ht;subst ht;decide) (by decide)
 rw [decide_eq_true rfl] at g1
 have g2:=lists_p [[],[(2,1)]] [[],[(2,1)]] (by intro t ht;simp at ht;rcases ht with rfl|rfl<;>decide) (by intro t ht;simp at ht;rcases ht with rfl|rfl<;>decide) (by decide)
 rw [decide_eq_true rfl] at g2
 have g3:=rtsame_p [(2,1),(3,2)] [(2,1),(3,2)] (by decide) (by decide)
 rw [decide_eq_true rfl] at g3
 have g4:=sdone_p endS end_sm
 rw [show doneR endS.root=true from by decide+kernel] at g4
 refine p_ tt_ok Tryz.func8 139 fun w0 h0 F hgs=>?_
 refine y_ ?_
 refine n_ k1 ?_
 refine c_ h1 ?_
 refine n_ k1 ?_
 refine c_ h2 ?_
 refine n_ k1 ?_
 refine n_ h3 ?_
 refine t_ fun bl=>?_
 refine c_ g1 ?_
 refine n_ k2 ?_
 refine c_ h4 ?_
 refine n_ k2 ?_
 refine c_ h5 ?_
 refine n_ k2 ?_
 refine c_ h6 ?_
 refine n_ k2 ?_
 refine c_ h7 ?_
 refine n_ k2 ?_
 refine t_ fun bl=>?_
 refine n_ h8 ?_
 (refine b_ fun bx=>?_;refine t_ fun bl=>?_;refine t_ fun bl=>?_)
 refine n_ g2 ?_
 refine t_ fun bl=>?_
 refine c_ g3 ?_
 exact cr_ g4
abbrev withK(p:PR):KN:=⟨[⟨1,0⟩],[1,2,0,0],p,[]⟩
abbrev tK:KN:=withK ⟨7,0,0,0,[⟨0,[]⟩],[],[],[]⟩
abbrev lK:KN:=withK ⟨13,0,0,0,[],[knum 1],[],[oP 1 7]⟩
abbrev rK:KN:=withK (qP [iP 0,iP 0])
abbrev nK:KN:=⟨[],[],⟨0,0,0,0,[],[],[],[]⟩,[]⟩
theorem with_sm(p:PR)(h1:wfR p)(h2:smR p):SmN (withK p) where
 wf:=⟨by show 1≤_;decide,by show 4≤_;decide,by show 0≤_;decide,by
  simp only [withK]
  simpa [i64,Go.Tp.u8] using h1⟩
 root:=h2
theorem smT:SmN tK:=with_sm _ (by simp [wfR,wfRl,wfGl,wfKl,wfK,wfPl,i32,i64,Go.Tp.u8]) (by simp [smR,smRl,smGl,smK,smKl,smP])
theorem smL:SmN lK:=with_sm _ (by simp [wfR,wfRl,wfGl,wfKl,wfK,wfPl,i32,i64,Go.Tp.u8]) (by simp [smR,smRl,smGl,smK,smKl,smP])
theorem smRd:SmN rK:=with_sm _ (by simp [wfR,wfRl,wfGl,wfKl,wfK,wfPl,i32,i64,Go.Tp.u8]) (by simp [smR,smRl,smGl,smK,smKl,smP])
theorem kv1:checkX nK 0 10=2:=by kernel_rfl
theorem kv2:checkX s23 0 0=2:=by kernel_rfl
theorem kv3:checkX s23 0 4097=3:=by kernel_rfl
theorem kv4:checkX s23 (-1) 10=2:=by kernel_rfl
theorem kv5:checkX tK 0 10=8:=by kernel_rfl
theorem kv6:checkX tK 0 4097=3:=by kernel_rfl
abbrev endT:ST:=⟨[[2]],skipR,[],2⟩
theorem kv7:walkM [] (startS tK []) [1,255,0]=([],endT):=by kernel_rfl
theorem mayT:mayK tK=true:=by kernel_rfl
theorem ckl:checkX lK 0 ((4096:Nat):Int)=0:=by kernel_rfl
theorem kv8:(reachM lK [] 4096).map List.length=some 2:=by kernel_rfl
theorem ckl8:checkX lK ((3:Nat):Int) ((8:Nat):Int)=0:=by kernel_rfl
theorem kv9:(closX lK [] 3 8).map (fun l=>canT (l.map (·.1)))=some [[],[(1,7)],[(1,7),(1,7)],[(1,7),(1,7),(1,7)]]:=by kernel_rfl
theorem ckl7:checkX lK ((3:Nat):Int) ((7:Nat):Int)=0:=by kernel_rfl
theorem kv10:closX lK [] 3 7=none:=by kernel_rfl
theorem ckl2:checkX lK 0 ((2:Nat):Int)=0:=by kernel_rfl
theorem kv11:(reachM lK [] 2).map (stuckM badS)=some none:=by kernel_rfl
theorem ckr:checkX rK 0 ((10:Nat):Int)=0:=by kernel_rfl
theorem kv12:(reachM rK [5] 10).map (stuckM badS)=some (some [(0,5)]):=by kernel_rfl
theorem kv13:(reachM rK [5,6,7] 10).map (stuckM badS)=some none:=by kernel_rfl
theorem known_p:Pure Tryz.prog gs0 6 [] (AB true):=by
 have k2:=some_p20 2 3
 have i1: ∀x,x∈([5]:List Int)→i32 x:=by intro x h;simp at h;subst h;unfold i32;omega
 have i3: ∀x,x∈([5,6,7]:List Int)→i32 x:=by intro x h;simp at h;rcases h with rfl|rfl|rfl<;>(unfold i32;omega)
 have h1:=states_no nK zero_sm [] 10 (by rw [kv1];decide)
 rw [kv1] at h1
 have h2:=states_no s23 sm23 [] 0 (by rw [kv2];decide)
 rw [kv2] at h2
 have h3:=states_no s23 sm23 [] 4097 (by rw [kv3];decide)
 rw [kv3] at h3
 have h4:=traces_no s23 sm23 [] (-1) 10 (by rw [kv4];decide)
 rw [kv4] at h4
 have h5:=stuck_no s23 sm23 [] 4097 (by rw [kv3];decide)
 rw [kv3] at h5
 have h6:=states_no tK smT [] 10 (by rw [kv5];decide)
 rw [kv5] at h6
 have h7:=states_no tK smT [] 4097 (by rw [kv6];decide)
 rw [kv6] at h7
 have h8:=walk_yes tK smT mayT [] no_in (by decide) [1,255,0] (by intro x hx;simp at hx;unfold Go.Tp.u8;omega) (by decide)
 rw [show walkM [] (startS tK []) (([1,255,0]:List Int).map Int.toNat)=([],endT) from kv7] at h8
 have h9:Pure Tryz.prog gs0 17 [encN lK,rowA [],AI 4096] (.tp [AI 2,AI 0]):=states_val smL ckl no_in (by decide) kv8
 have h10:Pure Tryz.prog gs0 9 [encN lK,rowA [],AI 3,AI 8] (.tp [tsA [[],[(1,7)],[(1,7),(1,7)],[(1,7),(1,7),(1,7)]],AI 0]):=traces_val smL (by decide) ckl8 no_in (by decide) kv9
 have h11:Pure Tryz.prog gs0 9 [encN lK,rowA [],AI 3,AI 7] (.tp [tsA [],AI 190]):=traces_none smL (by decide) ckl7 no_in (by decide) kv10
 have h12:Pure Tryz.prog gs0 11 [encN lK,rowA [],AI 2] (.tp [trA [],AB false,AI 0]):=stuck_val smL ckl2 no_in (by decide) kv11
 have h13:Pure Tryz.prog gs0 11 [encN rK,rowA [5],AI 10] (.tp [trA [(0,5)],AB true,AI 0]):=stuck_val smRd ckr i1 (by decide) kv12
 have h14:Pure Tryz.prog gs0 11 [encN rK,rowA [5,6,7],AI 10] (.tp [trA [],AB false,AI 0]):=stuck_val smRd ckr i3 (by decide) kv13
 have h15:Pure Tryz.prog gs0 7 [encN s23,rowA [],bytsA []] (.tp [trA [],encST (startS s23 []),AI 0]):=walk_yes s23 sm23 may23 [] no_in (by decide) [] (fun x h=>by cases h) (by decide)
 have h16:=start_yes s23 sm23 may23 [] (by decide)
 have hgd:=start_good may23 sm23.wf sm23.root (inn:=[]) no_in (by decide)
 have h17:=rsame_p (startS s23 []) (startS s23 []) hgd.sms
 rw [sameSt20.2 rfl] at h17
 have g1:=rtsame_p [(0,5)] [(0,5)] (by decide) (by decide)
 rw [decide_eq_true rfl] at g1
 have w1:=works_p
 have o1:=out_p 1 7
 have o2:=in_p20 0
 refine p_ tt_ok Tryz.func6 267 fun w0 h0 F hgs=>?_
 refine y_ ?_
 refine n_ k2 ?_
 refine A.b rfl fun b1=>?_
 refine y_ ?_
 refine c_ h1 ?_
 refine c_ h2 ?_
 refine c_ h3 ?_
 refine c_ h4 ?_
 refine n_ h5 ?_
 (refine b_ fun bx=>?_;refine t_ fun bl=>?_;refine y_ ?_)
 refine c_ h6 ?_
 refine n_ h7 ?_
 refine t_ fun bl=>?_
 refine n_ h8 ?_
 (refine b_ fun bx=>?_;refine y_ ?_)
 refine i_ rfl rfl rfl ?_
 refine j_ rfl rfl rfl ?_
 (refine b_ fun bx=>?_;refine t_ fun bl=>?_)
 refine n_ o1 ?_
 (refine t_ fun bl=>?_;refine y_ ?_)
 refine c_ h9 ?_
 refine c_ h10 ?_
 refine c_ h11 ?_
 refine n_ h12 ?_
 (refine b_ fun bx=>?_;refine y_ ?_)
 refine n_ o2 ?_
 refine n_ o2 ?_
 (refine t_ fun bl=>?_;refine t_ fun bl=>?_)
 refine n_ h13 ?_
 refine t_ fun bl=>?_
 refine n_ h14 ?_
 refine t_ fun bl=>?_
 refine c_ g1 ?_
 refine n_ h15 ?_
 (refine b_ fun bx=>?_;refine y_ ?_)
 refine n_ h16 ?_
 (refine b_ fun bx=>?_;refine y_ ?_)
 refine c_ h17 ?_
 exact cr_ w1
end Go.Proofs.YtpcloejpklkieaaGreat
namespace Go.Proofs.YtpcloejpklkieaaGreat
open Go Go.Tp Go.ChangeShapes Go.WideShapes Go.ChangeAt Go.RowKit
theorem own:ownKnob Tryz.prog.godebug=none:=by kernel_rfl
theorem laidOut:laidOutB Tryz.prog=true:=by kernel_rfl
abbrev bytT(l:List Int):AV:= .sl 1 (l.map AU8) none
section
variable{H:Type}{enc:TypeId×Value→H}{W:World}{base:Nat}{sp:Nat→Bool}{hd:Bool}
abbrev cellsKl(e:KE):List AV:=[AU8 e.kind,AU8 e.oper,AU8 e.to,AI32 e.n,AI e.v, .sl 6 (encKl e.l) none]
abbrev cellsRl(p:PR):List AV:=[AU8 p.kind,AI p.c,AI p.v,AU8 p.item,plsA p.to,kesA p.e,gsA p.gs,rsA p.l]
abbrev cellsGl(g:GD):List AV:=[AU8 g.kind,AU8 g.cond.kind,AU8 g.cond.oper,AU8 g.cond.to,AI32 g.cond.n,AI g.cond.v,kesA g.cond.l,AI g.c,AU8 g.item,AI g.to.v,kesA g.to.ix,AU8 g.time.kind,AU8 g.time.oper,AU8 g.time.to,AI32 g.time.n,AI g.time.v,kesA g.time.l,rsA g.body]
theorem encKl_ag(l:List KE):encKl l=l.map fun e=> .ag (cellsKl e):=by rw [encKl_map];congr 1;funext e;exact encK_eq e
theorem encRl_ag(l:List PR):encRl l=l.map fun e=> .ag (cellsRl e):=by rw [encRl_map];congr 1;funext e;exact encR_eq e
theorem encGl_ag(l:List GD):encGl l=l.map fun e=> .ag (cellsGl e):=by rw [encGl_map];congr 1;funext e;exact encG_eq e
abbrev OkE(e:KE):Prop:=wfK e∧smK e
abbrev OkP(p:PL):Prop:=wfPl p∧smP p
abbrev OkR(p:PR):Prop:=wfR p∧smR p
abbrev OkG(g:GD):Prop:=wfG g∧smG g
theorem okEl_of: ∀{l:List KE},(∀a,a∈l→OkE a)→wfKl l∧smKl l
 | [],_=>by rw [wfKl,smKl];exact ⟨trivial,trivial⟩
 |x::r,h=>by
  have h1:=h x (List.mem_cons_self ..)
  have h2:=okEl_of (l:=r) fun a ha=>h a (List.mem_cons_of_mem _ ha)
  rw [wfKl,smKl];exact ⟨⟨h1.1,h2.1⟩,⟨h1.2,h2.2⟩⟩
theorem okRl_of: ∀{l:List PR},(∀a,a∈l→OkR a)→wfRl l∧smRl l
 | [],_=>by rw [wfRl,smRl];exact ⟨trivial,trivial⟩
 |x::r,h=>by
  have h1:=h x (List.mem_cons_self ..)
  have h2:=okRl_of (l:=r) fun a ha=>h a (List.mem_cons_of_mem _ ha)
  rw [wfRl,smRl];exact ⟨⟨h1.1,h2.1⟩,⟨h1.2,h2.2⟩⟩
theorem okGl_of: ∀{l:List GD},(∀a,a∈l→OkG a)→wfGl l∧smGl l
 | [],_=>by rw [wfGl,smGl];exact ⟨trivial,trivial⟩
 |x::r,h=>by
  have h1:=h x (List.mem_cons_self ..)
  have h2:=okGl_of (l:=r) fun a ha=>h a (List.mem_cons_of_mem _ ha)
  rw [wfGl,smGl];exact ⟨⟨h1.1,h2.1⟩,⟨h1.2,h2.2⟩⟩
theorem op_ke: ∀n,Opn enc Tryz.prog W base sp hd n 65 cellsKl OkE
 |0=>Opn.zero
 |n+1=>by
  have ih:=op_ke n
  have hl:=(Opn.sliceA (t:=27) (sz:=6) (bt:=40) (by kernel_rfl) (by kernel_rfl) (by kernel_rfl) (by decide) ih).mono (Nat.le_succ n)
  have hf:=OpnF.cons (f:=⟨"Kind",62,0,false, "", "",0⟩) (Opn.u8 (by kernel_rfl) n) rfl 1 (by kernel_rfl) (OpnF.cons (f:=⟨"Oper",63,1,false, "", "",1⟩) (Opn.u8 (by kernel_rfl) n) rfl 1 (by kernel_rfl)
   (OpnF.cons (f:=⟨"To",25,2,false, "", "",2⟩) (Opn.u8 (by kernel_rfl) n) rfl 1 (by kernel_rfl) (OpnF.cons (f:=⟨"N",21,3,false, "", "",4⟩) (Opn.i32 (by kernel_rfl) n) rfl 1 (by kernel_rfl)
   (OpnF.cons (f:=⟨"V",3,4,false, "", "",8⟩) (Opn.i64 (by kernel_rfl) n) rfl 1 (by kernel_rfl) (OpnF.cons (f:=⟨"L",27,5,false, "", "",16⟩) hl rfl 1 (by kernel_rfl) OpnF.nil)))))
  refine (Opn.struct (t:=65) (sz:=6) (fs:= #[⟨"Kind",62,0,false, "", "",0⟩,⟨"Oper",63,1,false, "", "",1⟩,⟨"To",25,2,false, "", "",2⟩,⟨"N",21,3,false, "", "",4⟩,⟨"V",3,4,false, "", "",8⟩,⟨"L",27,5,false, "", "",16⟩]) (by kernel_rfl) (by kernel_rfl) hf (by kernel_rfl)).map (fun p=>⟨p.1,p.2.1,p.2.2.1,p.2.2.2.1,p.2.2.2.2.1,p.2.2.2.2.2.1⟩) (fun p=>?_) (fun p hp=>?_)
  ·show cellsKl _=[_]++([_]++([_]++([_]++([_]++([AV.sl 6 _ none]++[])))))
   rw [←encKl_ag];rfl
  ·obtain ⟨k,o,t,n,s,l,u⟩:=p
   obtain ⟨h1,h2,h3,h4,h5,⟨h6,h7⟩,_⟩:=hp
   have h8:=okEl_of h6
   unfold reachBytes at h7
   refine ⟨?_,?_⟩
   ·rw [wfK];exact ⟨⟨h1,h2,h3,h4,h5⟩,h8.1⟩
   ·rw [smK];exact ⟨Nat.le_trans h7 (by decide),h8.2⟩
theorem op_kes(n:Nat):Opn enc Tryz.prog W base sp hd n 27 (fun l:List KE=>[kesA l]) (fun l=>(∀x,x∈l→OkE x)∧l.length*40≤140737488355328):=by
 refine ((Opn.sliceA (t:=27) (sz:=6) (bt:=40) (by kernel_rfl) (by kernel_rfl) (by kernel_rfl) (by decide) (op_ke n)).mono (Nat.le_succ n)).map (fun l=>l) (fun l=>?_) (fun l h=>⟨h.1,by have:=h.2;unfold reachBytes at this;exact Nat.le_trans this (by decide)⟩)
 show [AV.sl 6 (encKl l) none]=_
 rw [encKl_ag]
theorem op_pl(n:Nat):Opn enc Tryz.prog W base sp hd n 61 (fun p:PL=>[AI p.v,kesA p.ix]) OkP:=by
 have hf:=OpnF.cons (f:=⟨"V",3,0,false, "", "",0⟩) (Opn.i64 (enc:=enc) (P:=Tryz.prog) (W:=W) (base:=base) (sp:=sp) (hd:=hd) (by kernel_rfl) n) rfl 1 (by kernel_rfl) (OpnF.cons (f:=⟨"Index",27,1,false, "", "",8⟩) (op_kes n) rfl 1 (by kernel_rfl) OpnF.nil)
 exact ((Opn.struct (t:=61) (sz:=2) (fs:= #[⟨"V",3,0,false, "", "",0⟩,⟨"Index",27,1,false, "", "",8⟩]) (by kernel_rfl) (by kernel_rfl) hf (by kernel_rfl)).mono (Nat.le_succ n)).map (fun p=>⟨p.1,p.2.1⟩) (fun p=>rfl) (fun p hp=>⟨(okEl_of hp.2.1.1).1,hp.2.1.2,fun x hx=>(hp.2.1.1 x hx).2⟩)
theorem op_pls(n:Nat):Opn enc Tryz.prog W base sp hd n 26 (fun l:List PL=>[plsA l]) (fun l=>(∀t,t∈l→OkP t)∧l.length*32≤140737488355328):=
 ((Opn.sliceA (t:=26) (sz:=2) (bt:=32) (by kernel_rfl) (by kernel_rfl) (by kernel_rfl) (by decide) (op_pl n)).mono (Nat.le_succ n)).map (fun l=>l) (fun l=>rfl) (fun l h=>⟨h.1,by have:=h.2;unfold reachBytes at this;exact Nat.le_trans this (by decide)⟩)
theorem op_prs{n:Nat}(ih:Opn enc Tryz.prog W base sp hd n 31 cellsRl OkR):Opn enc Tryz.prog W base sp hd n 29 (fun l:List PR=>[rsA l]) (fun l=>(∀t,t∈l→OkR t)∧l.length*128≤140737488355328):=by
 refine ((Opn.sliceA (t:=29) (sz:=8) (bt:=128) (by kernel_rfl) (by kernel_rfl) (by kernel_rfl) (by decide) ih).mono (Nat.le_succ n)).map (fun l=>l) (fun l=>?_) (fun l h=>⟨h.1,by have:=h.2;unfold reachBytes at this;exact Nat.le_trans this (by decide)⟩)
 show [AV.sl 8 (encRl l) none]=_
 rw [encRl_ag]
theorem op_gd{n:Nat}(ih:Opn enc Tryz.prog W base sp hd n 31 cellsRl OkR):Opn enc Tryz.prog W base sp hd n 153 cellsGl OkG:=by
 have hf:=OpnF.cons (f:=⟨"Kind",151,0,false, "", "",0⟩) (Opn.u8 (enc:=enc) (P:=Tryz.prog) (W:=W) (base:=base) (sp:=sp) (hd:=hd) (by kernel_rfl) n) rfl 1 (by kernel_rfl) (OpnF.cons (f:=⟨"Cond",65,1,false, "", "",8⟩) (op_ke n) rfl 6 (by kernel_rfl)
  (OpnF.cons (f:=⟨"C",3,7,false, "", "",48⟩) (Opn.i64 (by kernel_rfl) n) rfl 1 (by kernel_rfl) (OpnF.cons (f:=⟨"Item",25,8,false, "", "",56⟩) (Opn.u8 (by kernel_rfl) n) rfl 1 (by kernel_rfl)
  (OpnF.cons (f:=⟨"To",61,9,false, "", "",64⟩) (op_pl n) rfl 2 (by kernel_rfl) (OpnF.cons (f:=⟨"Time",65,11,false, "", "",96⟩) (op_ke n) rfl 6 (by kernel_rfl)
  (OpnF.cons (f:=⟨"Body",29,17,false, "", "",136⟩) (op_prs ih) rfl 1 (by kernel_rfl) OpnF.nil))))))
 refine ((Opn.struct (t:=153) (sz:=18) (fs:= #[⟨"Kind",151,0,false, "", "",0⟩,⟨"Cond",65,1,false, "", "",8⟩,⟨"C",3,7,false, "", "",48⟩,⟨"Item",25,8,false, "", "",56⟩,⟨"To",61,9,false, "", "",64⟩,⟨"Time",65,11,false, "", "",96⟩,⟨"Body",29,17,false, "", "",136⟩]) (by kernel_rfl) (by kernel_rfl) hf (by kernel_rfl)).mono (Nat.le_succ n)).map (fun p=>⟨p.1,p.2.1,p.2.2.1,p.2.2.2.1,p.2.2.2.2.1,p.2.2.2.2.2.1,p.2.2.2.2.2.2.1⟩) (fun p=>rfl) (fun p hp=>?_)
 obtain ⟨h1,h2,h3,h4,h5,h6,⟨h7,h8⟩,_⟩:=hp
 have h9:=okRl_of h7
 refine ⟨?_,?_⟩
 ·rw [wfG];exact ⟨⟨h2.1,h6.1,h5.1⟩,h9.1⟩
 ·rw [smG];exact ⟨⟨h2.2,h6.2,h5.2,h8⟩,h9.2⟩
theorem op_gds{n:Nat}(ih:Opn enc Tryz.prog W base sp hd n 31 cellsRl OkR):Opn enc Tryz.prog W base sp hd n 28 (fun l:List GD=>[gsA l]) (fun l=>(∀t,t∈l→OkG t)∧l.length*160≤140737488355328):=by
 refine ((Opn.sliceA (t:=28) (sz:=18) (bt:=160) (by kernel_rfl) (by kernel_rfl) (by kernel_rfl) (by decide) (op_gd ih)).mono (Nat.le_succ n)).map (fun l=>l) (fun l=>?_) (fun l h=>⟨h.1,by have:=h.2;unfold reachBytes at this;exact Nat.le_trans this (by decide)⟩)
 show [AV.sl 18 (encGl l) none]=_
 rw [encGl_ag]
theorem op_pr: ∀n,Opn enc Tryz.prog W base sp hd n 31 cellsRl OkR
 |0=>Opn.zero
 |n+1=>by
  have ih:=op_pr n
  have hf:=OpnF.cons (f:=⟨"Kind",24,0,false, "", "",0⟩) (Opn.u8 (enc:=enc) (P:=Tryz.prog) (W:=W) (base:=base) (sp:=sp) (hd:=hd) (by kernel_rfl) n) rfl 1 (by kernel_rfl) (OpnF.cons (f:=⟨"C",3,1,false, "", "",8⟩) (Opn.i64 (by kernel_rfl) n) rfl 1 (by kernel_rfl)
   (OpnF.cons (f:=⟨"V",3,2,false, "", "",16⟩) (Opn.i64 (by kernel_rfl) n) rfl 1 (by kernel_rfl) (OpnF.cons (f:=⟨"Item",25,3,false, "", "",24⟩) (Opn.u8 (by kernel_rfl) n) rfl 1 (by kernel_rfl)
   (OpnF.cons (f:=⟨"To",26,4,false, "", "",32⟩) (op_pls n) rfl 1 (by kernel_rfl) (OpnF.cons (f:=⟨"E",27,5,false, "", "",56⟩) (op_kes n) rfl 1 (by kernel_rfl)
   (OpnF.cons (f:=⟨"Guards",28,6,false, "", "",80⟩) (op_gds ih) rfl 1 (by kernel_rfl) (OpnF.cons (f:=⟨"L",29,7,false, "", "",104⟩) (op_prs ih) rfl 1 (by kernel_rfl) OpnF.nil)))))))
  refine (Opn.struct (t:=31) (sz:=8) (fs:= #[⟨"Kind",24,0,false, "", "",0⟩,⟨"C",3,1,false, "", "",8⟩,⟨"V",3,2,false, "", "",16⟩,⟨"Item",25,3,false, "", "",24⟩,⟨"To",26,4,false, "", "",32⟩,⟨"E",27,5,false, "", "",56⟩,⟨"Guards",28,6,false, "", "",80⟩,⟨"L",29,7,false, "", "",104⟩]) (by kernel_rfl) (by kernel_rfl) hf (by kernel_rfl)).map (fun p=>⟨p.1,p.2.1,p.2.2.1,p.2.2.2.1,p.2.2.2.2.1,p.2.2.2.2.2.1,p.2.2.2.2.2.2.1,p.2.2.2.2.2.2.2.1⟩) (fun p=>rfl) (fun p hp=>?_)
  obtain ⟨h1,h2,h3,h4,⟨h5,h5'⟩,⟨h6,h6'⟩,⟨h7,h7'⟩,⟨h8,h8'⟩,_⟩:=hp
  have h9:=okRl_of h8
  have h10:=okGl_of h7
  refine ⟨?_,?_⟩
  ·rw [wfR];exact ⟨⟨fun t ht=>(h5 t ht).1,(okEl_of h6).1,by omega,by omega,by omega⟩,h10.1,h9.1⟩
  ·rw [smR];exact ⟨⟨fun t ht=>(h5 t ht).2,fun x hx=>(h6 x hx).2,h5',h6',h7',h8'⟩,h10.2,h9.2⟩
theorem op_vars(n:Nat):Opn enc Tryz.prog W base sp hd n 22 (fun l:List KV=>[varsA l]) (fun l=>l.length≤281474976710656):=by
 have hf:=OpnF.cons (f:=⟨"Kind",25,0,false, "", "",0⟩) (Opn.u8 (enc:=enc) (P:=Tryz.prog) (W:=W) (base:=base) (sp:=sp) (hd:=hd) (by kernel_rfl) n) rfl 1 (by kernel_rfl) (OpnF.cons (f:=⟨"Dim",3,1,false, "", "",8⟩) (Opn.i64 (by kernel_rfl) n) rfl 1 (by kernel_rfl) OpnF.nil)
 have hv:Opn enc Tryz.prog W base sp hd n 107 (fun v:KV=>[AU8 v.kind,AI v.dim]) (fun _=>True):=((Opn.struct (t:=107) (sz:=2) (fs:= #[⟨"Kind",25,0,false, "", "",0⟩,⟨"Dim",3,1,false, "", "",8⟩]) (by kernel_rfl) (by kernel_rfl) hf (by kernel_rfl)).mono (Nat.le_succ n)).map (fun p=>⟨p.1,p.2.1⟩) (fun p=>rfl) (fun p hp=>trivial)
 exact ((Opn.sliceA (t:=22) (sz:=2) (bt:=16) (by kernel_rfl) (by kernel_rfl) (by kernel_rfl) (by decide) hv).mono (Nat.le_succ n)).map (fun l=>l) (fun l=>rfl) (fun l h=>by have:=h.2;unfold reachBytes at this;omega)
theorem op_chans(n:Nat):Opn enc Tryz.prog W base sp hd n 23 (fun l:List Int=>[chsA l]) (fun l=>l.length≤281474976710656):=
 ((Opn.slice1 (t:=23) (e:=108) (bt:=1) (by kernel_rfl) (by kernel_rfl) (by kernel_rfl) (Opn.u8 (by kernel_rfl) n)).mono (Nat.le_succ n)).map (fun l=>l) (fun l=>rfl) (fun l h=>by have:=h.2;unfold reachBytes at this;omega)
theorem op_ints(n:Nat):Opn enc Tryz.prog W base sp hd n 32 (fun l:List Int=>[intsA l]) (fun l=>l.length≤281474976710656):=
 ((Opn.slice1 (t:=32) (e:=3) (bt:=8) (by kernel_rfl) (by kernel_rfl) (by kernel_rfl) (Opn.i64 (by kernel_rfl) n)).mono (Nat.le_succ n)).map (fun l=>l) (fun l=>rfl) (fun l h=>by have:=h.2;unfold reachBytes at this;omega)
abbrev cellsN(k:KN):List AV:=[varsA k.vars,chsA k.chans,AU8 k.root.kind,AI k.root.c,AI k.root.v,AU8 k.root.item,plsA k.root.to,kesA k.root.e,gsA k.root.gs,rsA k.root.l,intsA k.procs]
theorem op_kernel(n:Nat):Opn enc Tryz.prog W base sp hd n 34 cellsN SmN:=by
 have hf:=OpnF.cons (f:=⟨"Vars",22,0,false, "", "",0⟩) (op_vars (enc:=enc) (W:=W) (base:=base) (sp:=sp) (hd:=hd) n) rfl 1 (by kernel_rfl) (OpnF.cons (f:=⟨"Chans",23,1,false, "", "",24⟩) (op_chans n) rfl 1 (by kernel_rfl)
  (OpnF.cons (f:=⟨"Root",31,2,false, "", "",48⟩) (op_pr n) rfl 8 (by kernel_rfl) (OpnF.cons (f:=⟨"Procs",32,10,false, "", "",176⟩) (op_ints n) rfl 1 (by kernel_rfl) OpnF.nil)))
 refine ((Opn.struct (t:=34) (sz:=11) (fs:= #[⟨"Vars",22,0,false, "", "",0⟩,⟨"Chans",23,1,false, "", "",24⟩,⟨"Root",31,2,false, "", "",48⟩,⟨"Procs",32,10,false, "", "",176⟩]) (by kernel_rfl) (by kernel_rfl) hf (by kernel_rfl)).mono (Nat.le_succ n)).map (fun p=>⟨p.1,p.2.1,p.2.2.1,p.2.2.2.1⟩) (fun p=>rfl) (fun p hp=>?_)
 obtain ⟨h1,h2,h3,h4,_⟩:=hp
 exact ⟨⟨h1,h2,h4,h3.1⟩,h3.2⟩
theorem argKern{v:Value}{d:DataW H}{p:List MemPlace}(hval:Value.okWide Tryz.prog W .any base 34 v)(h:DataW.Trod enc Tryz.prog W 0 (fun _=>true) true 34 v d p)(hw:Wt Tryz.prog 34 d):
 ∃k:KN,SmN k∧Rp (hOf W) (encN k) v:=by
 obtain ⟨k,h1,h2⟩:=arg_struct (fs:= #[⟨"Vars",22,0,false, "", "",0⟩,⟨"Chans",23,1,false, "", "",24⟩,⟨"Root",31,2,false, "", "",48⟩,⟨"Procs",32,10,false, "", "",176⟩]) (by kernel_rfl) op_kernel hval h hw
 exact ⟨k,h1,h2⟩
abbrev QR32(l:List Int):Prop:=(∀x,x∈l→i32 x)∧l.length*4≤reachBytes
theorem op_row(n:Nat):Opn enc Tryz.prog W base sp hd (n+1) 35 (fun l=>[rowA l]) QR32:=
 Opn.slice1 (bt:=4) (by kernel_rfl) (by kernel_rfl) (by kernel_rfl) (Opn.i32 (t:=21) (by kernel_rfl) n)
theorem argRow{v:Value}{d:DataW H}{p:List MemPlace}(hval:Value.okWide Tryz.prog W .any base 35 v)(h:DataW.Trod enc Tryz.prog W 0 (fun _=>true) true 35 v d p)(hw:Wt Tryz.prog 35 d):
 ∃l:List Int,((∀x,x∈l→i32 x)∧l.length≤35184372088832)∧Rp (hOf W) (rowA l) v:=by
 obtain ⟨l,⟨h1,h2⟩,h3⟩:=arg_slice (e:=21) (t:=35) (en:=fun l:List Int=>rowA l) (by kernel_rfl) (fun n=>(op_row n).mono (Nat.le_succ n)) hval h hw
 unfold reachBytes at h2
 exact ⟨l,⟨h1,by omega⟩,h3⟩
theorem argBytes{v:Value}{d:DataW H}{p:List MemPlace}(hval:Value.okWide Tryz.prog W .any base 36 v)(h:DataW.Trod enc Tryz.prog W 0 (fun _=>true) true 36 v d p)(hw:Wt Tryz.prog 36 d):
 ∃l:List Int,((∀x,x∈l→Go.Tp.u8 x)∧l.length≤281474976710656)∧Rp (hOf W) (bytT l) v:=by
 obtain ⟨l,⟨h1,h2⟩,h3⟩:=arg_slice (e:=5) (t:=36) (en:=fun l:List Int=>bytT l) (by kernel_rfl) (fun n=>((Opn.slice1 (bt:=1) (by kernel_rfl) (by kernel_rfl) (by kernel_rfl) (Opn.u8 (t:=5) (by kernel_rfl) n)).mono (Nat.le_succ n))) hval h hw
 unfold reachBytes at h2
 exact ⟨l,⟨h1,by omega⟩,h3⟩
theorem argU8{v:Value}{d:DataW H}{p:List MemPlace}(hval:Value.okWide Tryz.prog W .any base 5 v)(h:DataW.Trod enc Tryz.prog W 0 (fun _=>true) true 5 v d p)(hw:Wt Tryz.prog 5 d): ∃n,Go.Tp.u8 n∧Rp (hOf W) (AU8 n) v:=
 arg_int (by kernel_rfl) (fun n=>Opn.u8 (by kernel_rfl) n) hval h hw
end
end Go.Proofs.YtpcloejpklkieaaGreat
