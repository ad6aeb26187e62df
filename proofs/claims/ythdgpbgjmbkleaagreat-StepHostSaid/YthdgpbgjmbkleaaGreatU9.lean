/-
  Texts T18h. Conditions: as each theorem says.
-/
import Derived.Test.YthdgpbgjmbkleaaGreatU3
import Derived.Test.YthdgpbgjmbkleaaGreatU7
set_option linter.unusedVariables false
set_option linter.unusedSimpArgs false
set_option maxRecDepth 100000
set_option maxHeartbeats 4000000
namespace Go.Proofs.YthdgpbgjmbkleaaGreat
open Go Go.Tp
theorem put_differs{s:List (List Int)}{v i x:Int}{a b:Nat}{r r':List Int}{y y':Int}(hr:s[a]? =some r)(hy:r[b]? =some y)(hr':(putM s v i x)[a]? =some r')(hy':r'[b]? =some y')(hne:y'≠y):a=v.toNat∧b=i.toNat∧y'=x:=by
 unfold putM at hr'
 split at hr'
 ·split at hr'
  ·rename_i q hq
   rw [List.getElem?_set] at hr'
   by_cases h:v.toNat=a
   ·subst h
    rw [hr] at hq;injection hq with hq;subst hq
    have h1:v.toNat<s.length:=by
     rcases Nat.lt_or_ge v.toNat s.length with h|h
     ·exact h
     ·rw [List.getElem?_eq_none h] at hr;cases hr
    rw [if_pos rfl,if_pos h1] at hr'
    injection hr' with hr';subst hr'
    rw [List.getElem?_set] at hy'
    by_cases h2:i.toNat=b
    ·subst h2
     have h3:i.toNat<r.length:=by
      rcases Nat.lt_or_ge i.toNat r.length with h|h
      ·exact h
      ·rw [List.getElem?_eq_none h] at hy;cases hy
     rw [if_pos rfl,if_pos h3] at hy'
     injection hy' with hy'
     exact ⟨rfl,rfl,hy'.symm⟩
    ·rw [if_neg h2,hy] at hy'
     injection hy' with hy'
     exact absurd hy'.symm hne
   ·rw [if_neg h,hr] at hr'
    injection hr' with hr';subst hr'
    rw [hy] at hy';injection hy' with hy'
    exact absurd hy'.symm hne
  ·rw [hr] at hr';injection hr' with hr';subst hr'
   rw [hy] at hy';injection hy' with hy'
   exact absurd hy'.symm hne
 ·rw [hr] at hr';injection hr' with hr';subst hr'
  rw [hy] at hy';injection hy' with hy'
  exact absurd hy'.symm hne
structure DifQ(s:ST)(m:MV)(Q:Nat→Nat→Int→Prop):Prop where
 zero:Q 0 0 0
 same: ∀a b d,Q a b d→ ∀r r' y,s.store[a]? =some r→r[b]? =some y→m.next.store[a]? =some r'→r'[b]? =some y→Q a (b+1) d
 diff: ∀a b d,Q a b d→ ∀r r' y y',s.store[a]? =some r→r[b]? =some y→m.next.store[a]? =some r'→r'[b]? =some y'→y'≠y→Q a (b+1) (IntKind.i64.wrap (d+1))∧(m.kind=2→y'=m.ev)
 row: ∀a b d,Q a b d→Q (a+1) 0 d
 last: ∀a d,Q a 0 d→m.kind=2→d≤1∧(m.ec=1→d≤0)
theorem dif_put{s:ST}{m:MV}{v i:Int}(hs:m.next.store=putM s.store v i m.ev)(h1:m.ec≠1): ∃Q,DifQ s m Q:=by
 refine ⟨fun a b d=>0≤d∧d≤1∧((a<v.toNat∨(a=v.toNat∧b≤i.toNat))→d=0),?_,?_,?_,?_,?_⟩
 ·exact ⟨by omega,by omega,fun _=>rfl⟩
 ·intro a b d h _ _ _ _ _ _ _
  exact ⟨h.1,h.2.1,fun h'=>h.2.2 (by omega)⟩
 ·intro a b d h r r' y y' e1 e2 e3 e4 hne
  rw [hs] at e3
  obtain ⟨q1,q2,q3⟩:=put_differs e1 e2 e3 e4 hne
  have hd:d=0:=h.2.2 (by omega)
  subst hd
  rw [show IntKind.i64.wrap ((0:Int)+1)=1 from by decide]
  exact ⟨⟨by omega,by omega,fun h'=>by omega⟩,fun _=>q3⟩
 ·intro a b d h
  exact ⟨h.1,h.2.1,fun h'=>h.2.2 (by omega)⟩
 ·intro a d h hk
  exact ⟨h.2.1,fun h'=>absurd h' h1⟩
theorem dif_of{s:ST}{m:MV}(h:HostK s m): ∃Q,DifQ s m Q:=by
 cases h with
 |quiet hk hi=>exact ⟨fun _ _ _=>True,trivial,fun _ _ _ _ _ _ _ _ _ _ _=>trivial,fun _ _ _ _ _ _ _ _ _ _ _ _ _=>⟨trivial,fun h=>absurd h hk⟩,fun _ _ _ _=>trivial,fun _ _ _ h=>absurd h hk⟩
 |heard hk hc hi v i hs=>exact dif_put hs (by omega)
 |inside hk h0 h1 hi v i hs=>exact dif_put hs h1
 |told hk hc hi hs=>
  refine ⟨fun _ _ d=>d=0,rfl,fun _ _ d h _ _ _ _ _ _ _=>h,fun a b d h r r' y y' e1 e2 e3 e4 hne=>?_,fun _ _ d h=>h,fun _ d h _=>⟨by omega,fun _=>by omega⟩⟩
  rw [hs,e1] at e3;injection e3 with e3;subst e3
  rw [e2] at e4;injection e4 with e4
  exact absurd e4.symm hne
theorem heard_of{s:ST}{m:MV}(h:HostK s m){inn:List Int}{got:Nat}(hg:got≤inn.length)(he:s.inn=inn.drop got):
 (m.kind=2∧m.ec=0∧inn[got]? =some m.ev∧m.next.inn=inn.drop (got+1))∨(¬(m.kind=2∧m.ec=0)∧m.next.inn=inn.drop got):=by
 cases h with
 |quiet hk hi=>exact .inr ⟨fun h=>hk h.1,by rw [hi,he]⟩
 |told hk hc hi hs=>exact .inr ⟨fun h=>by omega,by rw [hi,he]⟩
 |inside hk h0 h1 hi v i hs=>exact .inr ⟨fun h=>h0 h.2,by rw [hi,he]⟩
 |heard hk hc hi v i hs=>
  rw [he] at hi
  refine .inl ⟨hk,hc,?_,?_⟩
  ·have:=congrArg List.head? hi
   rw [List.head?_drop] at this;exact this
  ·have:=congrArg List.tail hi
   rw [List.tail_drop] at this;exact this.symm
theorem words_of{a b:List Int}(h:a=b)(hb:b.length≤281474976710656):Pure Tryz.prog gs0 26 [rowA a,rowA b] (AB true):=by
 subst h
 have:=lwords_p a a hb
 rw [show wordsB a a=true from alike_self (fun x=>by simp) _] at this
 exact this
theorem shape_eq{k:KN}{s t:ST}(hs:GoodK k s)(ht:GoodK k t):t.store.length=s.store.length∧ ∀(a:Nat) (r r':List Int),s.store[a]? =some r→t.store[a]? =some r'→r'.length=r.length:=by
 obtain ⟨_,a1,a2,_⟩:=may_parts hs.store
 obtain ⟨_,b1,b2,_⟩:=may_parts ht.store
 refine ⟨by omega,fun a r r' h1 h2=>?_⟩
 have hl:a<k.vars.length:=by
  rw [←a1]
  rcases Nat.lt_or_ge a s.store.length with h|h
  ·exact h
  ·rw [List.getElem?_eq_none h] at h1;cases h1
 obtain ⟨v,hv⟩:=at_exN (l:=k.vars) (i:=a) hl
 have:=a2 a v r hv h1
 have:=b2 a v r' hv h2
 omega
theorem host_law(k:KN)(hk:SmN k)(inn:List Int)(hi: ∀x,x∈inn→i32 x)(hil:inn.length≤35184372088832)(pk:List Int)(hp: ∀x,x∈pk→Go.Tp.u8 x)(hpl:pk.length≤281474976710656):Pure Tryz.prog gs0 7 [encN k,rowA inn,bytA pk] (AB true):=by
 obtain ⟨b0,hf,hg⟩:=first_p k hk inn hil
 have n1:((pk.map AU8).length:Int)=pk.length:=by rw [List.length_map]
 have n0:((inn.map AI32).length:Int)=inn.length:=by rw [List.length_map]
 cases b0 with
 |false=>
  refine p_ tt_ok Tryz.func7 162 fun w0 h0 F hgs=>?_
  (refine b_ fun bx=>?_;refine y_ ?_)
  refine n_ hf ?_
  ((refine b_ fun bx=>?_;refine y_ ?_);exact cr_ head_p)
 |true=>
 have hw:=(hg rfl).walk hk hi
 by_cases h40:40<pk.length
 ·refine p_ tt_ok Tryz.func7 162 fun w0 h0 F hgs=>?_
  (refine b_ fun bx=>?_;refine y_ ?_)
  refine n_ hf ?_
  (refine b_ fun bx=>?_;refine y_ ?_)
  refine A.gT rfl (by rw [n1];show (bif false then true else decide _)=true;simp;omega) ?_
  (refine y_ ?_;exact cr_ head_p)
 refine p_ tt_ok Tryz.func7 162 fun w0 h0 F hgs=>?_
 refine y_ ?_
 refine A.b rfl fun b3=>?_
 refine y_ ?_
 refine c_ hf ?_
 refine A.b rfl fun b7=>?_
 refine y_ ?_
 refine F_ rfl (by rw [n1];show (bif false then true else decide _)=false;simp;omega) ?_
 refine A.keep [1,2,3,7,9,10] rfl ?_
 refine A.loopP (ι:=Nat×Nat×ST) (fun u=>(⟨[(1,rowA inn),(2,bytA pk),(3,ptrA b3),(7,ptrA b7),(9,AI (u.2.1:Nat)),(10,AI (u.1:Nat))],[]⟩,[.box b7 (encST u.2.2), .box b3 (encN k)])) (fun u=>u.1≤pk.length∧Walk k u.2.2∧u.2.1≤inn.length∧u.2.2.inn=inn.drop u.2.1) (fun u=>pk.length-u.1) (0,0,startS k inn) ⟨Nat.zero_le _,hw,Nat.zero_le _,rfl⟩ rfl fun u hu ih=>?_
 obtain ⟨i,got,s⟩:=u
 obtain ⟨hi1,hws,hgot,hin⟩:=hu
 simp only at hi1 hws hgot hin
 refine y_ ?_
 refine k_ (fun hc=>?_) fun hc=>?_
 ·have hci:i<pk.length:=by have:=hc;simp only [n1,decide_eq_true_eq] at this;omega
  clear hc
  refine Exists.elim (at_exN (l:=pk) (i:=i) hci) fun n hn=>?_
  have hml:=moves_len hws.good hws.wt
  have hmp:=moves_pos s
  have hmv:=hws.moves
  have n2:((movsA (movesM s)).length:Int)=((realM s).length:Nat)+1:=by rw [List.length_map];omega
  refine Exists.elim (pick_p (movesM s) n (hp n (List.mem_of_getElem? hn)) (by omega) (by omega)) fun m hm=>?_
  have hws':=hws.step hm.1
  have hho:=host_move hws.good m hm.1
  have hpk:=hm.2
  clear hm
  have hmb:=rMay_pN k.vars k.chans k.root k.procs m.next.store hk.wf.vars hws'.good.short
  rw [hws'.good.store] at hmb
  have hshp:=shape_eq hws.good hws'.good
  have hst:=mayB_short hws.good.store
  refine Exists.elim (dif_of hho) fun Q hQ=>?_
  have ns:((s.store.map rowA).length:Int)=s.store.length:=by rw [List.length_map]
  refine y_ ?_
  refine c_ hmv ?_
  refine F_ rfl (by rw [n2,beq_eq_false_iff_ne];omega) ?_
  refine i_ rfl (map_at hn) rfl ?_
  refine n_ hpk ?_
  refine A.b rfl fun b12=>?_
  refine y_ ?_
  refine c_ hmb ?_
  refine A.keep [1,2,3,7,9,10,12,13,14] rfl ?_
  refine A.entsEq (Λ':=[.box b12 (encMV m), .box b7 (encST s), .box b3 (encN k)]) rfl ?_
  refine A.loopP (ι:=Nat×Int) (fun w=>(⟨[(1,rowA inn),(2,bytA pk),(3,ptrA b3),(7,ptrA b7),(9,AI (got:Nat)),(10,AI (i:Nat)),(12,ptrA b12),(13,AI w.2),(14,AI (w.1:Nat))],[]⟩,[.box b12 (encMV m), .box b7 (encST s), .box b3 (encN k)])) (fun w=>w.1≤s.store.length∧Q w.1 0 w.2) (fun w=>s.store.length-w.1) (0,0) ⟨Nat.zero_le _,hQ.zero⟩ rfl fun w hw0 wh=>?_
  obtain ⟨a,d0⟩:=w
  obtain ⟨ha,hqa⟩:=hw0
  simp only at ha hqa
  refine y_ ?_
  refine k_ (fun hc=>?_) fun hc=>?_
  ·have hca:a<s.store.length:=by have:=hc;simp only [ns,decide_eq_true_eq] at this;omega
   clear hc
   refine Exists.elim (at_exN (l:=s.store) (i:=a) hca) fun r hr=>?_
   refine Exists.elim (at_exN (l:=m.next.store) (i:=a) (by omega)) fun r' hr'=>?_
   have hrl:=hshp.2 a r r' hr hr'
   have hr64:=hst.2 r (List.mem_of_getElem? hr)
   have nr:((r.map AI32).length:Int)=r.length:=by rw [List.length_map]
   refine y_ ?_
   refine A.keep [1,2,3,7,9,10,12,13,14,15] rfl ?_
   refine A.loopP (ι:=Nat×Int) (fun w=>(⟨[(1,rowA inn),(2,bytA pk),(3,ptrA b3),(7,ptrA b7),(9,AI (got:Nat)),(10,AI (i:Nat)),(12,ptrA b12),(13,AI w.2),(14,AI (a:Nat)),(15,AI (w.1:Nat))],[]⟩,[.box b12 (encMV m), .box b7 (encST s), .box b3 (encN k)])) (fun w=>w.1≤r.length∧Q a w.1 w.2) (fun w=>r.length-w.1) (0,d0) ⟨Nat.zero_le _,hqa⟩ rfl fun w hw0 vh=>?_
   obtain ⟨b,d⟩:=w
   obtain ⟨hb,hqb⟩:=hw0
   simp only at hb hqb
   refine y_ ?_
   refine i_ rfl (map_at hr) rfl ?_
   refine k_ (fun hc=>?_) fun hc=>?_
   ·have hcb:b<r.length:=by have:=hc;simp only [nr,decide_eq_true_eq] at this;omega
    clear hc
    refine Exists.elim (at_exN (l:=r) (i:=b) hcb) fun y hy=>?_
    refine Exists.elim (at_exN (l:=r') (i:=b) (by omega)) fun y' hy'=>?_
    refine y_ ?_
    refine d_ 17 [0,1,2,3,4,5,6,7,8,9,10,11,12,13,14,15,16] [] ?_
    refine iw_ rfl (map_at hr') rfl ?_
    refine iw_ rfl (map_at hy') rfl ?_
    refine iw_ rfl (map_at hr) rfl ?_
    refine iw_ rfl (map_at hy) rfl ?_
    refine z_ ?_
    by_cases hne:y'=y
    ·refine A.gF rfl (by rw [hne];simp) ?_
     have hq2:=hQ.same a b d hqb r r' y hr hy hr' (by rw [←hne];exact hy')
     refine y_ ?_
     refine A.valE 15 rfl (x':=AI ((b+1:Nat):Int)) (inc_eq b (by omega)) ?_
     refine u_ (vh (b+1,d) ⟨by show b+1≤_;omega,hq2⟩ (by show _-(b+1)<_-b;omega))
    ·refine A.gT rfl (by rw [bne_iff_ne];exact hne) ?_
     have hq2:=hQ.diff a b d hqb r r' y y' hr hy hr' hy' hne
     refine y_ ?_
     refine d_ 16 [0,1,2,3,4,5,6,7,8,9,10,11,12,13,14,15] [] ?_
     by_cases hk2:m.kind=2
     ·refine WA.gT rfl (by rw [beq_iff_eq];exact hk2) ?_
      have hev:=hq2.2 hk2
      refine w_ ?_
      refine iw_ rfl (map_at hr') rfl ?_
      refine iw_ rfl (map_at hy') rfl ?_
      refine z_ ?_
      refine F_ rfl (by show (bif true then (y' !=m.ev) else false)=false;rw [hev];simp) ?_
      refine A.valE 15 rfl (x':=AI ((b+1:Nat):Int)) (inc_eq b (by omega)) ?_
      refine u_ (vh (b+1,IntKind.i64.wrap (d+1)) ⟨by show b+1≤_;omega,hq2.1⟩ (by show _-(b+1)<_-b;omega))
     ·refine Fw_ rfl (by rw [beq_eq_false_iff_ne];exact hk2) ?_
      refine z_ ?_
      refine A.valE 15 rfl (x':=AI ((b+1:Nat):Int)) (inc_eq b (by omega)) ?_
      refine u_ (vh (b+1,IntKind.i64.wrap (d+1)) ⟨by show b+1≤_;omega,hq2.1⟩ (by show _-(b+1)<_-b;omega))
   clear hc vh
   refine y_ ?_
   refine A.valE 14 rfl (x':=AI ((a+1:Nat):Int)) (inc_eq a (by omega)) ?_
   refine u_ (wh (a+1,d) ⟨by show a+1≤_;omega,hQ.row a b d hqb⟩ (by show _-(a+1)<_-a;omega))
  clear hc wh
  have hlast:=hQ.last a d0 hqa
  clear hqa
  rcases heard_of hho hgot hin with ⟨hk2,hc0,hev,hnx⟩|⟨hno,hnx⟩
  ·have hl2:=(hlast hk2).1
   have hgl:got<inn.length:=by
    rcases Nat.lt_or_ge got inn.length with h|h
    ·exact h
    ·rw [List.getElem?_eq_none h] at hev;cases hev
   refine Exists.elim (show∃g,g=got+1 from ⟨_,rfl⟩) fun got' hgg=>?_
   rw [←hgg] at hnx
   have hgot':got'≤inn.length:=by omega
   have hwd:=words_of hnx (by rw [List.length_drop];omega)
   have egg:AV.v (.int .i64 (IntKind.i64.wrap ((got:Int)+1)))=AI (got':Nat):=by rw [hgg];exact inc_eq got (by omega)
   refine y_ ?_
   refine T_ rfl (by rw [beq_iff_eq];exact hk2) ?_
   refine F_ rfl (by rw [decide_eq_false_iff_not];omega) ?_
   refine F_ rfl (by rw [beq_eq_false_iff_ne];omega) ?_
   refine T_ rfl (by rw [beq_iff_eq];exact hk2) ?_
   refine T_ rfl (by show (bif true then (m.ec==0) else false)=true;rw [hc0];rfl) ?_
   refine d_ 12 [0,1,2,3,4,5,6,7,8,9,10,11] [] ?_
   refine Fw_ rfl (by rw [n0,decide_eq_false_iff_not];omega) ?_
   refine iw_ rfl (map_at hev) rfl ?_
   refine z_ ?_
   refine F_ rfl (by show (bif false then true else (m.ev !=m.ev))=false;simp) ?_
   refine A.valE 9 rfl (x':=AI (got':Nat)) egg ?_
   refine d_ 6 [0,1,2,3,4,5] [] ?_
   refine WA.slice (ys:=(inn.drop got').map AI32) rfl rfl rfl rfl rfl rfl rfl rfl rfl rfl (by omega) (by omega) (Int.le_refl _) (by rw [n0,Int.toNat_natCast,Int.toNat_natCast,←List.map_drop,←List.map_take];congr 1;exact List.take_of_length_le (by rw [List.length_drop];exact Nat.le_refl _)) rfl ?_
   refine WA.nil (l:=[]) rfl ?_
   refine c_ hwd ?_
   refine A.valE 10 rfl (x':=AI ((i+1:Nat):Int)) (inc_eq i (by omega)) ?_
   refine l_ (Λ':=[.box b7 (encST m.next), .box b3 (encN k)]) ?_
   refine u_ (ih (i+1,got',m.next) ⟨by show i+1≤_;omega,hws',hgot',hnx⟩ (by show _-(i+1)<_-i;omega))
  ·refine Exists.elim (show∃g,g=got from ⟨_,rfl⟩) fun got' hgg=>?_
   subst hgg
   have hgot':got'≤inn.length:=hgot
   have hwd:=words_of hnx (by rw [List.length_drop];omega)
   by_cases hk2:m.kind=2
   ·have hc0:m.ec≠0:=fun h=>hno ⟨hk2,h⟩
    have hl2:=(hlast hk2).1
    refine y_ ?_
    refine T_ rfl (by rw [beq_iff_eq];exact hk2) ?_
    refine F_ rfl (by rw [decide_eq_false_iff_not];omega) ?_
    by_cases hc1:m.ec=1
    case' pos=>
     have hl3:=(hlast hk2).2 hc1
     refine T_ rfl (by rw [beq_iff_eq];exact hc1) ?_
     refine A.gF rfl (by show (bif true then (bif false then true else bif true then decide (0<d0) else false) else false)=false;simp;omega) ?_
    case' neg=>refine A.gF rfl (by rw [beq_eq_false_iff_ne];exact hc1) ?_
    all_goals
     refine y_ ?_
     refine T_ rfl (by rw [beq_iff_eq];exact hk2) ?_
     refine F_ rfl (by show (bif true then (m.ec==0) else false)=false;simp;exact hc0) ?_
     refine d_ 6 [0,1,2,3,4,5] [] ?_
     refine WA.slice (ys:=(inn.drop got').map AI32) rfl rfl rfl rfl rfl rfl rfl rfl rfl rfl (by omega) (by omega) (Int.le_refl _) (by rw [n0,Int.toNat_natCast,Int.toNat_natCast,←List.map_drop,←List.map_take];congr 1;exact List.take_of_length_le (by rw [List.length_drop];exact Nat.le_refl _)) rfl ?_
     refine WA.nil (l:=[]) rfl ?_
     refine c_ hwd ?_
     refine A.valE 10 rfl (x':=AI ((i+1:Nat):Int)) (inc_eq i (by omega)) ?_
     refine l_ (Λ':=[.box b7 (encST m.next), .box b3 (encN k)]) ?_
     refine u_ (ih (i+1,got',m.next) ⟨by show i+1≤_;omega,hws',hgot',hnx⟩ (by show _-(i+1)<_-i;omega))
   ·refine y_ ?_
    refine F_ rfl (by rw [beq_eq_false_iff_ne];exact hk2) ?_
    refine F_ rfl (by rw [beq_eq_false_iff_ne];exact hk2) ?_
    refine d_ 6 [0,1,2,3,4,5] [] ?_
    refine WA.slice (ys:=(inn.drop got').map AI32) rfl rfl rfl rfl rfl rfl rfl rfl rfl rfl (by omega) (by omega) (Int.le_refl _) (by rw [n0,Int.toNat_natCast,Int.toNat_natCast,←List.map_drop,←List.map_take];congr 1;exact List.take_of_length_le (by rw [List.length_drop];exact Nat.le_refl _)) rfl ?_
    refine WA.nil (l:=[]) rfl ?_
    refine c_ hwd ?_
    refine A.valE 10 rfl (x':=AI ((i+1:Nat):Int)) (inc_eq i (by omega)) ?_
    refine l_ (Λ':=[.box b7 (encST m.next), .box b3 (encN k)]) ?_
    refine u_ (ih (i+1,got',m.next) ⟨by show i+1≤_;omega,hws',hgot',hnx⟩ (by show _-(i+1)<_-i;omega))
 clear hc ih
 (refine y_ ?_;exact cr_ head_p)
end Go.Proofs.YthdgpbgjmbkleaaGreat
