/-
  Texts T18i. Conditions: as each theorem says.
-/
import Derived.Test.YthdgpbgjmbkleaaGreatU7
set_option linter.unusedVariables false
set_option linter.unusedSimpArgs false
set_option maxRecDepth 100000
set_option maxHeartbeats 4000000
namespace Go.Proofs.YthdgpbgjmbkleaaGreat
open Go Go.Tp
theorem turned_p(s:ST)(hl:s.root.l.length≤134217728):Pure Tryz.prog gs0 28 [encST s] (encST (revS s)):=by
 have n1:((encRl s.root.l).length:Int)=s.root.l.length:=by rw [encRl_len]
 refine Pure.of (S:=tt) (fn:=Tryz.f28) (n:=27) tt_ok Tryz.func28 rfl rfl rfl rfl fun w0 h0 F hgs=>?_
 (repeat refine A.s rfl ?_)
 refine A.b rfl fun b1=>?_
 refine A.b rfl fun b2=>?_
 (repeat first|refine A.s rfl ?_|refine A.r rfl rfl ?_|refine A.w rfl rfl ?_|refine A.p rfl ?_|refine A.b rfl fun bx=>?_|refine A.t rfl fun bl=>?_)
 refine A.nilTail 3 8 rfl ?_
 refine A.valE 4 rfl (x':=AI ((s.root.l.length:Nat)-1-(0:Nat))) (ai_eq (by rw [n1,wr64 _ (by omega)];omega)) ?_
 refine A.keep [1,2,3,4] rfl ?_
 refine A.loopP (ι:=Nat×Value) (fun u=>(⟨[(1,ptrA b1),(2,ptrA b2),(3, .sl 8 (encRl (s.root.l.reverse.take u.1)) (some u.2)),(4,AI ((s.root.l.length:Nat)-1-(u.1:Nat)))],[]⟩,[.tail 8 u.2, .box b2 _, .box b1 (encST s)])) (fun u=>u.1≤s.root.l.length) (fun u=>s.root.l.length-u.1) (0, .slice none 0 0) (Nat.zero_le _) rfl fun u hu ih=>?_
 obtain ⟨c,z⟩:=u
 simp only at hu
 (repeat first|refine A.s rfl ?_|refine A.r rfl rfl ?_|refine A.w rfl rfl ?_|refine A.p rfl ?_|refine A.b rfl fun bx=>?_|refine A.t rfl fun bl=>?_)
 refine A.cond rfl (fun hc=>?_) (fun hc=>?_)
 ·have hc':c<s.root.l.length:=by have:=hc;simp only [ge_iff_le,decide_eq_true_eq] at this;omega
  clear hc
  refine Exists.elim (at_exN (l:=s.root.l) (i:=s.root.l.length-1-c) (by omega)) fun x hx=>?_
  have htk:encRl (s.root.l.reverse.take (c+1))=encRl (s.root.l.reverse.take c)++[cellsR x]:=by
   have:s.root.l.reverse[c]? =some x:=by rw [List.getElem?_reverse (by omega)];exact hx
   rw [List.take_add_one,this,encRl_map,encRl_map,List.map_append]
   show _++[encR x]=_
   rw [encR_eq]
  have ei:(((s.root.l.length:Nat):Int)-1-(c:Nat)).toNat=s.root.l.length-1-c:=by omega
  have hlen:(encRl (s.root.l.reverse.take c)).length=c:=by rw [encRl_len,List.length_take,List.length_reverse];omega
  (repeat first|refine A.s rfl ?_|refine A.r rfl rfl ?_|refine A.w rfl rfl ?_|refine A.p rfl ?_|refine A.b rfl fun bx=>?_|refine A.t rfl fun bl=>?_)
  refine A.x rfl (by omega) (by rw [ei];exact encRl_at hx) (encR_eq x) rfl ?_
  (repeat first|refine A.s rfl ?_|refine A.r rfl rfl ?_|refine A.w rfl rfl ?_|refine A.p rfl ?_|refine A.b rfl fun bx=>?_|refine A.t rfl fun bl=>?_)
  refine A.entsEq (Λ':=[.tail ty31.size z, .box b2 _, .box b1 (encST s)]) rfl ?_
  refine A.append rfl rfl rfl rfl rfl rfl rfl rfl rfl rfl rfl rfl rfl rfl (by show ((encRl (s.root.l.reverse.take c)).length+1)*8≤_;rw [hlen];omega) fun z'=>?_
  refine A.valE 22 rfl (x':= .sl 8 (encRl (s.root.l.reverse.take (c+1))) (some z')) (by rw [htk];rfl) ?_
  (repeat first|refine A.s rfl ?_|refine A.r rfl rfl ?_|refine A.w rfl rfl ?_|refine A.p rfl ?_|refine A.b rfl fun bx=>?_|refine A.t rfl fun bl=>?_)
  refine A.valE 4 rfl (x':=AI ((s.root.l.length:Nat)-1-((c+1:Nat):Int))) (ai_eq (by rw [wr64 _ (by omega)];omega)) ?_
  refine A.sub (by repeat (first|exact trivial|refine ⟨⟨_,rfl, .refl⟩,?_⟩)) (ih (c+1,z') (by show c+1≤_;omega) (by show _-(c+1)<_-c;omega))
 have hcn:c=s.root.l.length:=by have:=hc;simp only [ge_iff_le,decide_eq_false_iff_not] at this;omega
 clear hc ih
 have hrv:s.root.l.reverse.take c=s.root.l.reverse:=List.take_of_length_le (by rw [List.length_reverse];omega)
 refine A.valE 3 rfl (x':= .sl 8 (encRl s.root.l.reverse) (some z)) (by rw [hrv]) ?_
 (repeat first|refine A.s rfl ?_|refine A.r rfl rfl ?_|refine A.w rfl rfl ?_|refine A.p rfl ?_|refine A.b rfl fun bx=>?_|refine A.t rfl fun bl=>?_)
 refine A.retC (Λ':=[]) rfl rfl rfl rfl rfl (List.nil_sublist _) ⟨?_,rfl⟩;exact (by repeat (first|exact Sb.refl|exact SbL.refl|refine SbL.cons ?_ ?_|exact Sb.nil|exact Sb.own1|refine Sb.own ?_|refine Sb.ag ?_|refine Sb.tp ?_))
theorem allEq_all{α β:Type}{f:α→β→Bool}{a:List α}{b:List β}{n:Nat}(h:allEq f a b n=true)(i:Nat)(hi:i<n){x:α}{y:β}(hx:a[i]? =some x)(hy:b[i]? =some y):f x y=true:=by
 unfold allEq at h
 have:=List.all_eq_true.1 h i (List.mem_range.2 hi)
 rw [hx,hy] at this;exact this
theorem sameSt_iff{a b:ST}(h:sameStB a b=true):a=b:=by
 unfold sameStB at h
 simp only [Bool.and_eq_true,beq_iff_eq] at h
 obtain ⟨h1,h2,h3,h4⟩:=h
 have hw: ∀x y:List Int,alikeB (· == ·) x y=true→x=y:=fun x y h=>by
  unfold alikeB at h
  simp only [Bool.and_eq_true,decide_eq_true_eq] at h
  obtain ⟨e1,e2⟩:=h
  refine List.ext_getElem e1 fun i p q=>?_
  have:=allEq_all e2 i p (List.getElem?_eq_getElem p) (List.getElem?_eq_getElem q)
  simpa using this
 have e2:=hw _ _ h2
 have e3:a.store=b.store:=by
  unfold sameB alikeB at h3
  simp only [Bool.and_eq_true,decide_eq_true_eq] at h3
  obtain ⟨e1,e2⟩:=h3
  refine List.ext_getElem e1 fun i p q=>?_
  exact hw _ _ (allEq_all e2 i p (List.getElem?_eq_getElem p) (List.getElem?_eq_getElem q))
 have e4:=eqR_iff.1 h4
 obtain ⟨a1,a2,a3,a4⟩:=a
 obtain ⟨b1,b2,b3,b4⟩:=b
 simp only at e2 e3 e4 h1
 rw [e2,e3,e4,h1]
abbrev BAL(l:List Bool):List AV:=l.map AB
theorem turn_sm{k:KN}{s:ST}(h:GoodK k s)(n:Nat):SmS (turnST n s):=by
 unfold turnST turnP
 by_cases hc:s.root.kind=10∧s.root.l.length=n
 ·rw [if_pos hc];exact (rev_good h hc.1).sms
 ·rw [if_neg hc];exact h.sms
theorem root_len{k:KN}{s:ST}(h:GoodK k s):s.root.l.length≤134217728:=by
 have h1:=(okF_sm h.root).2.2
 generalize s.root=p at h1
 obtain ⟨kd,c,v,i,to,e,gs,l⟩:=p
 rw [tgR] at h1;exact h1.1
theorem mv_eq{a b:MV}(h1:a.kind=b.kind)(h2:a.ec=b.ec)(h3:a.ev=b.ev)(h4:a.next=b.next):a=b:=by
 obtain ⟨a1,a2,a3,a4⟩:=a
 obtain ⟨b1,b2,b3,b4⟩:=b
 simp only at h1 h2 h3 h4
 rw [h1,h2,h3,h4]
theorem turned_law(k:KN)(hk:SmN k)(inn:List Int)(hi: ∀x,x∈inn→i32 x)(hil:inn.length≤35184372088832)(pk:List Int)(hp: ∀x,x∈pk→Go.Tp.u8 x)(hpl:pk.length≤281474976710656):Pure Tryz.prog gs0 8 [encN k,rowA inn,bytA pk] (AB true):=by
 obtain ⟨b0,hf,hg⟩:=first_p k hk inn hil
 have n1:((pk.map AU8).length:Int)=pk.length:=by rw [List.length_map]
 cases b0 with
 |false=>
  refine Pure.of (S:=tt) (fn:=Tryz.f8) (n:=163) tt_ok Tryz.func8 rfl rfl rfl rfl fun w0 h0 F hgs=>?_
  (repeat first|refine A.s rfl ?_|refine A.r rfl rfl ?_|refine A.w rfl rfl ?_|refine A.p rfl ?_|refine A.b rfl fun bx=>?_|refine A.t rfl fun bl=>?_)
  refine A.c rfl hf (by repeat (first|exact Sb.refl|exact SbL.refl|refine SbL.cons ?_ ?_|exact Sb.nil|exact Sb.own1|refine Sb.own ?_|refine Sb.ag ?_|refine Sb.tp ?_)) ?_
  ((repeat first|refine A.s rfl ?_|refine A.r rfl rfl ?_|refine A.w rfl rfl ?_|refine A.p rfl ?_|refine A.b rfl fun bx=>?_|refine A.t rfl fun bl=>?_);refine A.c rfl head_p .refl ?_;(repeat first|refine A.s rfl ?_|refine A.r rfl rfl ?_|refine A.w rfl rfl ?_|refine A.p rfl ?_|refine A.b rfl fun bx=>?_|refine A.t rfl fun bl=>?_);refine A.ret1 (Λ':=[]) rfl rfl rfl (List.nil_sublist _) ⟨?_,rfl⟩;exact .refl)
 |true=>
 have hw:=(hg rfl).walk hk hi
 by_cases h40:12<pk.length
 ·refine Pure.of (S:=tt) (fn:=Tryz.f8) (n:=163) tt_ok Tryz.func8 rfl rfl rfl rfl fun w0 h0 F hgs=>?_
  (repeat first|refine A.s rfl ?_|refine A.r rfl rfl ?_|refine A.w rfl rfl ?_|refine A.p rfl ?_|refine A.b rfl fun bx=>?_|refine A.t rfl fun bl=>?_)
  refine A.c rfl hf (by repeat (first|exact Sb.refl|exact SbL.refl|refine SbL.cons ?_ ?_|exact Sb.nil|exact Sb.own1|refine Sb.own ?_|refine Sb.ag ?_|refine Sb.tp ?_)) ?_
  (repeat first|refine A.s rfl ?_|refine A.r rfl rfl ?_|refine A.w rfl rfl ?_|refine A.p rfl ?_|refine A.b rfl fun bx=>?_|refine A.t rfl fun bl=>?_)
  refine A.gT rfl (by rw [n1];show (bif false then true else decide _)=true;simp;omega) ?_
  ((repeat first|refine A.s rfl ?_|refine A.r rfl rfl ?_|refine A.w rfl rfl ?_|refine A.p rfl ?_|refine A.b rfl fun bx=>?_|refine A.t rfl fun bl=>?_);refine A.c rfl head_p .refl ?_;(repeat first|refine A.s rfl ?_|refine A.r rfl rfl ?_|refine A.w rfl rfl ?_|refine A.p rfl ?_|refine A.b rfl fun bx=>?_|refine A.t rfl fun bl=>?_);refine A.ret1 (Λ':=[]) rfl rfl rfl (List.nil_sublist _) ⟨?_,rfl⟩;exact .refl)
 refine Pure.of (S:=tt) (fn:=Tryz.f8) (n:=163) tt_ok Tryz.func8 rfl rfl rfl rfl fun w0 h0 F hgs=>?_
 (repeat refine A.s rfl ?_)
 refine A.b rfl fun b3=>?_
 (repeat first|refine A.s rfl ?_|refine A.r rfl rfl ?_|refine A.w rfl rfl ?_|refine A.p rfl ?_|refine A.b rfl fun bx=>?_|refine A.t rfl fun bl=>?_)
 refine A.c rfl hf (by repeat (first|exact Sb.refl|exact SbL.refl|refine SbL.cons ?_ ?_|exact Sb.nil|exact Sb.own1|refine Sb.own ?_|refine Sb.ag ?_|refine Sb.tp ?_)) ?_
 (repeat refine A.s rfl ?_)
 refine A.b rfl fun b7=>?_
 (repeat first|refine A.s rfl ?_|refine A.r rfl rfl ?_|refine A.w rfl rfl ?_|refine A.p rfl ?_|refine A.b rfl fun bx=>?_|refine A.t rfl fun bl=>?_)
 refine A.gF rfl (by rw [n1];show (bif false then true else decide _)=false;simp;omega) ?_
 (repeat first|refine A.s rfl ?_|refine A.r rfl rfl ?_|refine A.w rfl rfl ?_|refine A.p rfl ?_|refine A.b rfl fun bx=>?_|refine A.t rfl fun bl=>?_)
 refine A.keep [2,3,7,9] rfl ?_
 refine A.loopP (ι:=Nat×ST) (fun u=>(⟨[(2,bytA pk),(3,ptrA b3),(7,ptrA b7),(9,AI (u.1:Nat))],[]⟩,[.box b7 (encST u.2), .box b3 (encN k)])) (fun u=>u.1≤pk.length∧Walk k u.2) (fun u=>pk.length-u.1) (0,startS k inn) ⟨Nat.zero_le _,hw⟩ rfl fun u hu ih=>?_
 obtain ⟨i,s⟩:=u
 obtain ⟨hi1,hws⟩:=hu
 simp only at hi1 hws
 have hml:=moves_len hws.good hws.wt
 have hmp:=moves_pos s
 have hmv:=hws.moves
 have n2:((movsA (movesM s)).length:Int)=((realM s).length:Nat)+1:=by rw [List.length_map];omega
 (repeat first|refine A.s rfl ?_|refine A.r rfl rfl ?_|refine A.w rfl rfl ?_|refine A.p rfl ?_|refine A.b rfl fun bx=>?_|refine A.t rfl fun bl=>?_)
 refine A.cond rfl (fun hc=>?_) (fun hc=>?_)
 ·have hci:i<pk.length:=by have:=hc;simp only [n1,decide_eq_true_eq] at this;omega
  clear hc
  refine Exists.elim (at_exN (l:=pk) (i:=i) hci) fun n hn=>?_
  refine Exists.elim (pick_p (movesM s) n (hp n (List.mem_of_getElem? hn)) (by omega) (by omega)) fun m hm=>?_
  have hws':=hws.step hm.1
  have hpk:=hm.2
  clear hm
  (repeat first|refine A.s rfl ?_|refine A.r rfl rfl ?_|refine A.w rfl rfl ?_|refine A.p rfl ?_|refine A.b rfl fun bx=>?_|refine A.t rfl fun bl=>?_)
  refine A.c rfl hmv .refl ?_
  (repeat first|refine A.s rfl ?_|refine A.r rfl rfl ?_|refine A.w rfl rfl ?_|refine A.p rfl ?_|refine A.b rfl fun bx=>?_|refine A.t rfl fun bl=>?_)
  refine A.gF rfl (by rw [n2,beq_eq_false_iff_ne];omega) ?_
  (repeat first|refine A.s rfl ?_|refine A.r rfl rfl ?_|refine A.w rfl rfl ?_|refine A.p rfl ?_|refine A.b rfl fun bx=>?_|refine A.t rfl fun bl=>?_)
  refine A.x rfl (by omega) (by rw [Int.toNat_natCast];exact map_at hn) rfl rfl ?_
  (repeat first|refine A.s rfl ?_|refine A.r rfl rfl ?_|refine A.w rfl rfl ?_|refine A.p rfl ?_|refine A.b rfl fun bx=>?_|refine A.t rfl fun bl=>?_)
  refine A.c rfl hpk .refl ?_
  (repeat first|refine A.s rfl ?_|refine A.r rfl rfl ?_|refine A.w rfl rfl ?_|refine A.p rfl ?_|refine A.b rfl fun bx=>?_|refine A.t rfl fun bl=>?_)
  refine A.valE 9 rfl (x':=AI ((i+1:Nat):Int)) (inc_eq i (by omega)) ?_
  refine A.sub (by repeat (first|exact trivial|refine ⟨⟨_,rfl, .refl⟩,?_⟩)) (ih (i+1,m.next) ⟨by show i+1≤_;omega,hws'⟩ (by show _-(i+1)<_-i;omega))
 clear hc ih
 (repeat first|refine A.s rfl ?_|refine A.r rfl rfl ?_|refine A.w rfl rfl ?_|refine A.p rfl ?_|refine A.b rfl fun bx=>?_|refine A.t rfl fun bl=>?_)
 by_cases hk10:s.root.kind=10
 case neg=>
  refine A.gT rfl (by rw [bne_iff_ne];exact hk10) ?_
  ((repeat first|refine A.s rfl ?_|refine A.r rfl rfl ?_|refine A.w rfl rfl ?_|refine A.p rfl ?_|refine A.b rfl fun bx=>?_|refine A.t rfl fun bl=>?_);refine A.c rfl head_p .refl ?_;(repeat first|refine A.s rfl ?_|refine A.r rfl rfl ?_|refine A.w rfl rfl ?_|refine A.p rfl ?_|refine A.b rfl fun bx=>?_|refine A.t rfl fun bl=>?_);refine A.ret1 (Λ':=[]) rfl rfl rfl (List.nil_sublist _) ⟨?_,rfl⟩;exact .refl)
 refine A.gF rfl (by rw [hk10];rfl) ?_
 have hgr:=rev_good hws.good hk10
 have hwr:wtR (revS s).root≤8000:=by rw [rev_wt hk10];exact hws.wt
 have hmr:=moves_p k (revS s) hgr hwr
 have htn:=turned_p s (root_len hws.good)
 have hperm:=moves_rev hws.good hk10
 have hlen:(movesM (revS s)).length=(movesM s).length:=by have:=hperm.length_eq;rw [List.length_map] at this;exact this
 have hsz:Pure Tryz.prog gs0 29 [cellsR s.root] (AI (szR s.root:Nat)):=rsz_p hws.good.sms.root (by have:=nf_sz (nf_of hws.good.nf);have:=hws.wt;omega)
 have hszp:=szR_pos s.root
 have n3:((movsA (movesM s)).length:Int)=(movesM s).length:=by rw [List.length_map]
 have n4:((movsA (movesM (revS s))).length:Int)=(movesM (revS s)).length:=by rw [List.length_map]
 have n5:((encRl s.root.l).length:Int)=s.root.l.length:=by rw [encRl_len]
 (repeat first|refine A.s rfl ?_|refine A.r rfl rfl ?_|refine A.w rfl rfl ?_|refine A.p rfl ?_|refine A.b rfl fun bx=>?_|refine A.t rfl fun bl=>?_)
 refine A.c rfl hmv .refl ?_
 (repeat first|refine A.s rfl ?_|refine A.r rfl rfl ?_|refine A.w rfl rfl ?_|refine A.p rfl ?_|refine A.b rfl fun bx=>?_|refine A.t rfl fun bl=>?_)
 refine A.draw 4 [0,1,2,3] noPubs [(2,encST (revS s)),(3, .sl 14 (movsA (movesM (revS s))) none)] (by kernel_rfl) (by kernel_rfl) ?_
 (repeat first|refine WA.s rfl ?_|refine WA.r rfl rfl ?_|refine WA.p rfl ?_)
 refine WA.c rfl rfl htn (.sub .refl) ?_
 (repeat first|refine WA.s rfl ?_|refine WA.r rfl rfl ?_|refine WA.p rfl ?_)
 refine WA.c rfl rfl hmr (.sub .refl) ?_
 refine WA.nil (l:=[]) rfl ?_
 (repeat first|refine A.s rfl ?_|refine A.r rfl rfl ?_|refine A.w rfl rfl ?_|refine A.p rfl ?_|refine A.b rfl fun bx=>?_|refine A.t rfl fun bl=>?_)
 refine A.gF rfl (by rw [n3,n4,hlen];simp) ?_
 (repeat first|refine A.s rfl ?_|refine A.r rfl rfl ?_|refine A.w rfl rfl ?_|refine A.p rfl ?_|refine A.b rfl fun bx=>?_|refine A.t rfl fun bl=>?_)
 refine A.valE 70 rfl (x':=AI ((movesM (revS s)).length:Nat)) (ai_eq n4) ?_
 refine A.make rfl rfl rfl rfl rfl rfl rfl rfl rfl rfl rfl rfl (by omega) ?_ (by omega) fun z=>?_
 ·show ((1:Nat):Int)*_≤_
  omega
 (repeat first|refine A.s rfl ?_|refine A.r rfl rfl ?_|refine A.w rfl rfl ?_|refine A.p rfl ?_|refine A.b rfl fun bx=>?_|refine A.t rfl fun bl=>?_)
 refine A.valE 13 rfl (x':= .ms z 1 (movesM (revS s)).length) (by show AV.ms z 1 _=_;congr 1) ?_
 refine A.keep [3,7,11,12,13,14] rfl ?_
 refine A.entsEq (Λ':=[.row 1 z (BAL (List.replicate (movesM (revS s)).length false)), .box b7 (encST s), .box b3 (encN k)]) (by rw [BAL,List.map_replicate];rfl) ?_
 refine Exists.elim (show∃L,L=s.root.l.length from ⟨_,rfl⟩) fun L hL=>?_
 rw [←hL] at hperm
 refine A.loopP (ι:=Nat×List Bool) (fun w=>(⟨[(3,ptrA b3),(7,ptrA b7),(11, .sl 14 (movsA (movesM s)) none),(12, .sl 14 (movsA (movesM (revS s))) none),(13, .ms z 1 (movesM (revS s)).length),(14,AI (w.1:Nat))],[]⟩,[.row 1 z (BAL w.2), .box b7 (encST s), .box b3 (encN k)])) (fun w=>w.1≤(movesM s).length∧w.2.length=(movesM (revS s)).length∧(leftL (movesM (revS s)) w.2).Perm (((movesM s).map (turnMV L)).drop w.1)) (fun w=>(movesM s).length-w.1) (0,List.replicate (movesM (revS s)).length false) ⟨Nat.zero_le _,List.length_replicate,by show (leftL _ _).Perm (List.drop 0 _);rw [left_none,List.drop_zero];exact hperm⟩ rfl fun w hw0 wh=>?_
 obtain ⟨i,u⟩:=w
 obtain ⟨hi2,hul,hlp⟩:=hw0
 simp only at hi2 hul hlp
 (repeat first|refine A.s rfl ?_|refine A.r rfl rfl ?_|refine A.w rfl rfl ?_|refine A.p rfl ?_|refine A.b rfl fun bx=>?_|refine A.t rfl fun bl=>?_)
 refine A.valE 74 rfl (x':=AI ((movesM s).length:Nat)) (ai_eq n3) ?_
 (repeat first|refine A.s rfl ?_|refine A.r rfl rfl ?_|refine A.w rfl rfl ?_|refine A.p rfl ?_|refine A.b rfl fun bx=>?_|refine A.t rfl fun bl=>?_)
 refine A.cond rfl (fun hc=>?_) (fun hc=>?_)
 ·have hci:i<(movesM s).length:=by simpa using hc
  clear hc
  refine Exists.elim (at_exN (l:=movesM s) (i:=i) hci) fun mi hmi=>?_
  have hgm:=(hws.step (List.mem_of_getElem? hmi)).good
  have htu:=turned_p mi.next (root_len hgm)
  have n6:((encRl mi.next.root.l).length:Int)=mi.next.root.l.length:=by rw [encRl_len]
  have hdr:((movesM s).map (turnMV L)).drop i=turnMV L mi::((movesM s).map (turnMV L)).drop (i+1):=by
   have h1:i<((movesM s).map (turnMV L)).length:=by rw [List.length_map];exact hci
   rw [List.drop_eq_getElem_cons h1]
   congr 1
   have:=map_at (f:=turnMV L) hmi
   rw [List.getElem?_eq_getElem h1] at this
   injection this
  rw [hdr] at hlp
  have hxs:=turn_sm hgm L
  refine Exists.elim (show∃x,x=turnST L mi.next from ⟨_,rfl⟩) fun x hx=>?_
  rw [←hx] at hxs
  have hnu:(revS s).root.kind=10:=hk10
  (repeat first|refine A.s rfl ?_|refine A.r rfl rfl ?_|refine A.w rfl rfl ?_|refine A.p rfl ?_|refine A.b rfl fun bx=>?_|refine A.t rfl fun bl=>?_)
  refine A.x rfl (by omega) (by rw [Int.toNat_natCast];exact map_at hmi) rfl rfl ?_
  (repeat refine A.s rfl ?_)
  refine A.b rfl fun b15=>?_
  (repeat first|refine A.s rfl ?_|refine A.r rfl rfl ?_|refine A.w rfl rfl ?_|refine A.p rfl ?_|refine A.b rfl fun bx=>?_|refine A.t rfl fun bl=>?_)
  refine (Decidable.em (mi.next.root.kind=10)).elim (fun hkm=>?kpos) (fun hkm=>?kneg)
  case' kpos=>
   refine A.gT rfl (by rw [beq_iff_eq];exact hkm) ?_
   (repeat first|refine A.s rfl ?_|refine A.r rfl rfl ?_|refine A.w rfl rfl ?_|refine A.p rfl ?_|refine A.b rfl fun bx=>?_|refine A.t rfl fun bl=>?_)
   by_cases hlm:mi.next.root.l.length=L
   case' pos=>
    have ex:encST (revS mi.next)=encST x:=by rw [hx];unfold turnST turnP;rw [if_pos ⟨hkm,hlm⟩]
    refine A.gT rfl (by show (bif true then (((encRl mi.next.root.l).length:Int)==((encRl s.root.l).length:Int)) else false)=true;rw [n6,n5,hlm,←hL];simp) ?_
    (repeat first|refine A.s rfl ?_|refine A.r rfl rfl ?_|refine A.w rfl rfl ?_|refine A.p rfl ?_|refine A.b rfl fun bx=>?_|refine A.t rfl fun bl=>?_)
    refine A.c rfl htu .refl ?_
    (repeat first|refine A.s rfl ?_|refine A.r rfl rfl ?_|refine A.w rfl rfl ?_|refine A.p rfl ?_|refine A.b rfl fun bx=>?_|refine A.t rfl fun bl=>?_)
    refine A.keep [3,7,11,12,13,14,15,16,17] rfl ?_
    refine A.entsEq (Λ':=[.box b15 (encST x), .row 1 z (BAL u), .box b7 (encST s), .box b3 (encN k)]) (by rw [←ex];rfl) ?_
   case' neg=>
    have ex:encST mi.next=encST x:=by rw [hx];unfold turnST turnP;rw [if_neg (fun h=>hlm h.2)]
    refine A.gF rfl (by show (bif true then (((encRl mi.next.root.l).length:Int)==((encRl s.root.l).length:Int)) else false)=false;rw [n6,n5,←hL];simp;omega) ?_
    (repeat first|refine A.s rfl ?_|refine A.r rfl rfl ?_|refine A.w rfl rfl ?_|refine A.p rfl ?_|refine A.b rfl fun bx=>?_|refine A.t rfl fun bl=>?_)
    refine A.keep [3,7,11,12,13,14,15,16,17] rfl ?_
    refine A.entsEq (Λ':=[.box b15 (encST x), .row 1 z (BAL u), .box b7 (encST s), .box b3 (encN k)]) (by rw [←ex];rfl) ?_
  case' kneg=>
   have ex:encST mi.next=encST x:=by rw [hx];unfold turnST turnP;rw [if_neg (fun h=>hkm h.1)]
   refine A.gF rfl (by rw [beq_eq_false_iff_ne];exact hkm) ?_
   (repeat first|refine A.s rfl ?_|refine A.r rfl rfl ?_|refine A.w rfl rfl ?_|refine A.p rfl ?_|refine A.b rfl fun bx=>?_|refine A.t rfl fun bl=>?_)
   refine A.keep [3,7,11,12,13,14,15,16,17] rfl ?_
   refine A.entsEq (Λ':=[.box b15 (encST x), .row 1 z (BAL u), .box b7 (encST s), .box b3 (encN k)]) (by rw [←ex];rfl) ?_
  all_goals
   clear ex
   refine A.perm (Λ':=[.row 1 z (BAL u), .box b15 (encST x), .box b7 (encST s), .box b3 (encN k)]) (List.Perm.swap _ _ _) ?_
   refine A.loopP (ι:=Nat×Bool×List Bool) (fun w=>(⟨[(3,ptrA b3),(7,ptrA b7),(11, .sl 14 (movsA (movesM s)) none),(12, .sl 14 (movsA (movesM (revS s))) none),(13, .ms z 1 (movesM (revS s)).length),(14,AI (i:Nat)),(15,ptrA b15),(16,AB w.2.1),(17,AI (w.1:Nat))],[]⟩,[.row 1 z (BAL w.2.2), .box b15 (encST x), .box b7 (encST s), .box b3 (encN k)]))
    (fun w=>w.1≤(movesM (revS s)).length∧w.2.2.length=(movesM (revS s)).length∧(w.2.1=false→w.2.2=u∧ ∀j',j'<w.1→ ¬(u[j']? =some false∧(movesM (revS s))[j']? =some (turnMV L mi)))∧(w.2.1=true→(leftL (movesM (revS s)) w.2.2).Perm (((movesM s).map (turnMV L)).drop (i+1)))) (fun w=>(movesM (revS s)).length-w.1) (0,false,u) ⟨Nat.zero_le _,hul,fun _=>⟨rfl,fun j' h=>absurd h (Nat.not_lt_zero _)⟩,fun h=>by cases h⟩ rfl fun w hw1 jh=>?_
   obtain ⟨j,fd,u1⟩:=w
   obtain ⟨hj1,hu1,hjf,hjt⟩:=hw1
   simp only at hj1 hu1 hjf hjt
   (repeat first|refine A.s rfl ?_|refine A.r rfl rfl ?_|refine A.w rfl rfl ?_|refine A.p rfl ?_|refine A.b rfl fun bx=>?_|refine A.t rfl fun bl=>?_)
   refine A.valE 102 rfl (x':=AI ((movesM (revS s)).length:Nat)) (ai_eq n4) ?_
   cases fd with
   |true=>
    have hjt':=hjt rfl
    (repeat first|refine A.s rfl ?_|refine A.r rfl rfl ?_|refine A.w rfl rfl ?_|refine A.p rfl ?_|refine A.b rfl fun bx=>?_|refine A.t rfl fun bl=>?_)
    by_cases hjL:j<(movesM (revS s)).length
    case' pos=>refine A.gT rfl (by rw [decide_eq_true_eq];omega) ?_
    case' neg=>refine A.gF rfl (by rw [decide_eq_false_iff_not];omega) ?_
    all_goals
     (repeat first|refine A.s rfl ?_|refine A.r rfl rfl ?_|refine A.w rfl rfl ?_|refine A.p rfl ?_|refine A.b rfl fun bx=>?_|refine A.t rfl fun bl=>?_)
     refine A.valE 14 rfl (x':=AI ((i+1:Nat):Int)) (inc_eq i (by omega)) ?_
     refine A.less (Λ':=[.row 1 z (BAL u1), .box b7 (encST s), .box b3 (encN k)]) (by repeat (first|exact List.Sublist.refl _|apply List.Sublist.cons_cons|apply List.Sublist.cons)) ?_
     refine A.sub (by repeat (first|exact trivial|refine ⟨⟨_,rfl, .refl⟩,?_⟩)) (wh (i+1,u1) ⟨by show i+1≤_;omega,hu1,hjt'⟩ (by show _-(i+1)<_-i;omega))
   |false=>
    obtain ⟨hue,hj2⟩:=hjf rfl
    by_cases hjL:j<(movesM (revS s)).length
    case neg=>
     exfalso
     obtain ⟨j',h1,h2⟩:=left_mem (hlp.mem_iff.2 (.head _))
     have h3:j'<u.length:=by
      rcases Nat.lt_or_ge j' u.length with h|h
      ·exact h
      ·rw [List.getElem?_eq_none h] at h2;cases h2
     exact hj2 j' (by omega) ⟨h2,h1⟩
    refine A.entsEq (Λ':=[.row 1 z (BAL u), .box b15 (encST x), .box b7 (encST s), .box b3 (encN k)]) (by rw [hue]) ?_
    refine Exists.elim (at_exN (l:=movesM (revS s)) (i:=j) hjL) fun mj hmj=>?_
    refine Exists.elim (at_exN (l:=u) (i:=j) (by omega)) fun bj hbj=>?_
    have nu:(BAL u).length=u.length:=by rw [List.length_map]
    (repeat first|refine A.s rfl ?_|refine A.r rfl rfl ?_|refine A.w rfl rfl ?_|refine A.p rfl ?_|refine A.b rfl fun bx=>?_|refine A.t rfl fun bl=>?_)
    refine A.gT rfl (by rw [decide_eq_true_eq];omega) ?_
    (repeat first|refine A.s rfl ?_|refine A.r rfl rfl ?_|refine A.w rfl rfl ?_|refine A.p rfl ?_|refine A.b rfl fun bx=>?_|refine A.t rfl fun bl=>?_)
    refine A.x rfl (by omega) (by rw [Int.toNat_natCast];exact map_at hmj) rfl rfl ?_
    (repeat refine A.s rfl ?_)
    refine A.b rfl fun b18=>?_
    (repeat first|refine A.s rfl ?_|refine A.r rfl rfl ?_|refine A.w rfl rfl ?_|refine A.p rfl ?_|refine A.b rfl fun bx=>?_|refine A.t rfl fun bl=>?_)
    refine A.entsEq (Λ':=[.box b18 (encST mj.next), .row 1 z (BAL u), .box b15 (encST x), .box b7 (encST s), .box b3 (encN k)]) rfl ?_
    refine A.draw 34 [0,1,2,3,4,5,6,7,8,9,10,11,12,13,14,15,16,17,18,19,20,21,22,23,24,25,26,27,28,29,30,31,32,33] noPubs [] (by kernel_rfl) (by kernel_rfl) ?_
    (repeat first|refine WA.s rfl ?_|refine WA.r rfl rfl ?_|refine WA.p rfl ?_)
    refine WA.indexRow rfl rfl rfl rfl rfl rfl rfl rfl rfl (by omega) (by rw [nu];omega) rfl ?_
    refine WA.loadRow rfl rfl rfl rfl rfl rfl rfl (y':=AB bj) rfl (map_at hbj) rfl rfl ?_
    (repeat first|refine WA.s rfl ?_|refine WA.r rfl rfl ?_|refine WA.p rfl ?_)
    cases bj with
    |true=>
     have hno: ¬(u[j]? =some false∧(movesM (revS s))[j]? =some (turnMV L mi)):=fun h=>by rw [hbj] at h;cases h.1
     refine WA.gF rfl rfl ?_
     (repeat first|refine WA.s rfl ?_|refine WA.r rfl rfl ?_|refine WA.p rfl ?_)
     refine WA.nil (l:=[]) rfl ?_
     (repeat first|refine A.s rfl ?_|refine A.r rfl rfl ?_|refine A.w rfl rfl ?_|refine A.p rfl ?_|refine A.b rfl fun bx=>?_|refine A.t rfl fun bl=>?_)
     refine A.valE 17 rfl (x':=AI ((j+1:Nat):Int)) (inc_eq j (by omega)) ?_
     refine A.less (Λ':=[.row 1 z (BAL u), .box b15 (encST x), .box b7 (encST s), .box b3 (encN k)]) (by repeat (first|exact List.Sublist.refl _|apply List.Sublist.cons_cons|apply List.Sublist.cons)) ?_
     refine A.sub (by repeat (first|exact trivial|refine ⟨⟨_,rfl, .refl⟩,?_⟩)) (jh (j+1,false,u) ⟨by show j+1≤_;omega,hul,fun _=>⟨rfl,fun j' h1 h2=>?_⟩,fun h=>by cases h⟩ (by show _-(j+1)<_-j;omega))
     by_cases hjj:j'=j
     ·subst hjj
      exact hno h2
     ·exact hj2 j' (by omega) h2
    |false=>
     refine WA.gT rfl rfl ?_
     (repeat first|refine WA.s rfl ?_|refine WA.r rfl rfl ?_|refine WA.p rfl ?_)
     refine WA.x rfl (by omega) (by rw [Int.toNat_natCast];exact map_at hmi) rfl rfl ?_
     (repeat first|refine WA.s rfl ?_|refine WA.r rfl rfl ?_|refine WA.p rfl ?_)
     refine WA.x rfl (by omega) (by rw [Int.toNat_natCast];exact map_at hmj) rfl rfl ?_
     (repeat first|refine WA.s rfl ?_|refine WA.r rfl rfl ?_|refine WA.p rfl ?_)
     by_cases hkk:mi.kind=mj.kind
     case neg=>
      have hno: ¬(u[j]? =some false∧(movesM (revS s))[j]? =some (turnMV L mi)):=fun h=>by
       have h1:=h.2
       rw [hmj] at h1;injection h1 with h1
       exact hkk (by rw [h1])
      refine WA.gF rfl (by show (bif true then (mi.kind==mj.kind) else false)=false;simp;exact hkk) ?_
      (repeat first|refine WA.s rfl ?_|refine WA.r rfl rfl ?_|refine WA.p rfl ?_)
      refine WA.nil (l:=[]) rfl ?_
      (repeat first|refine A.s rfl ?_|refine A.r rfl rfl ?_|refine A.w rfl rfl ?_|refine A.p rfl ?_|refine A.b rfl fun bx=>?_|refine A.t rfl fun bl=>?_)
      refine A.valE 17 rfl (x':=AI ((j+1:Nat):Int)) (inc_eq j (by omega)) ?_
      refine A.less (Λ':=[.row 1 z (BAL u), .box b15 (encST x), .box b7 (encST s), .box b3 (encN k)]) (by repeat (first|exact List.Sublist.refl _|apply List.Sublist.cons_cons|apply List.Sublist.cons)) ?_
      refine A.sub (by repeat (first|exact trivial|refine ⟨⟨_,rfl, .refl⟩,?_⟩)) (jh (j+1,false,u) ⟨by show j+1≤_;omega,hul,fun _=>⟨rfl,fun j' h1 h2=>?_⟩,fun h=>by cases h⟩ (by show _-(j+1)<_-j;omega))
      by_cases hjj:j'=j
      ·subst hjj
       exact hno h2
      ·exact hj2 j' (by omega) h2
     refine WA.gT rfl (by show (bif true then (mi.kind==mj.kind) else false)=true;simp;exact hkk) ?_
     (repeat first|refine WA.s rfl ?_|refine WA.r rfl rfl ?_|refine WA.p rfl ?_)
     refine WA.x rfl (by omega) (by rw [Int.toNat_natCast];exact map_at hmi) rfl rfl ?_
     (repeat first|refine WA.s rfl ?_|refine WA.r rfl rfl ?_|refine WA.p rfl ?_)
     refine WA.x rfl (by omega) (by rw [Int.toNat_natCast];exact map_at hmj) rfl rfl ?_
     (repeat first|refine WA.s rfl ?_|refine WA.r rfl rfl ?_|refine WA.p rfl ?_)
     refine WA.eqSt rfl rfl rfl rfl rfl rfl rfl rfl rfl (evSt mi.ec mi.ev mj.ec mj.ev) ?_
     (repeat first|refine WA.s rfl ?_|refine WA.r rfl rfl ?_|refine WA.p rfl ?_)
     by_cases hee:mi.ec=mj.ec∧mi.ev=mj.ev
     case neg=>
      have hno: ¬(u[j]? =some false∧(movesM (revS s))[j]? =some (turnMV L mi)):=fun h=>by
       have h1:=h.2
       rw [hmj] at h1;injection h1 with h1
       exact hee (by rw [h1];exact ⟨rfl,rfl⟩)
      refine WA.gF rfl (by show (bif true then (mi.ec==mj.ec&&mi.ev==mj.ev) else false)=false;simp;exact fun h1 h2=>hee ⟨h1,h2⟩) ?_
      (repeat first|refine WA.s rfl ?_|refine WA.r rfl rfl ?_|refine WA.p rfl ?_)
      refine WA.nil (l:=[]) rfl ?_
      (repeat first|refine A.s rfl ?_|refine A.r rfl rfl ?_|refine A.w rfl rfl ?_|refine A.p rfl ?_|refine A.b rfl fun bx=>?_|refine A.t rfl fun bl=>?_)
      refine A.valE 17 rfl (x':=AI ((j+1:Nat):Int)) (inc_eq j (by omega)) ?_
      refine A.less (Λ':=[.row 1 z (BAL u), .box b15 (encST x), .box b7 (encST s), .box b3 (encN k)]) (by repeat (first|exact List.Sublist.refl _|apply List.Sublist.cons_cons|apply List.Sublist.cons)) ?_
      refine A.sub (by repeat (first|exact trivial|refine ⟨⟨_,rfl, .refl⟩,?_⟩)) (jh (j+1,false,u) ⟨by show j+1≤_;omega,hul,fun _=>⟨rfl,fun j' h1 h2=>?_⟩,fun h=>by cases h⟩ (by show _-(j+1)<_-j;omega))
      by_cases hjj:j'=j
      ·subst hjj
       exact hno h2
      ·exact hj2 j' (by omega) h2
     have hsm:=ssame_p x mj.next hxs
     refine Exists.elim (show∃q,q=sameStB x mj.next from ⟨_,rfl⟩) fun q hq=>?_
     rw [←hq] at hsm
     refine WA.gT rfl (by show (bif true then (mi.ec==mj.ec&&mi.ev==mj.ev) else false)=true;simp;exact hee) ?_
     (repeat first|refine WA.s rfl ?_|refine WA.r rfl rfl ?_|refine WA.p rfl ?_)
     refine WA.nil (l:=[]) rfl ?_
     (repeat first|refine A.s rfl ?_|refine A.r rfl rfl ?_|refine A.w rfl rfl ?_|refine A.p rfl ?_|refine A.b rfl fun bx=>?_|refine A.t rfl fun bl=>?_)
     refine A.c rfl hsm .refl ?_
     cases q with
     |false=>
      have hno: ¬(u[j]? =some false∧(movesM (revS s))[j]? =some (turnMV L mi)):=fun h=>by
       have h1:=h.2
       rw [hmj] at h1;injection h1 with h1
       have h2:mj.next=x:=by rw [h1,hx]
       rw [h2,sameSt_refl] at hq
       cases hq
      (repeat first|refine A.s rfl ?_|refine A.r rfl rfl ?_|refine A.w rfl rfl ?_|refine A.p rfl ?_|refine A.b rfl fun bx=>?_|refine A.t rfl fun bl=>?_)
      refine A.valE 17 rfl (x':=AI ((j+1:Nat):Int)) (inc_eq j (by omega)) ?_
      refine A.less (Λ':=[.row 1 z (BAL u), .box b15 (encST x), .box b7 (encST s), .box b3 (encN k)]) (by repeat (first|exact List.Sublist.refl _|apply List.Sublist.cons_cons|apply List.Sublist.cons)) ?_
      refine A.sub (by repeat (first|exact trivial|refine ⟨⟨_,rfl, .refl⟩,?_⟩)) (jh (j+1,false,u) ⟨by show j+1≤_;omega,hul,fun _=>⟨rfl,fun j' h1 h2=>?_⟩,fun h=>by cases h⟩ (by show _-(j+1)<_-j;omega))
      by_cases hjj:j'=j
      ·subst hjj
       exact hno h2
      ·exact hj2 j' (by omega) h2
     |true=>
      have hxj:=sameSt_iff hq.symm
      have hmm:mj=turnMV L mi:=mv_eq (by show mj.kind=mi.kind;rw [hkk]) (by show mj.ec=mi.ec;rw [hee.1]) (by show mj.ev=mi.ev;rw [hee.2]) (by show mj.next=turnST L mi.next;rw [←hx,hxj])
      rw [hmm] at hmj
      have hlt:=left_take hmj hbj
      have hnew:(leftL (movesM (revS s)) (u.set j true)).Perm (((movesM s).map (turnMV L)).drop (i+1)):=(hlt.symm.trans hlp).cons_inv
      (repeat first|refine A.s rfl ?_|refine A.r rfl rfl ?_|refine A.w rfl rfl ?_|refine A.p rfl ?_|refine A.b rfl fun bx=>?_|refine A.t rfl fun bl=>?_)
      refine A.indexRow rfl rfl rfl rfl rfl rfl rfl rfl (by omega) (by rw [nu];omega) rfl ?_
      refine A.storeRow rfl rfl rfl rfl rfl rfl rfl rfl rfl (by rw [nu];omega) (xs':=BAL (u.set j true)) List.map_set.symm ?_
      (repeat first|refine A.s rfl ?_|refine A.r rfl rfl ?_|refine A.w rfl rfl ?_|refine A.p rfl ?_|refine A.b rfl fun bx=>?_|refine A.t rfl fun bl=>?_)
      refine A.valE 17 rfl (x':=AI ((j+1:Nat):Int)) (inc_eq j (by omega)) ?_
      refine A.less (Λ':=[.row 1 z (BAL (u.set j true)), .box b15 (encST x), .box b7 (encST s), .box b3 (encN k)]) (by repeat (first|exact List.Sublist.refl _|apply List.Sublist.cons_cons|apply List.Sublist.cons)) ?_
      refine A.sub (by repeat (first|exact trivial|refine ⟨⟨_,rfl, .refl⟩,?_⟩)) (jh (j+1,true,u.set j true) ⟨by show j+1≤_;omega,by show (u.set j true).length=_;rw [List.length_set];exact hul,(fun h=>by cases h),fun _=>hnew⟩ (by show _-(j+1)<_-j;omega))
 clear hc wh
 (repeat first|refine A.s rfl ?_|refine A.r rfl rfl ?_|refine A.w rfl rfl ?_|refine A.p rfl ?_|refine A.b rfl fun bx=>?_|refine A.t rfl fun bl=>?_)
 refine A.c rfl hsz .refl ?_
 (repeat first|refine A.s rfl ?_|refine A.r rfl rfl ?_|refine A.w rfl rfl ?_|refine A.p rfl ?_|refine A.b rfl fun bx=>?_|refine A.t rfl fun bl=>?_)
 refine A.gT rfl (by rw [decide_eq_true_eq];omega) ?_
 ((repeat first|refine A.s rfl ?_|refine A.r rfl rfl ?_|refine A.w rfl rfl ?_|refine A.p rfl ?_|refine A.b rfl fun bx=>?_|refine A.t rfl fun bl=>?_);refine A.c rfl head_p .refl ?_;(repeat first|refine A.s rfl ?_|refine A.r rfl rfl ?_|refine A.w rfl rfl ?_|refine A.p rfl ?_|refine A.b rfl fun bx=>?_|refine A.t rfl fun bl=>?_);refine A.ret1 (Λ':=[]) rfl rfl rfl (List.nil_sublist _) ⟨?_,rfl⟩;exact .refl)
end Go.Proofs.YthdgpbgjmbkleaaGreat
