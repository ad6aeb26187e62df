/-
  Texts Q19v Q19b Q19c Q19d Q19e Q19f Q19g Q19h Q19i T18d Q19j Q19k Q19n Q19p. Conditions: as each theorem says.
-/
import Derived.Test.YtkbolbpojpmicaaGreatWd3
import Derived.Test.YtkbolbpojpmicaaGreatWd6
import Derived.Test.YtkbolbpojpmicaaGreatWd5
set_option linter.unusedVariables false
set_option linter.unusedSimpArgs false
set_option maxRecDepth 100000
set_option maxHeartbeats 4000000
namespace Go.Proofs.YtkbolbpojpmicaaGreat
open Go Go.Tp
structure Bel(l:List Int)(c:Int)(i:Nat):Prop where
 le:i<=l.length
 lt: ∀j y,j<i->l[j]? =some y->y<c
theorem ins19_at{c:Int}: ∀{l:List Int} {i:Nat},Bel l c i->(∀y,l[i]? =some y->c<=y)->insS ltI l c=if l[i]? =some c then l else l.take i++[c]++l.drop i
 | [],0,_,_=>by simp [insS]
 | [],i+1,h,_=>by have:=h.le;simp at this
 |y::r,0,_,h=>by
  have:=h y rfl
  rw [insS,show ltI y c=false by simp [ltI];omega]
  by_cases e:y=c
  ·simp [e]
  ·simp [e]
 |y::r,i+1,hb,h=>by
  have h1:=hb.lt 0 y (by omega) rfl
  have ih:=ins19_at (l:=r) (i:=i) ⟨by have:=hb.le;simpa using this,fun j z hj hz=>hb.lt (j+1) z (by omega) (by simpa using hz)⟩ (fun z hz=>h z (by simpa using hz))
  rw [insS,if_pos (show ltI y c=true by simpa [ltI] using h1),ih]
  by_cases e:r[i]? =some c
  ·simp [e]
  ·simp [e]
theorem Bel.next{l:List Int}{c y:Int}{i:Nat}(h:Bel l c i)(hy:l[i]? =some y)(hl:y<c):Bel l c (i+1):=by
 have hi:i<l.length:=(List.getElem?_eq_some_iff.1 hy).1
 refine ⟨hi,fun j z hj hz=>?_⟩
 by_cases e:j=i
 ·subst e;rw [hy] at hz;injection hz with hz;subst hz;exact hl
 ·exact h.lt j z (by omega) hz
structure Ins where
 i:Nat
 d:Bool
 out:List Int
 z:Value
theorem rins_p(l:List Int)(c:Int)(hl:l.length<=2097152):Pure Tryz.prog gs0 56 [intsA l,AI c] (intsA (insS ltI l c)):=by
 have nl:((l.map AI).length:Int)=l.length:=by rw [List.length_map]
 refine Exists.elim (show∃R,R=insS ltI l c from ⟨_,rfl⟩) fun R hR=>?_
 rw [<-hR]
 have hRl:R.length<=l.length+1:=by rw [hR];exact insS19_len l c
 refine p_ tt_ok Tryz.func56 48 fun w0 h0 F hgs=>?_
 refine y_ ?_
 refine A.emptyRow 5 1 rfl fun z0=>?_
 refine A.keep [0,1,5,6,7] rfl ?_
 refine A.loopP (ι:=Ins) (fun u=>(⟨[(0,intsA l),(1,AI c),(5, .ms u.z 1 u.out.length),(6,AB u.d),(7,AI (u.i:Nat))],[]⟩,[.row 1 u.z (u.out.map AI)])) (fun u=>u.i<=l.length/\if u.d=true then u.out++l.drop u.i=R else Bel l c u.i/\u.out=l.take u.i) (fun u=>l.length-u.i) ⟨0,false,[],z0⟩ ⟨Nat.zero_le _,by show (if false=true then _ else Bel l c 0/\([]:List Int)=l.take 0);rw [if_neg (by decide)];exact ⟨⟨Nat.zero_le _,fun j y hj=>absurd hj (Nat.not_lt_zero _)⟩,rfl⟩⟩ rfl fun u hu ih=>?_
 obtain ⟨i,d,out,z⟩:=u
 obtain ⟨hi,hu⟩:=hu
 simp only at hi hu
 have hol:out.length<=l.length+1:=by
  cases d with
  |true=>
   rw [if_pos rfl] at hu
   have:=congrArg List.length hu
   rw [List.length_append] at this
   omega
  |false=>
   rw [if_neg (by decide)] at hu
   rw [hu.2,List.length_take];omega
 have no:(out.map AI).length=out.length:=List.length_map ..
 refine y_ ?_
 by_cases hci:i<l.length
 ·refine Exists.elim (at_exN (l:=l) (i:=i) hci) fun y hy=>?_
  have hdr:=drop_at hy
  have htk:=takeN hy
  refine A.gT rfl (by show decide ((i:Int)<((l.map AI).length:Int))=true;rw [nl,decide_eq_true_eq];omega) ?_
  cases d with
  |true=>
   rw [if_pos rfl] at hu
   refine y_ ?_
   refine j_ rfl (map_at hy) rfl ?_
   refine t_ fun bl=>?_
   refine A.appendRowE rfl rfl rfl rfl rfl rfl rfl rfl rfl rfl rfl rfl rfl rfl (by show ((out.map AI).length+1)*1<=_;rw [no];omega) (by show ((out.map AI).length+1)*1*8<=_;rw [no];omega) fun z2=>?_
   refine y_ ?_
   refine A.valE 7 rfl (x':=AI ((i+1:Nat):Int)) (inc_eq i (by omega)) ?_
   refine A.valE 5 rfl (x':= .ms z2 1 (out++[y]).length) (by rw [List.length_append,List.length_map];rfl) ?_
   refine A.entsEq (Λ':=[.row 1 z2 ((out++[y]).map AI)]) (by rw [List.map_append];rfl) ?_
   refine u_ (ih ⟨i+1,true,out++[y],z2⟩ ⟨by show i+1<=_;omega,by rw [if_pos rfl,List.append_assoc];rw [hdr] at hu;exact hu⟩ (by show _-(i+1)<_-i;omega))
  |false=>
   rw [if_neg (by decide)] at hu
   obtain ⟨hb,ho⟩:=hu
   have hat:c<=y->R=if y=c then l else l.take i++[c]++l.drop i:=fun h=>by
    rw [hR,ins19_at hb (fun y' h'=>by rw [hy] at h';injection h' with h';omega),hy]
    by_cases e:y=c
    ·rw [if_pos (by rw [e]),if_pos e]
    ·rw [if_neg (fun h'=>e (by injection h')),if_neg e]
   refine y_ ?_
   refine i_ rfl (map_at hy) rfl ?_
   by_cases hcy:c<=y
   ·have hat:=hat hcy
    refine e_ 23 rfl (x':=AB true) (ab_eq (by simpa using hcy)) ?_
    refine i_ rfl (map_at hy) rfl ?_
    by_cases hlt:c<y
    ·rw [if_neg (by omega)] at hat
     refine A.gT rfl (by simpa using hlt) ?_
     refine t_ fun bl=>?_
     refine A.appendRowE rfl rfl rfl rfl rfl rfl rfl rfl rfl rfl rfl rfl rfl rfl (by show ((out.map AI).length+1)*1<=_;rw [no];omega) (by show ((out.map AI).length+1)*1*8<=_;rw [no];omega) fun z2=>?_
     refine y_ ?_
     refine j_ rfl (map_at hy) rfl ?_
     refine t_ fun bl=>?_
     refine A.appendRowE rfl rfl rfl rfl rfl rfl rfl rfl rfl rfl rfl rfl rfl rfl (by show ((out.map AI++[AI c]).length+1)*1<=_;rw [List.length_append,no];show (_+1+1)*1<=_;omega) (by show ((out.map AI++[AI c]).length+1)*1*8<=_;rw [List.length_append,no];show (_+1+1)*1*8<=_;omega) fun z3=>?_
     refine y_ ?_
     refine A.valE 7 rfl (x':=AI ((i+1:Nat):Int)) (inc_eq i (by omega)) ?_
     refine A.valE 5 rfl (x':= .ms z3 1 (out++[c]++[y]).length) (by rw [show (out++[c]++[y]).length=out.length+1+1 by simp];show AV.ms z3 1 ((out.map AI++[AI c]).length+1)=_;rw [List.length_append,List.length_map];rfl) ?_
     refine A.entsEq (Λ':=[.row 1 z3 ((out++[c]++[y]).map AI)]) (by rw [List.map_append,List.map_append];rfl) ?_
     refine u_ (ih ⟨i+1,true,out++[c]++[y],z3⟩ ⟨by show i+1<=_;omega,by rw [if_pos rfl,hat,ho,hdr,List.append_assoc];rfl⟩ (by show _-(i+1)<_-i;omega))
    ·rw [if_pos (by omega)] at hat
     refine F_ rfl (by simpa using hlt) ?_
     refine j_ rfl (map_at hy) rfl ?_
     refine t_ fun bl=>?_
     refine A.appendRowE rfl rfl rfl rfl rfl rfl rfl rfl rfl rfl rfl rfl rfl rfl (by show ((out.map AI).length+1)*1<=_;rw [no];omega) (by show ((out.map AI).length+1)*1*8<=_;rw [no];omega) fun z2=>?_
     refine y_ ?_
     refine A.valE 7 rfl (x':=AI ((i+1:Nat):Int)) (inc_eq i (by omega)) ?_
     refine A.valE 5 rfl (x':= .ms z2 1 (out++[y]).length) (by rw [List.length_append,List.length_map];rfl) ?_
     refine A.entsEq (Λ':=[.row 1 z2 ((out++[y]).map AI)]) (by rw [List.map_append];rfl) ?_
     refine u_ (ih ⟨i+1,true,out++[y],z2⟩ ⟨by show i+1<=_;omega,by rw [if_pos rfl,hat,ho,<-htk,List.take_append_drop]⟩ (by show _-(i+1)<_-i;omega))
   ·refine e_ 23 rfl (x':=AB false) (ab_eq (by simpa using hcy)) ?_
    refine j_ rfl (map_at hy) rfl ?_
    refine t_ fun bl=>?_
    refine A.appendRowE rfl rfl rfl rfl rfl rfl rfl rfl rfl rfl rfl rfl rfl rfl (by show ((out.map AI).length+1)*1<=_;rw [no];omega) (by show ((out.map AI).length+1)*1*8<=_;rw [no];omega) fun z2=>?_
    refine y_ ?_
    refine A.valE 7 rfl (x':=AI ((i+1:Nat):Int)) (inc_eq i (by omega)) ?_
    refine A.valE 5 rfl (x':= .ms z2 1 (out++[y]).length) (by rw [List.length_append,List.length_map];rfl) ?_
    refine A.entsEq (Λ':=[.row 1 z2 ((out++[y]).map AI)]) (by rw [List.map_append];rfl) ?_
    refine u_ (ih ⟨i+1,false,out++[y],z2⟩ ⟨by show i+1<=_;omega,by show (if false=true then _ else Bel l c (i+1)/\out++[y]=l.take (i+1));rw [if_neg (by decide)];exact ⟨hb.next hy (by omega),by rw [ho,htk]⟩⟩ (by show _-(i+1)<_-i;omega))
 ·refine A.gF rfl (by show decide ((i:Int)<((l.map AI).length:Int))=false;rw [nl,decide_eq_false_iff_not];omega) ?_
  clear ih
  cases d with
  |true=>
   rw [if_pos rfl,List.drop_eq_nil_of_le (by omega),List.append_nil] at hu
   refine A.entsEq (Λ':=[.row 1 z (R.map AI)]) (by rw [hu]) ?_
   refine A.valE 5 rfl (x':= .ms z 1 R.length) (by rw [hu]) ?_
   refine A.freezeRow 5 rfl ?_
   exact yr_
  |false=>
   rw [if_neg (by decide)] at hu
   obtain ⟨hb,ho⟩:=hu
   have hR2:R=out++[c]:=by
    rw [hR,ins19_at hb (fun y' h'=>by rw [List.getElem?_eq_none (by omega)] at h';cases h'),if_neg (by rw [List.getElem?_eq_none (by omega)];intro h;cases h),List.drop_eq_nil_of_le (by omega),List.append_nil,ho]
   refine t_ fun bl=>?_
   refine A.appendRowE rfl rfl rfl rfl rfl rfl rfl rfl rfl rfl rfl rfl rfl rfl (by show ((out.map AI).length+1)*1<=_;rw [no];omega) (by show ((out.map AI).length+1)*1*8<=_;rw [no];omega) fun z2=>?_
   refine A.entsEq (Λ':=[.row 1 z2 (R.map AI)]) (by rw [hR2,List.map_append];rfl) ?_
   refine A.valE 46 rfl (x':= .ms z2 1 R.length) (by rw [hR2,List.length_append,List.length_map];rfl) ?_
   refine A.freezeRow 46 rfl ?_
   exact yr_
theorem asc19(l:List Int):AscL ltI (canI l):=asc_insAll ord_int List.Pairwise.nil
theorem mem19{l:List Int}{x:Int}:x∈canI l↔x∈l:=by unfold canI;rw [mem_insAll];simp
theorem can_join(X Y:List Int):insAll ltI (canI X) (canI Y)=canI (X++Y):=
 asc_eq ord_int (asc_insAll ord_int (asc19 X)) (asc19 _) fun z=>by rw [mem_insAll,mem19,mem19,mem19,List.mem_append]
theorem can_one(X:List Int)(c:Int):insS ltI (canI X) c=canI (X++[c]):=by
 unfold canI
 rw [insAll_append];rfl
theorem ins_next{l m:List Int}{j:Nat}{c:Int}(h:m[j]? =some c):insAll ltI l (m.take (j+1))=insS ltI (insAll ltI l (m.take j)) c:=by
 rw [takeN h,insAll_append];rfl
theorem can_len(l:List Int):(canI l).length<=l.length:=by
 have:=insAll19_len (lt:=ltI) l []
 simpa [canI] using this
abbrev RChC(p:PR):Prop:=Pure Tryz.prog gs0 22 [cellsR p] (intsA (chansM p))
theorem rchans_f(p:PR)(hs:SmR p)(hb:(rawC p).length<=1048576)(hl: ∀x,x∈p.l->RChC x)(hg: ∀g,g∈p.gs-> ∀x,x∈g.body->RChC x):RChC p:=by
 have n1:((encRl p.l).length:Int)=p.l.length:=by rw [encRl_len]
 have n2:((encGl p.gs).length:Int)=p.gs.length:=by rw [encGl_len]
 have hl8:=hs.ll
 have hg8:=hs.gl
 refine Exists.elim (show∃own,own=(if p.kind=5\/p.kind=6 then [p.c] else []) from ⟨_,rfl⟩) fun own hown=>?_
 have hrl:=rawC_eq p
 rw [<-hown] at hrl
 have hlen:own.length+((rawCl p.l).length+(rawCg p.gs).length)<=1048576:=by
  rw [hrl,List.length_append,List.length_append] at hb;exact hb
 have hz0:=rins_p [] p.c (by decide)
 show Pure _ _ _ _ _
 refine p_ tt_ok Tryz.func22 94 fun w0 h0 F hgs=>?_
 (repeat refine A.s rfl ?_)
 refine A.b rfl fun b1=>?_
 refine y_ ?_
 refine A.val 3 rfl (x':=intsA []) .nil ?_
 by_cases h5:p.kind=5
 ·rw [if_pos (.inl h5)] at hown
  rw [show insS ltI [] p.c=canI own by rw [hown];rfl] at hz0
  refine e_ 15 rfl (x':=AB true) (ab_eq (by simpa using h5)) ?_
  refine c_ hz0 ?_
  refine A.keep [1,3,4] rfl ?_
  refine A.loopP (ι:=Nat) (fun i=>(⟨[(1,ptrA b1),(3,intsA (canI (own++rawCl (p.l.take i)))),(4,AI (i:Nat))],[]⟩,[.box b1 (cellsR p)])) (fun i=>i<=p.l.length) (fun i=>p.l.length-i) 0 (Nat.zero_le _) (by rw [List.take_zero,rawCl,List.append_nil];rfl) fun i hi ih=>?_
  refine y_ ?_
  by_cases hci:i<p.l.length
  ·refine Exists.elim (at_exN (l:=p.l) (i:=i) hci) fun x hx=>?_
   have hch:=hl x (List.mem_of_getElem? hx)
   refine Exists.elim (show∃X,X=own++rawCl (p.l.take i) from ⟨_,rfl⟩) fun X hX=>?_
   have hnx:insAll ltI (canI X) (chansM x)=canI (own++rawCl (p.l.take (i+1))):=by
    unfold chansM
    rw [can_join,rawCl_take hx,hX,List.append_assoc]
   have hXl:X.length+(rawC x).length<=1048576:=by
    have h1:=rawCl_pre p.l (i+1)
    rw [rawCl_take hx,List.length_append] at h1
    rw [hX,List.length_append]
    omega
   have nm:(((chansM x).map AI).length:Int)=(chansM x).length:=by rw [List.length_map]
   have hcx:=chans_len x
   refine T_ rfl (by show decide ((i:Int)<((encRl p.l).length:Int))=true;rw [n1,decide_eq_true_eq];omega) ?_
   refine i_ rfl (encRl_at hx) (encR_eq x) ?_
   refine c_ hch ?_
   refine A.valE 3 rfl (x':=intsA (canI X)) (by rw [hX]) ?_
   refine A.keep [1,3,4,5,6] rfl ?_
   refine A.loopP (ι:=Nat) (fun j=>(⟨[(1,ptrA b1),(3,intsA (insAll ltI (canI X) ((chansM x).take j))),(4,AI (i:Nat)),(5,intsA (chansM x)),(6,AI (j:Nat))],[]⟩,[.box b1 (cellsR p)])) (fun j=>j<=(chansM x).length) (fun j=>(chansM x).length-j) 0 (Nat.zero_le _) rfl fun j hj jh=>?_
   refine y_ ?_
   by_cases hcj:j<(chansM x).length
   ·refine Exists.elim (at_exN (l:=chansM x) (i:=j) hcj) fun c hc=>?_
    have hins:=rins_p (insAll ltI (canI X) ((chansM x).take j)) c (by
     have h1:=insAll19_len (lt:=ltI) ((chansM x).take j) (canI X)
     have h2:=can_len X
     have h3:=chans_len x
     rw [List.length_take] at h1
     omega)
    rw [<-ins_next hc] at hins
    refine T_ rfl (by show decide ((j:Int)<(((chansM x).map AI).length:Int))=true;rw [nm,decide_eq_true_eq];omega) ?_
    refine i_ rfl (map_at hc) rfl ?_
    refine c_ hins ?_
    refine A.valE 6 rfl (x':=AI ((j+1:Nat):Int)) (inc_eq j (by omega)) ?_
    refine u_ (jh (j+1) (by omega) (by omega))
   ·refine A.gF rfl (by show decide ((j:Int)<(((chansM x).map AI).length:Int))=false;rw [nm,decide_eq_false_iff_not];omega) ?_
    clear jh
    refine e_ 3 rfl (x':=intsA (canI (own++rawCl (p.l.take (i+1))))) (by rw [List.take_of_length_le (by omega),hnx]) ?_
    refine A.valE 4 rfl (x':=AI ((i+1:Nat):Int)) (inc_eq i (by omega)) ?_
    refine u_ (ih (i+1) (by omega) (by omega))
  refine A.gF rfl (by show decide ((i:Int)<((encRl p.l).length:Int))=false;rw [n1,decide_eq_false_iff_not];omega) ?_
  clear ih
  refine e_ 3 rfl (x':=intsA (canI (own++(rawCl p.l++rawCg (p.gs.take 0))))) (by rw [List.take_of_length_le (by omega),List.take_zero,rawCg,List.append_nil]) ?_
  refine A.keep [1,3,7] rfl ?_
  refine A.loopP (ι:=Nat) (fun n=>(⟨[(1,ptrA b1),(3,intsA (canI (own++(rawCl p.l++rawCg (p.gs.take n))))),(7,AI (n:Nat))],[]⟩,[.box b1 (cellsR p)])) (fun n=>n<=p.gs.length) (fun n=>p.gs.length-n) 0 (Nat.zero_le _) rfl fun n hn gh=>?_
  refine y_ ?_
  by_cases hcn:n<p.gs.length
  ·refine Exists.elim (at_exN (l:=p.gs) (i:=n) hcn) fun g hgn=>?_
   have hgm:=List.mem_of_getElem? hgn
   have nb:((encRl g.body).length:Int)=g.body.length:=by rw [encRl_len]
   have hgr:=rawCg_pre p.gs (n+1)
   rw [rawCg_take hgn,List.length_append,List.length_append] at hgr
   have hgl:g.body.length<=140737488355328:=by
    have:=(smG_all (hs.g g hgm)).bb;omega
   refine Exists.elim (show∃Z,Z=own++(rawCl p.l++rawCg (p.gs.take n)) from ⟨_,rfl⟩) fun Z hZ=>?_
   have hZl:Z.length+((if g.kind=3 then [g.c] else []).length+(rawCl g.body).length)<=1048576:=by
    rw [hZ,List.length_append,List.length_append]
    omega
   refine A.valE 3 rfl (x':=intsA (canI Z)) (by rw [hZ]) ?_
   refine T_ rfl (by show decide ((n:Int)<((encGl p.gs).length:Int))=true;rw [n2,decide_eq_true_eq];omega) ?_
   refine j_ rfl (encGl_at hgn) (encG_eq g) ?_
   (repeat refine A.s rfl ?_)
   refine A.b rfl fun b8=>?_
   refine y_ ?_
   by_cases h3:g.kind=3
   ·rw [if_pos h3] at hZl
    have hins:=rins_p (canI Z) g.c (by have:=can_len Z;omega)
    rw [can_one] at hins
    refine Exists.elim (show∃Y0,Y0=Z++[g.c] from ⟨_,rfl⟩) fun Y0 hY0=>?_
    have hY0l:Y0.length+(rawCl g.body).length<=1048576:=by rw [hY0,List.length_append];show _+1+_<=_;have:([g.c]:List Int).length=1:=rfl;omega
    have hY0e:Y0++rawCl g.body=own++(rawCl p.l++rawCg (p.gs.take (n+1))):=by
     rw [rawCg_take hgn,if_pos h3,hY0,hZ];simp only [List.append_assoc]
    rw [<-hY0] at hins
    refine T_ rfl (by show (g.kind==3)=true;simpa using h3) ?_
    refine c_ hins ?_
    refine A.keep [1,3,7,8,9] rfl ?_
    refine A.loopP (ι:=Nat) (fun k=>(⟨[(1,ptrA b1),(3,intsA (canI (Y0++rawCl (g.body.take k)))),(7,AI (n:Nat)),(8,ptrA b8),(9,AI (k:Nat))],[]⟩,[.box b8 (cellsG g), .box b1 (cellsR p)])) (fun k=>k<=g.body.length) (fun k=>g.body.length-k) 0 (Nat.zero_le _) (by rw [List.take_zero,rawCl,List.append_nil];rfl) fun k hk kh=>?_
    refine y_ ?_
    by_cases hck:k<g.body.length
    ·refine Exists.elim (at_exN (l:=g.body) (i:=k) hck) fun x hx=>?_
     have hch:=hg g hgm x (List.mem_of_getElem? hx)
     refine Exists.elim (show∃X,X=Y0++rawCl (g.body.take k) from ⟨_,rfl⟩) fun X hX=>?_
     have hnx:insAll ltI (canI X) (chansM x)=canI (Y0++rawCl (g.body.take (k+1))):=by
      unfold chansM
      rw [can_join,rawCl_take hx,hX,List.append_assoc]
     have hXl:X.length+(rawC x).length<=1048576:=by
      have h1:=rawCl_pre g.body (k+1)
      rw [rawCl_take hx,List.length_append] at h1
      rw [hX,List.length_append]
      omega
     have nm:(((chansM x).map AI).length:Int)=(chansM x).length:=by rw [List.length_map]
     have hcx:=chans_len x
     refine T_ rfl (by show decide ((k:Int)<((encRl g.body).length:Int))=true;rw [nb,decide_eq_true_eq];omega) ?_
     refine i_ rfl (encRl_at hx) (encR_eq x) ?_
     refine c_ hch ?_
     refine A.valE 3 rfl (x':=intsA (canI X)) (by rw [hX]) ?_
     refine A.keep [1,3,7,8,9,10,11] rfl ?_
     refine A.loopP (ι:=Nat) (fun j=>(⟨[(1,ptrA b1),(3,intsA (insAll ltI (canI X) ((chansM x).take j))),(7,AI (n:Nat)),(8,ptrA b8),(9,AI (k:Nat)),(10,intsA (chansM x)),(11,AI (j:Nat))],[]⟩,[.box b8 (cellsG g), .box b1 (cellsR p)])) (fun j=>j<=(chansM x).length) (fun j=>(chansM x).length-j) 0 (Nat.zero_le _) rfl fun j hj jh=>?_
     refine y_ ?_
     by_cases hcj:j<(chansM x).length
     ·refine Exists.elim (at_exN (l:=chansM x) (i:=j) hcj) fun c hc=>?_
      have hins:=rins_p (insAll ltI (canI X) ((chansM x).take j)) c (by
       have h1:=insAll19_len (lt:=ltI) ((chansM x).take j) (canI X)
       have h2:=can_len X
       have h3:=chans_len x
       rw [List.length_take] at h1
       omega)
      rw [<-ins_next hc] at hins
      refine T_ rfl (by show decide ((j:Int)<(((chansM x).map AI).length:Int))=true;rw [nm,decide_eq_true_eq];omega) ?_
      refine i_ rfl (map_at hc) rfl ?_
      refine c_ hins ?_
      refine A.valE 11 rfl (x':=AI ((j+1:Nat):Int)) (inc_eq j (by omega)) ?_
      refine u_ (jh (j+1) (by omega) (by omega))
     ·refine A.gF rfl (by show decide ((j:Int)<(((chansM x).map AI).length:Int))=false;rw [nm,decide_eq_false_iff_not];omega) ?_
      clear jh
      refine e_ 3 rfl (x':=intsA (canI (Y0++rawCl (g.body.take (k+1))))) (by rw [List.take_of_length_le (by omega),hnx]) ?_
      refine A.valE 9 rfl (x':=AI ((k+1:Nat):Int)) (inc_eq k (by omega)) ?_
      refine u_ (kh (k+1) (by omega) (by omega))
    ·refine A.gF rfl (by show decide ((k:Int)<((encRl g.body).length:Int))=false;rw [nb,decide_eq_false_iff_not];omega) ?_
     clear kh
     refine e_ 3 rfl (x':=intsA (canI (own++(rawCl p.l++rawCg (p.gs.take (n+1)))))) (by rw [List.take_of_length_le (by omega),hY0e]) ?_
     refine A.valE 7 rfl (x':=AI ((n+1:Nat):Int)) (inc_eq n (by omega)) ?_
     refine l_ (Λ':=[.box b1 (cellsR p)]) ?_
     refine u_ (gh (n+1) (by omega) (by omega))
   ·rw [if_neg h3] at hZl
    refine Exists.elim (show∃Y0,Y0=Z from ⟨_,rfl⟩) fun Y0 hY0=>?_
    have hY0l:Y0.length+(rawCl g.body).length<=1048576:=by rw [hY0];have:([]:List Int).length=0:=rfl;omega
    have hY0e:Y0++rawCl g.body=own++(rawCl p.l++rawCg (p.gs.take (n+1))):=by
     rw [rawCg_take hgn,if_neg h3,hY0,hZ];simp only [List.append_assoc,List.nil_append]
    refine A.valE 3 rfl (x':=intsA (canI Y0)) (by rw [hY0]) ?_
    refine F_ rfl (by show (g.kind==3)=false;simpa using h3) ?_
    refine A.keep [1,3,7,8,9] rfl ?_
    refine A.loopP (ι:=Nat) (fun k=>(⟨[(1,ptrA b1),(3,intsA (canI (Y0++rawCl (g.body.take k)))),(7,AI (n:Nat)),(8,ptrA b8),(9,AI (k:Nat))],[]⟩,[.box b8 (cellsG g), .box b1 (cellsR p)])) (fun k=>k<=g.body.length) (fun k=>g.body.length-k) 0 (Nat.zero_le _) (by rw [List.take_zero,rawCl,List.append_nil];rfl) fun k hk kh=>?_
    refine y_ ?_
    by_cases hck:k<g.body.length
    ·refine Exists.elim (at_exN (l:=g.body) (i:=k) hck) fun x hx=>?_
     have hch:=hg g hgm x (List.mem_of_getElem? hx)
     refine Exists.elim (show∃X,X=Y0++rawCl (g.body.take k) from ⟨_,rfl⟩) fun X hX=>?_
     have hnx:insAll ltI (canI X) (chansM x)=canI (Y0++rawCl (g.body.take (k+1))):=by
      unfold chansM
      rw [can_join,rawCl_take hx,hX,List.append_assoc]
     have hXl:X.length+(rawC x).length<=1048576:=by
      have h1:=rawCl_pre g.body (k+1)
      rw [rawCl_take hx,List.length_append] at h1
      rw [hX,List.length_append]
      omega
     have nm:(((chansM x).map AI).length:Int)=(chansM x).length:=by rw [List.length_map]
     have hcx:=chans_len x
     refine T_ rfl (by show decide ((k:Int)<((encRl g.body).length:Int))=true;rw [nb,decide_eq_true_eq];omega) ?_
     refine i_ rfl (encRl_at hx) (encR_eq x) ?_
     refine c_ hch ?_
     refine A.valE 3 rfl (x':=intsA (canI X)) (by rw [hX]) ?_
     refine A.keep [1,3,7,8,9,10,11] rfl ?_
     refine A.loopP (ι:=Nat) (fun j=>(⟨[(1,ptrA b1),(3,intsA (insAll ltI (canI X) ((chansM x).take j))),(7,AI (n:Nat)),(8,ptrA b8),(9,AI (k:Nat)),(10,intsA (chansM x)),(11,AI (j:Nat))],[]⟩,[.box b8 (cellsG g), .box b1 (cellsR p)])) (fun j=>j<=(chansM x).length) (fun j=>(chansM x).length-j) 0 (Nat.zero_le _) rfl fun j hj jh=>?_
     refine y_ ?_
     by_cases hcj:j<(chansM x).length
     ·refine Exists.elim (at_exN (l:=chansM x) (i:=j) hcj) fun c hc=>?_
      have hins:=rins_p (insAll ltI (canI X) ((chansM x).take j)) c (by
       have h1:=insAll19_len (lt:=ltI) ((chansM x).take j) (canI X)
       have h2:=can_len X
       have h3:=chans_len x
       rw [List.length_take] at h1
       omega)
      rw [<-ins_next hc] at hins
      refine T_ rfl (by show decide ((j:Int)<(((chansM x).map AI).length:Int))=true;rw [nm,decide_eq_true_eq];omega) ?_
      refine i_ rfl (map_at hc) rfl ?_
      refine c_ hins ?_
      refine A.valE 11 rfl (x':=AI ((j+1:Nat):Int)) (inc_eq j (by omega)) ?_
      refine u_ (jh (j+1) (by omega) (by omega))
     ·refine A.gF rfl (by show decide ((j:Int)<(((chansM x).map AI).length:Int))=false;rw [nm,decide_eq_false_iff_not];omega) ?_
      clear jh
      refine e_ 3 rfl (x':=intsA (canI (Y0++rawCl (g.body.take (k+1))))) (by rw [List.take_of_length_le (by omega),hnx]) ?_
      refine A.valE 9 rfl (x':=AI ((k+1:Nat):Int)) (inc_eq k (by omega)) ?_
      refine u_ (kh (k+1) (by omega) (by omega))
    ·refine A.gF rfl (by show decide ((k:Int)<((encRl g.body).length:Int))=false;rw [nb,decide_eq_false_iff_not];omega) ?_
     clear kh
     refine e_ 3 rfl (x':=intsA (canI (own++(rawCl p.l++rawCg (p.gs.take (n+1)))))) (by rw [List.take_of_length_le (by omega),hY0e]) ?_
     refine A.valE 7 rfl (x':=AI ((n+1:Nat):Int)) (inc_eq n (by omega)) ?_
     refine l_ (Λ':=[.box b1 (cellsR p)]) ?_
     refine u_ (gh (n+1) (by omega) (by omega))
  refine A.gF rfl (by show decide ((n:Int)<((encGl p.gs).length:Int))=false;rw [n2,decide_eq_false_iff_not];omega) ?_
  clear gh
  refine e_ 3 rfl (x':=intsA (chansM p)) (by rw [List.take_of_length_le (by omega)];unfold chansM;rw [hrl]) ?_
  exact r_
 ·by_cases h6:p.kind=6
  ·rw [if_pos (.inr h6)] at hown
   rw [show insS ltI [] p.c=canI own by rw [hown];rfl] at hz0
   refine e_ 15 rfl (x':=AB false) (ab_eq (by simpa using h5)) ?_
   refine T_ rfl (by simpa using h6) ?_
   refine c_ hz0 ?_
   refine A.keep [1,3,4] rfl ?_
   refine A.loopP (ι:=Nat) (fun i=>(⟨[(1,ptrA b1),(3,intsA (canI (own++rawCl (p.l.take i)))),(4,AI (i:Nat))],[]⟩,[.box b1 (cellsR p)])) (fun i=>i<=p.l.length) (fun i=>p.l.length-i) 0 (Nat.zero_le _) (by rw [List.take_zero,rawCl,List.append_nil];rfl) fun i hi ih=>?_
   refine y_ ?_
   by_cases hci:i<p.l.length
   ·refine Exists.elim (at_exN (l:=p.l) (i:=i) hci) fun x hx=>?_
    have hch:=hl x (List.mem_of_getElem? hx)
    refine Exists.elim (show∃X,X=own++rawCl (p.l.take i) from ⟨_,rfl⟩) fun X hX=>?_
    have hnx:insAll ltI (canI X) (chansM x)=canI (own++rawCl (p.l.take (i+1))):=by
     unfold chansM
     rw [can_join,rawCl_take hx,hX,List.append_assoc]
    have hXl:X.length+(rawC x).length<=1048576:=by
     have h1:=rawCl_pre p.l (i+1)
     rw [rawCl_take hx,List.length_append] at h1
     rw [hX,List.length_append]
     omega
    have nm:(((chansM x).map AI).length:Int)=(chansM x).length:=by rw [List.length_map]
    have hcx:=chans_len x
    refine T_ rfl (by show decide ((i:Int)<((encRl p.l).length:Int))=true;rw [n1,decide_eq_true_eq];omega) ?_
    refine i_ rfl (encRl_at hx) (encR_eq x) ?_
    refine c_ hch ?_
    refine A.valE 3 rfl (x':=intsA (canI X)) (by rw [hX]) ?_
    refine A.keep [1,3,4,5,6] rfl ?_
    refine A.loopP (ι:=Nat) (fun j=>(⟨[(1,ptrA b1),(3,intsA (insAll ltI (canI X) ((chansM x).take j))),(4,AI (i:Nat)),(5,intsA (chansM x)),(6,AI (j:Nat))],[]⟩,[.box b1 (cellsR p)])) (fun j=>j<=(chansM x).length) (fun j=>(chansM x).length-j) 0 (Nat.zero_le _) rfl fun j hj jh=>?_
    refine y_ ?_
    by_cases hcj:j<(chansM x).length
    ·refine Exists.elim (at_exN (l:=chansM x) (i:=j) hcj) fun c hc=>?_
     have hins:=rins_p (insAll ltI (canI X) ((chansM x).take j)) c (by
      have h1:=insAll19_len (lt:=ltI) ((chansM x).take j) (canI X)
      have h2:=can_len X
      have h3:=chans_len x
      rw [List.length_take] at h1
      omega)
     rw [<-ins_next hc] at hins
     refine T_ rfl (by show decide ((j:Int)<(((chansM x).map AI).length:Int))=true;rw [nm,decide_eq_true_eq];omega) ?_
     refine i_ rfl (map_at hc) rfl ?_
     refine c_ hins ?_
     refine A.valE 6 rfl (x':=AI ((j+1:Nat):Int)) (inc_eq j (by omega)) ?_
     refine u_ (jh (j+1) (by omega) (by omega))
    ·refine A.gF rfl (by show decide ((j:Int)<(((chansM x).map AI).length:Int))=false;rw [nm,decide_eq_false_iff_not];omega) ?_
     clear jh
     refine e_ 3 rfl (x':=intsA (canI (own++rawCl (p.l.take (i+1))))) (by rw [List.take_of_length_le (by omega),hnx]) ?_
     refine A.valE 4 rfl (x':=AI ((i+1:Nat):Int)) (inc_eq i (by omega)) ?_
     refine u_ (ih (i+1) (by omega) (by omega))
   refine A.gF rfl (by show decide ((i:Int)<((encRl p.l).length:Int))=false;rw [n1,decide_eq_false_iff_not];omega) ?_
   clear ih
   refine e_ 3 rfl (x':=intsA (canI (own++(rawCl p.l++rawCg (p.gs.take 0))))) (by rw [List.take_of_length_le (by omega),List.take_zero,rawCg,List.append_nil]) ?_
   refine A.keep [1,3,7] rfl ?_
   refine A.loopP (ι:=Nat) (fun n=>(⟨[(1,ptrA b1),(3,intsA (canI (own++(rawCl p.l++rawCg (p.gs.take n))))),(7,AI (n:Nat))],[]⟩,[.box b1 (cellsR p)])) (fun n=>n<=p.gs.length) (fun n=>p.gs.length-n) 0 (Nat.zero_le _) rfl fun n hn gh=>?_
   refine y_ ?_
   by_cases hcn:n<p.gs.length
   ·refine Exists.elim (at_exN (l:=p.gs) (i:=n) hcn) fun g hgn=>?_
    have hgm:=List.mem_of_getElem? hgn
    have nb:((encRl g.body).length:Int)=g.body.length:=by rw [encRl_len]
    have hgr:=rawCg_pre p.gs (n+1)
    rw [rawCg_take hgn,List.length_append,List.length_append] at hgr
    have hgl:g.body.length<=140737488355328:=by
     have:=(smG_all (hs.g g hgm)).bb;omega
    refine Exists.elim (show∃Z,Z=own++(rawCl p.l++rawCg (p.gs.take n)) from ⟨_,rfl⟩) fun Z hZ=>?_
    have hZl:Z.length+((if g.kind=3 then [g.c] else []).length+(rawCl g.body).length)<=1048576:=by
     rw [hZ,List.length_append,List.length_append]
     omega
    refine A.valE 3 rfl (x':=intsA (canI Z)) (by rw [hZ]) ?_
    refine T_ rfl (by show decide ((n:Int)<((encGl p.gs).length:Int))=true;rw [n2,decide_eq_true_eq];omega) ?_
    refine j_ rfl (encGl_at hgn) (encG_eq g) ?_
    (repeat refine A.s rfl ?_)
    refine A.b rfl fun b8=>?_
    refine y_ ?_
    by_cases h3:g.kind=3
    ·rw [if_pos h3] at hZl
     have hins:=rins_p (canI Z) g.c (by have:=can_len Z;omega)
     rw [can_one] at hins
     refine Exists.elim (show∃Y0,Y0=Z++[g.c] from ⟨_,rfl⟩) fun Y0 hY0=>?_
     have hY0l:Y0.length+(rawCl g.body).length<=1048576:=by rw [hY0,List.length_append];show _+1+_<=_;have:([g.c]:List Int).length=1:=rfl;omega
     have hY0e:Y0++rawCl g.body=own++(rawCl p.l++rawCg (p.gs.take (n+1))):=by
      rw [rawCg_take hgn,if_pos h3,hY0,hZ];simp only [List.append_assoc]
     rw [<-hY0] at hins
     refine T_ rfl (by show (g.kind==3)=true;simpa using h3) ?_
     refine c_ hins ?_
     refine A.keep [1,3,7,8,9] rfl ?_
     refine A.loopP (ι:=Nat) (fun k=>(⟨[(1,ptrA b1),(3,intsA (canI (Y0++rawCl (g.body.take k)))),(7,AI (n:Nat)),(8,ptrA b8),(9,AI (k:Nat))],[]⟩,[.box b8 (cellsG g), .box b1 (cellsR p)])) (fun k=>k<=g.body.length) (fun k=>g.body.length-k) 0 (Nat.zero_le _) (by rw [List.take_zero,rawCl,List.append_nil];rfl) fun k hk kh=>?_
     refine y_ ?_
     by_cases hck:k<g.body.length
     ·refine Exists.elim (at_exN (l:=g.body) (i:=k) hck) fun x hx=>?_
      have hch:=hg g hgm x (List.mem_of_getElem? hx)
      refine Exists.elim (show∃X,X=Y0++rawCl (g.body.take k) from ⟨_,rfl⟩) fun X hX=>?_
      have hnx:insAll ltI (canI X) (chansM x)=canI (Y0++rawCl (g.body.take (k+1))):=by
       unfold chansM
       rw [can_join,rawCl_take hx,hX,List.append_assoc]
      have hXl:X.length+(rawC x).length<=1048576:=by
       have h1:=rawCl_pre g.body (k+1)
       rw [rawCl_take hx,List.length_append] at h1
       rw [hX,List.length_append]
       omega
      have nm:(((chansM x).map AI).length:Int)=(chansM x).length:=by rw [List.length_map]
      have hcx:=chans_len x
      refine T_ rfl (by show decide ((k:Int)<((encRl g.body).length:Int))=true;rw [nb,decide_eq_true_eq];omega) ?_
      refine i_ rfl (encRl_at hx) (encR_eq x) ?_
      refine c_ hch ?_
      refine A.valE 3 rfl (x':=intsA (canI X)) (by rw [hX]) ?_
      refine A.keep [1,3,7,8,9,10,11] rfl ?_
      refine A.loopP (ι:=Nat) (fun j=>(⟨[(1,ptrA b1),(3,intsA (insAll ltI (canI X) ((chansM x).take j))),(7,AI (n:Nat)),(8,ptrA b8),(9,AI (k:Nat)),(10,intsA (chansM x)),(11,AI (j:Nat))],[]⟩,[.box b8 (cellsG g), .box b1 (cellsR p)])) (fun j=>j<=(chansM x).length) (fun j=>(chansM x).length-j) 0 (Nat.zero_le _) rfl fun j hj jh=>?_
      refine y_ ?_
      by_cases hcj:j<(chansM x).length
      ·refine Exists.elim (at_exN (l:=chansM x) (i:=j) hcj) fun c hc=>?_
       have hins:=rins_p (insAll ltI (canI X) ((chansM x).take j)) c (by
        have h1:=insAll19_len (lt:=ltI) ((chansM x).take j) (canI X)
        have h2:=can_len X
        have h3:=chans_len x
        rw [List.length_take] at h1
        omega)
       rw [<-ins_next hc] at hins
       refine T_ rfl (by show decide ((j:Int)<(((chansM x).map AI).length:Int))=true;rw [nm,decide_eq_true_eq];omega) ?_
       refine i_ rfl (map_at hc) rfl ?_
       refine c_ hins ?_
       refine A.valE 11 rfl (x':=AI ((j+1:Nat):Int)) (inc_eq j (by omega)) ?_
       refine u_ (jh (j+1) (by omega) (by omega))
      ·refine A.gF rfl (by show decide ((j:Int)<(((chansM x).map AI).length:Int))=false;rw [nm,decide_eq_false_iff_not];omega) ?_
       clear jh
       refine e_ 3 rfl (x':=intsA (canI (Y0++rawCl (g.body.take (k+1))))) (by rw [List.take_of_length_le (by omega),hnx]) ?_
       refine A.valE 9 rfl (x':=AI ((k+1:Nat):Int)) (inc_eq k (by omega)) ?_
       refine u_ (kh (k+1) (by omega) (by omega))
     ·refine A.gF rfl (by show decide ((k:Int)<((encRl g.body).length:Int))=false;rw [nb,decide_eq_false_iff_not];omega) ?_
      clear kh
      refine e_ 3 rfl (x':=intsA (canI (own++(rawCl p.l++rawCg (p.gs.take (n+1)))))) (by rw [List.take_of_length_le (by omega),hY0e]) ?_
      refine A.valE 7 rfl (x':=AI ((n+1:Nat):Int)) (inc_eq n (by omega)) ?_
      refine l_ (Λ':=[.box b1 (cellsR p)]) ?_
      refine u_ (gh (n+1) (by omega) (by omega))
    ·rw [if_neg h3] at hZl
     refine Exists.elim (show∃Y0,Y0=Z from ⟨_,rfl⟩) fun Y0 hY0=>?_
     have hY0l:Y0.length+(rawCl g.body).length<=1048576:=by rw [hY0];have:([]:List Int).length=0:=rfl;omega
     have hY0e:Y0++rawCl g.body=own++(rawCl p.l++rawCg (p.gs.take (n+1))):=by
      rw [rawCg_take hgn,if_neg h3,hY0,hZ];simp only [List.append_assoc,List.nil_append]
     refine A.valE 3 rfl (x':=intsA (canI Y0)) (by rw [hY0]) ?_
     refine F_ rfl (by show (g.kind==3)=false;simpa using h3) ?_
     refine A.keep [1,3,7,8,9] rfl ?_
     refine A.loopP (ι:=Nat) (fun k=>(⟨[(1,ptrA b1),(3,intsA (canI (Y0++rawCl (g.body.take k)))),(7,AI (n:Nat)),(8,ptrA b8),(9,AI (k:Nat))],[]⟩,[.box b8 (cellsG g), .box b1 (cellsR p)])) (fun k=>k<=g.body.length) (fun k=>g.body.length-k) 0 (Nat.zero_le _) (by rw [List.take_zero,rawCl,List.append_nil];rfl) fun k hk kh=>?_
     refine y_ ?_
     by_cases hck:k<g.body.length
     ·refine Exists.elim (at_exN (l:=g.body) (i:=k) hck) fun x hx=>?_
      have hch:=hg g hgm x (List.mem_of_getElem? hx)
      refine Exists.elim (show∃X,X=Y0++rawCl (g.body.take k) from ⟨_,rfl⟩) fun X hX=>?_
      have hnx:insAll ltI (canI X) (chansM x)=canI (Y0++rawCl (g.body.take (k+1))):=by
       unfold chansM
       rw [can_join,rawCl_take hx,hX,List.append_assoc]
      have hXl:X.length+(rawC x).length<=1048576:=by
       have h1:=rawCl_pre g.body (k+1)
       rw [rawCl_take hx,List.length_append] at h1
       rw [hX,List.length_append]
       omega
      have nm:(((chansM x).map AI).length:Int)=(chansM x).length:=by rw [List.length_map]
      have hcx:=chans_len x
      refine T_ rfl (by show decide ((k:Int)<((encRl g.body).length:Int))=true;rw [nb,decide_eq_true_eq];omega) ?_
      refine i_ rfl (encRl_at hx) (encR_eq x) ?_
      refine c_ hch ?_
      refine A.valE 3 rfl (x':=intsA (canI X)) (by rw [hX]) ?_
      refine A.keep [1,3,7,8,9,10,11] rfl ?_
      refine A.loopP (ι:=Nat) (fun j=>(⟨[(1,ptrA b1),(3,intsA (insAll ltI (canI X) ((chansM x).take j))),(7,AI (n:Nat)),(8,ptrA b8),(9,AI (k:Nat)),(10,intsA (chansM x)),(11,AI (j:Nat))],[]⟩,[.box b8 (cellsG g), .box b1 (cellsR p)])) (fun j=>j<=(chansM x).length) (fun j=>(chansM x).length-j) 0 (Nat.zero_le _) rfl fun j hj jh=>?_
      refine y_ ?_
      by_cases hcj:j<(chansM x).length
      ·refine Exists.elim (at_exN (l:=chansM x) (i:=j) hcj) fun c hc=>?_
       have hins:=rins_p (insAll ltI (canI X) ((chansM x).take j)) c (by
        have h1:=insAll19_len (lt:=ltI) ((chansM x).take j) (canI X)
        have h2:=can_len X
        have h3:=chans_len x
        rw [List.length_take] at h1
        omega)
       rw [<-ins_next hc] at hins
       refine T_ rfl (by show decide ((j:Int)<(((chansM x).map AI).length:Int))=true;rw [nm,decide_eq_true_eq];omega) ?_
       refine i_ rfl (map_at hc) rfl ?_
       refine c_ hins ?_
       refine A.valE 11 rfl (x':=AI ((j+1:Nat):Int)) (inc_eq j (by omega)) ?_
       refine u_ (jh (j+1) (by omega) (by omega))
      ·refine A.gF rfl (by show decide ((j:Int)<(((chansM x).map AI).length:Int))=false;rw [nm,decide_eq_false_iff_not];omega) ?_
       clear jh
       refine e_ 3 rfl (x':=intsA (canI (Y0++rawCl (g.body.take (k+1))))) (by rw [List.take_of_length_le (by omega),hnx]) ?_
       refine A.valE 9 rfl (x':=AI ((k+1:Nat):Int)) (inc_eq k (by omega)) ?_
       refine u_ (kh (k+1) (by omega) (by omega))
     ·refine A.gF rfl (by show decide ((k:Int)<((encRl g.body).length:Int))=false;rw [nb,decide_eq_false_iff_not];omega) ?_
      clear kh
      refine e_ 3 rfl (x':=intsA (canI (own++(rawCl p.l++rawCg (p.gs.take (n+1)))))) (by rw [List.take_of_length_le (by omega),hY0e]) ?_
      refine A.valE 7 rfl (x':=AI ((n+1:Nat):Int)) (inc_eq n (by omega)) ?_
      refine l_ (Λ':=[.box b1 (cellsR p)]) ?_
      refine u_ (gh (n+1) (by omega) (by omega))
   refine A.gF rfl (by show decide ((n:Int)<((encGl p.gs).length:Int))=false;rw [n2,decide_eq_false_iff_not];omega) ?_
   clear gh
   refine e_ 3 rfl (x':=intsA (chansM p)) (by rw [List.take_of_length_le (by omega)];unfold chansM;rw [hrl]) ?_
   exact r_
  ·rw [if_neg (by omega)] at hown
   refine A.valE 3 rfl (x':=intsA (canI own)) (by rw [hown];rfl) ?_
   refine e_ 15 rfl (x':=AB false) (ab_eq (by simpa using h5)) ?_
   refine F_ rfl (by simpa using h6) ?_
   refine A.keep [1,3,4] rfl ?_
   refine A.loopP (ι:=Nat) (fun i=>(⟨[(1,ptrA b1),(3,intsA (canI (own++rawCl (p.l.take i)))),(4,AI (i:Nat))],[]⟩,[.box b1 (cellsR p)])) (fun i=>i<=p.l.length) (fun i=>p.l.length-i) 0 (Nat.zero_le _) (by rw [List.take_zero,rawCl,List.append_nil];rfl) fun i hi ih=>?_
   refine y_ ?_
   by_cases hci:i<p.l.length
   ·refine Exists.elim (at_exN (l:=p.l) (i:=i) hci) fun x hx=>?_
    have hch:=hl x (List.mem_of_getElem? hx)
    refine Exists.elim (show∃X,X=own++rawCl (p.l.take i) from ⟨_,rfl⟩) fun X hX=>?_
    have hnx:insAll ltI (canI X) (chansM x)=canI (own++rawCl (p.l.take (i+1))):=by
     unfold chansM
     rw [can_join,rawCl_take hx,hX,List.append_assoc]
    have hXl:X.length+(rawC x).length<=1048576:=by
     have h1:=rawCl_pre p.l (i+1)
     rw [rawCl_take hx,List.length_append] at h1
     rw [hX,List.length_append]
     omega
    have nm:(((chansM x).map AI).length:Int)=(chansM x).length:=by rw [List.length_map]
    have hcx:=chans_len x
    refine T_ rfl (by show decide ((i:Int)<((encRl p.l).length:Int))=true;rw [n1,decide_eq_true_eq];omega) ?_
    refine i_ rfl (encRl_at hx) (encR_eq x) ?_
    refine c_ hch ?_
    refine A.valE 3 rfl (x':=intsA (canI X)) (by rw [hX]) ?_
    refine A.keep [1,3,4,5,6] rfl ?_
    refine A.loopP (ι:=Nat) (fun j=>(⟨[(1,ptrA b1),(3,intsA (insAll ltI (canI X) ((chansM x).take j))),(4,AI (i:Nat)),(5,intsA (chansM x)),(6,AI (j:Nat))],[]⟩,[.box b1 (cellsR p)])) (fun j=>j<=(chansM x).length) (fun j=>(chansM x).length-j) 0 (Nat.zero_le _) rfl fun j hj jh=>?_
    refine y_ ?_
    by_cases hcj:j<(chansM x).length
    ·refine Exists.elim (at_exN (l:=chansM x) (i:=j) hcj) fun c hc=>?_
     have hins:=rins_p (insAll ltI (canI X) ((chansM x).take j)) c (by
      have h1:=insAll19_len (lt:=ltI) ((chansM x).take j) (canI X)
      have h2:=can_len X
      have h3:=chans_len x
      rw [List.length_take] at h1
      omega)
     rw [<-ins_next hc] at hins
     refine T_ rfl (by show decide ((j:Int)<(((chansM x).map AI).length:Int))=true;rw [nm,decide_eq_true_eq];omega) ?_
     refine i_ rfl (map_at hc) rfl ?_
     refine c_ hins ?_
     refine A.valE 6 rfl (x':=AI ((j+1:Nat):Int)) (inc_eq j (by omega)) ?_
     refine u_ (jh (j+1) (by omega) (by omega))
    ·refine A.gF rfl (by show decide ((j:Int)<(((chansM x).map AI).length:Int))=false;rw [nm,decide_eq_false_iff_not];omega) ?_
     clear jh
     refine e_ 3 rfl (x':=intsA (canI (own++rawCl (p.l.take (i+1))))) (by rw [List.take_of_length_le (by omega),hnx]) ?_
     refine A.valE 4 rfl (x':=AI ((i+1:Nat):Int)) (inc_eq i (by omega)) ?_
     refine u_ (ih (i+1) (by omega) (by omega))
   refine A.gF rfl (by show decide ((i:Int)<((encRl p.l).length:Int))=false;rw [n1,decide_eq_false_iff_not];omega) ?_
   clear ih
   refine e_ 3 rfl (x':=intsA (canI (own++(rawCl p.l++rawCg (p.gs.take 0))))) (by rw [List.take_of_length_le (by omega),List.take_zero,rawCg,List.append_nil]) ?_
   refine A.keep [1,3,7] rfl ?_
   refine A.loopP (ι:=Nat) (fun n=>(⟨[(1,ptrA b1),(3,intsA (canI (own++(rawCl p.l++rawCg (p.gs.take n))))),(7,AI (n:Nat))],[]⟩,[.box b1 (cellsR p)])) (fun n=>n<=p.gs.length) (fun n=>p.gs.length-n) 0 (Nat.zero_le _) rfl fun n hn gh=>?_
   refine y_ ?_
   by_cases hcn:n<p.gs.length
   ·refine Exists.elim (at_exN (l:=p.gs) (i:=n) hcn) fun g hgn=>?_
    have hgm:=List.mem_of_getElem? hgn
    have nb:((encRl g.body).length:Int)=g.body.length:=by rw [encRl_len]
    have hgr:=rawCg_pre p.gs (n+1)
    rw [rawCg_take hgn,List.length_append,List.length_append] at hgr
    have hgl:g.body.length<=140737488355328:=by
     have:=(smG_all (hs.g g hgm)).bb;omega
    refine Exists.elim (show∃Z,Z=own++(rawCl p.l++rawCg (p.gs.take n)) from ⟨_,rfl⟩) fun Z hZ=>?_
    have hZl:Z.length+((if g.kind=3 then [g.c] else []).length+(rawCl g.body).length)<=1048576:=by
     rw [hZ,List.length_append,List.length_append]
     omega
    refine A.valE 3 rfl (x':=intsA (canI Z)) (by rw [hZ]) ?_
    refine T_ rfl (by show decide ((n:Int)<((encGl p.gs).length:Int))=true;rw [n2,decide_eq_true_eq];omega) ?_
    refine j_ rfl (encGl_at hgn) (encG_eq g) ?_
    (repeat refine A.s rfl ?_)
    refine A.b rfl fun b8=>?_
    refine y_ ?_
    by_cases h3:g.kind=3
    ·rw [if_pos h3] at hZl
     have hins:=rins_p (canI Z) g.c (by have:=can_len Z;omega)
     rw [can_one] at hins
     refine Exists.elim (show∃Y0,Y0=Z++[g.c] from ⟨_,rfl⟩) fun Y0 hY0=>?_
     have hY0l:Y0.length+(rawCl g.body).length<=1048576:=by rw [hY0,List.length_append];show _+1+_<=_;have:([g.c]:List Int).length=1:=rfl;omega
     have hY0e:Y0++rawCl g.body=own++(rawCl p.l++rawCg (p.gs.take (n+1))):=by
      rw [rawCg_take hgn,if_pos h3,hY0,hZ];simp only [List.append_assoc]
     rw [<-hY0] at hins
     refine T_ rfl (by show (g.kind==3)=true;simpa using h3) ?_
     refine c_ hins ?_
     refine A.keep [1,3,7,8,9] rfl ?_
     refine A.loopP (ι:=Nat) (fun k=>(⟨[(1,ptrA b1),(3,intsA (canI (Y0++rawCl (g.body.take k)))),(7,AI (n:Nat)),(8,ptrA b8),(9,AI (k:Nat))],[]⟩,[.box b8 (cellsG g), .box b1 (cellsR p)])) (fun k=>k<=g.body.length) (fun k=>g.body.length-k) 0 (Nat.zero_le _) (by rw [List.take_zero,rawCl,List.append_nil];rfl) fun k hk kh=>?_
     refine y_ ?_
     by_cases hck:k<g.body.length
     ·refine Exists.elim (at_exN (l:=g.body) (i:=k) hck) fun x hx=>?_
      have hch:=hg g hgm x (List.mem_of_getElem? hx)
      refine Exists.elim (show∃X,X=Y0++rawCl (g.body.take k) from ⟨_,rfl⟩) fun X hX=>?_
      have hnx:insAll ltI (canI X) (chansM x)=canI (Y0++rawCl (g.body.take (k+1))):=by
       unfold chansM
       rw [can_join,rawCl_take hx,hX,List.append_assoc]
      have hXl:X.length+(rawC x).length<=1048576:=by
       have h1:=rawCl_pre g.body (k+1)
       rw [rawCl_take hx,List.length_append] at h1
       rw [hX,List.length_append]
       omega
      have nm:(((chansM x).map AI).length:Int)=(chansM x).length:=by rw [List.length_map]
      have hcx:=chans_len x
      refine T_ rfl (by show decide ((k:Int)<((encRl g.body).length:Int))=true;rw [nb,decide_eq_true_eq];omega) ?_
      refine i_ rfl (encRl_at hx) (encR_eq x) ?_
      refine c_ hch ?_
      refine A.valE 3 rfl (x':=intsA (canI X)) (by rw [hX]) ?_
      refine A.keep [1,3,7,8,9,10,11] rfl ?_
      refine A.loopP (ι:=Nat) (fun j=>(⟨[(1,ptrA b1),(3,intsA (insAll ltI (canI X) ((chansM x).take j))),(7,AI (n:Nat)),(8,ptrA b8),(9,AI (k:Nat)),(10,intsA (chansM x)),(11,AI (j:Nat))],[]⟩,[.box b8 (cellsG g), .box b1 (cellsR p)])) (fun j=>j<=(chansM x).length) (fun j=>(chansM x).length-j) 0 (Nat.zero_le _) rfl fun j hj jh=>?_
      refine y_ ?_
      by_cases hcj:j<(chansM x).length
      ·refine Exists.elim (at_exN (l:=chansM x) (i:=j) hcj) fun c hc=>?_
       have hins:=rins_p (insAll ltI (canI X) ((chansM x).take j)) c (by
        have h1:=insAll19_len (lt:=ltI) ((chansM x).take j) (canI X)
        have h2:=can_len X
        have h3:=chans_len x
        rw [List.length_take] at h1
        omega)
       rw [<-ins_next hc] at hins
       refine T_ rfl (by show decide ((j:Int)<(((chansM x).map AI).length:Int))=true;rw [nm,decide_eq_true_eq];omega) ?_
       refine i_ rfl (map_at hc) rfl ?_
       refine c_ hins ?_
       refine A.valE 11 rfl (x':=AI ((j+1:Nat):Int)) (inc_eq j (by omega)) ?_
       refine u_ (jh (j+1) (by omega) (by omega))
      ·refine A.gF rfl (by show decide ((j:Int)<(((chansM x).map AI).length:Int))=false;rw [nm,decide_eq_false_iff_not];omega) ?_
       clear jh
       refine e_ 3 rfl (x':=intsA (canI (Y0++rawCl (g.body.take (k+1))))) (by rw [List.take_of_length_le (by omega),hnx]) ?_
       refine A.valE 9 rfl (x':=AI ((k+1:Nat):Int)) (inc_eq k (by omega)) ?_
       refine u_ (kh (k+1) (by omega) (by omega))
     ·refine A.gF rfl (by show decide ((k:Int)<((encRl g.body).length:Int))=false;rw [nb,decide_eq_false_iff_not];omega) ?_
      clear kh
      refine e_ 3 rfl (x':=intsA (canI (own++(rawCl p.l++rawCg (p.gs.take (n+1)))))) (by rw [List.take_of_length_le (by omega),hY0e]) ?_
      refine A.valE 7 rfl (x':=AI ((n+1:Nat):Int)) (inc_eq n (by omega)) ?_
      refine l_ (Λ':=[.box b1 (cellsR p)]) ?_
      refine u_ (gh (n+1) (by omega) (by omega))
    ·rw [if_neg h3] at hZl
     refine Exists.elim (show∃Y0,Y0=Z from ⟨_,rfl⟩) fun Y0 hY0=>?_
     have hY0l:Y0.length+(rawCl g.body).length<=1048576:=by rw [hY0];have:([]:List Int).length=0:=rfl;omega
     have hY0e:Y0++rawCl g.body=own++(rawCl p.l++rawCg (p.gs.take (n+1))):=by
      rw [rawCg_take hgn,if_neg h3,hY0,hZ];simp only [List.append_assoc,List.nil_append]
     refine A.valE 3 rfl (x':=intsA (canI Y0)) (by rw [hY0]) ?_
     refine F_ rfl (by show (g.kind==3)=false;simpa using h3) ?_
     refine A.keep [1,3,7,8,9] rfl ?_
     refine A.loopP (ι:=Nat) (fun k=>(⟨[(1,ptrA b1),(3,intsA (canI (Y0++rawCl (g.body.take k)))),(7,AI (n:Nat)),(8,ptrA b8),(9,AI (k:Nat))],[]⟩,[.box b8 (cellsG g), .box b1 (cellsR p)])) (fun k=>k<=g.body.length) (fun k=>g.body.length-k) 0 (Nat.zero_le _) (by rw [List.take_zero,rawCl,List.append_nil];rfl) fun k hk kh=>?_
     refine y_ ?_
     by_cases hck:k<g.body.length
     ·refine Exists.elim (at_exN (l:=g.body) (i:=k) hck) fun x hx=>?_
      have hch:=hg g hgm x (List.mem_of_getElem? hx)
      refine Exists.elim (show∃X,X=Y0++rawCl (g.body.take k) from ⟨_,rfl⟩) fun X hX=>?_
      have hnx:insAll ltI (canI X) (chansM x)=canI (Y0++rawCl (g.body.take (k+1))):=by
       unfold chansM
       rw [can_join,rawCl_take hx,hX,List.append_assoc]
      have hXl:X.length+(rawC x).length<=1048576:=by
       have h1:=rawCl_pre g.body (k+1)
       rw [rawCl_take hx,List.length_append] at h1
       rw [hX,List.length_append]
       omega
      have nm:(((chansM x).map AI).length:Int)=(chansM x).length:=by rw [List.length_map]
      have hcx:=chans_len x
      refine T_ rfl (by show decide ((k:Int)<((encRl g.body).length:Int))=true;rw [nb,decide_eq_true_eq];omega) ?_
      refine i_ rfl (encRl_at hx) (encR_eq x) ?_
      refine c_ hch ?_
      refine A.valE 3 rfl (x':=intsA (canI X)) (by rw [hX]) ?_
      refine A.keep [1,3,7,8,9,10,11] rfl ?_
      refine A.loopP (ι:=Nat) (fun j=>(⟨[(1,ptrA b1),(3,intsA (insAll ltI (canI X) ((chansM x).take j))),(7,AI (n:Nat)),(8,ptrA b8),(9,AI (k:Nat)),(10,intsA (chansM x)),(11,AI (j:Nat))],[]⟩,[.box b8 (cellsG g), .box b1 (cellsR p)])) (fun j=>j<=(chansM x).length) (fun j=>(chansM x).length-j) 0 (Nat.zero_le _) rfl fun j hj jh=>?_
      refine y_ ?_
      by_cases hcj:j<(chansM x).length
      ·refine Exists.elim (at_exN (l:=chansM x) (i:=j) hcj) fun c hc=>?_
       have hins:=rins_p (insAll ltI (canI X) ((chansM x).take j)) c (by
        have h1:=insAll19_len (lt:=ltI) ((chansM x).take j) (canI X)
        have h2:=can_len X
        have h3:=chans_len x
        rw [List.length_take] at h1
        omega)
       rw [<-ins_next hc] at hins
       refine T_ rfl (by show decide ((j:Int)<(((chansM x).map AI).length:Int))=true;rw [nm,decide_eq_true_eq];omega) ?_
       refine i_ rfl (map_at hc) rfl ?_
       refine c_ hins ?_
       refine A.valE 11 rfl (x':=AI ((j+1:Nat):Int)) (inc_eq j (by omega)) ?_
       refine u_ (jh (j+1) (by omega) (by omega))
      ·refine A.gF rfl (by show decide ((j:Int)<(((chansM x).map AI).length:Int))=false;rw [nm,decide_eq_false_iff_not];omega) ?_
       clear jh
       refine e_ 3 rfl (x':=intsA (canI (Y0++rawCl (g.body.take (k+1))))) (by rw [List.take_of_length_le (by omega),hnx]) ?_
       refine A.valE 9 rfl (x':=AI ((k+1:Nat):Int)) (inc_eq k (by omega)) ?_
       refine u_ (kh (k+1) (by omega) (by omega))
     ·refine A.gF rfl (by show decide ((k:Int)<((encRl g.body).length:Int))=false;rw [nb,decide_eq_false_iff_not];omega) ?_
      clear kh
      refine e_ 3 rfl (x':=intsA (canI (own++(rawCl p.l++rawCg (p.gs.take (n+1)))))) (by rw [List.take_of_length_le (by omega),hY0e]) ?_
      refine A.valE 7 rfl (x':=AI ((n+1:Nat):Int)) (inc_eq n (by omega)) ?_
      refine l_ (Λ':=[.box b1 (cellsR p)]) ?_
      refine u_ (gh (n+1) (by omega) (by omega))
   refine A.gF rfl (by show decide ((n:Int)<((encGl p.gs).length:Int))=false;rw [n2,decide_eq_false_iff_not];omega) ?_
   clear gh
   refine e_ 3 rfl (x':=intsA (chansM p)) (by rw [List.take_of_length_le (by omega)];unfold chansM;rw [hrl]) ?_
   exact r_
theorem rchans_n: ∀(m:Nat) (p:PR),SizeOf.sizeOf p<=m->smR p->(rawC p).length<=1048576->RChC p
 |0,p,h,_,_=>by
  obtain ⟨k,c,v,i,to,e,gs,l⟩:=p
  simp only [PR.mk.sizeOf_spec] at h;omega
 |m+1,p,hm,hs,hb=>by
  have hS:=smR_all hs
  exact rchans_f p hS hb (fun x hx=>rchans_n m x (by have:=lt19_l hx;omega) (hS.l x hx) (by have:=rawC_l hx;omega)) (fun g hg x hx=>rchans_n m x (by have:=lt19_g hg hx;omega) ((smG_all (hS.g g hg)).body x hx) (by have:=rawC_g hg hx;omega))
theorem rchans_p(p:PR)(hs:smR p)(hb:(rawC p).length<=1048576):Pure Tryz.prog gs0 22 [cellsR p] (intsA (chansM p)):=rchans_n _ p (Nat.le_refl _) hs hb
abbrev b8(x:Int):Int:=IntKind.u8.wrap x
def keyW(x:Int):List Int:=[b8 x,b8 (x.fdiv 256),b8 (x.fdiv 65536),b8 (x.fdiv 16777216)]
def keyI(e:ENd):List Int:=[b8 (e.1:Nat),b8 (((e.1:Nat):Int).fdiv 256)]++e.2.flatMap fun r=>r.flatMap keyW
def keyS(e:ENd):List UInt8:=(keyI e).map fun n=>UInt8.ofNat n.toNat
theorem b8_eq(x:Int):b8 x=x % 256:=by
 unfold b8 IntKind.wrap
 simp [IntKind.bits,IntKind.signed]
theorem b8_lo(x:Int):0<=b8 x/\b8 x<256:=by rw [b8_eq];omega
theorem keyW_inj{x y:Int}(hx:i32 x)(hy:i32 y)(h:keyW x=keyW y):x=y:=by
 unfold keyW at h
 unfold i32 at hx hy
 simp only [List.cons.injEq,b8_eq,and_true] at h
 obtain ⟨h1,h2,h3,h4⟩:=h
 rw [Int.fdiv_eq_ediv_of_nonneg _ (by decide),Int.fdiv_eq_ediv_of_nonneg _ (by decide)] at h2 h3 h4
 omega
theorem keyR_inj: ∀{r q:List Int},(∀x,x∈r->i32 x)->(∀x,x∈q->i32 x)->r.length=q.length->r.flatMap keyW=q.flatMap keyW->r=q
 | [],[],_,_,_,_=>rfl
 | [],_::_,_,_,h,_=>by simp at h
 |_::_,[],_,_,h,_=>by simp at h
 |x::r,y::q,hr,hq,hl,h=>by
  rw [List.flatMap_cons,List.flatMap_cons] at h
  obtain ⟨h1,h2⟩:=List.append_inj h (by rfl)
  rw [keyW_inj (hr x (.head _)) (hq y (.head _)) h1,keyR_inj (fun z hz=>hr z (.tail _ hz)) (fun z hz=>hq z (.tail _ hz)) (by simpa using hl) h2]
theorem keyW_len: ∀r:List Int,(r.flatMap keyW).length=4*r.length
 | []=>rfl
 |x::r=>by
  rw [List.flatMap_cons,List.length_append,keyW_len r,List.length_cons]
  show 4+_=_
  omega
theorem keySto_inj: ∀{s u:Sto},wfS s->wfS u->s.length=u.length->(∀(i:Nat) r q,s[i]? =some r->u[i]? =some q->r.length=q.length)->(s.flatMap fun r=>r.flatMap keyW)=(u.flatMap fun r=>r.flatMap keyW)->s=u
 | [],[],_,_,_,_,_=>rfl
 | [],_::_,_,_,h,_,_=>by simp at h
 |_::_,[],_,_,h,_,_=>by simp at h
 |r::s,q::u,hs,hu,hl,hr,h=>by
  rw [List.flatMap_cons,List.flatMap_cons] at h
  have h0:=hr 0 r q rfl rfl
  obtain ⟨h1,h2⟩:=List.append_inj h (by rw [keyW_len,keyW_len,h0])
  rw [keyR_inj (hs r (.head _)) (hu q (.head _)) h0 h1,keySto_inj (fun z hz=>hs z (.tail _ hz)) (fun z hz=>hu z (.tail _ hz)) (by simpa using hl) (fun i a b ha hb=>hr (i+1) a b ha hb) h2]
theorem u8_inj: ∀{l m:List Int},(∀x,x∈l->0<=x/\x<256)->(∀x,x∈m->0<=x/\x<256)->(l.map fun n=>UInt8.ofNat n.toNat)=(m.map fun n=>UInt8.ofNat n.toNat)->l=m
 | [],[],_,_,_=>rfl
 | [],_::_,_,_,h=>by simp at h
 |_::_,[],_,_,h=>by simp at h
 |x::l,y::m,hl,hm,h=>by
  rw [List.map_cons,List.map_cons] at h
  injection h with h1 h2
  have hx:=hl x (.head _)
  have hy:=hm y (.head _)
  have e:=congrArg UInt8.toNat h1
  rw [UInt8.toNat_ofNat',UInt8.toNat_ofNat'] at e
  have:x=y:=by omega
  rw [this,u8_inj (fun z hz=>hl z (.tail _ hz)) (fun z hz=>hm z (.tail _ hz)) h2]
theorem keyI_u8(e:ENd): ∀x,x∈keyI e->0<=x/\x<256:=fun x hx=>by
 unfold keyI at hx
 rcases List.mem_append.1 hx with hx|hx
 ·rcases List.mem_cons.1 hx with rfl|hx
  ·exact b8_lo _
  ·rw [List.mem_singleton.1 hx];exact b8_lo _
 ·obtain ⟨r,_,hx⟩:=List.mem_flatMap.1 hx
  obtain ⟨y,_,hx⟩:=List.mem_flatMap.1 hx
  unfold keyW at hx
  simp only [List.mem_cons,List.not_mem_nil,or_false] at hx
  rcases hx with rfl|rfl|rfl|rfl<;>exact b8_lo _
abbrev Shp(V:List KV)(s:Sto):Prop:=StOk V s
theorem mayB_rows{V:List KV}{s:Sto}(h:mayB V s=true):s.length=V.length/\ ∀(i:Nat) v r,V[i]? =some v->s[i]? =some r->(r.length:Int)=longI v:=by
 unfold mayB at h
 simp only [Bool.and_eq_true,decide_eq_true_eq] at h
 obtain ⟨⟨h1,_⟩,h2⟩:=h
 refine ⟨h1,fun i v r hv hr=>?_⟩
 simp only [allEq,List.all_eq_true,List.mem_range] at h2
 have h3:=h2 i (by have:=(List.getElem?_eq_some_iff.1 hr).1;omega)
 rw [hv,hr] at h3
 unfold mayRow at h3
 simp only [Bool.and_eq_true,beq_iff_eq] at h3
 exact h3.1
theorem shp_rows{V:List KV}{s u:Sto}(hs:mayB V s=true)(hu:mayB V u=true):s.length=u.length/\ ∀(i:Nat) r q,s[i]? =some r->u[i]? =some q->r.length=q.length:=by
 obtain ⟨a1,a2⟩:=mayB_rows hs
 obtain ⟨b1,b2⟩:=mayB_rows hu
 refine ⟨by omega,fun i r q hr hq=>?_⟩
 have hi:i<V.length:=by rw [<-a1];exact (List.getElem?_eq_some_iff.1 hr).1
 have e1:=a2 i _ r (List.getElem?_eq_getElem hi) hr
 have e2:=b2 i _ q (List.getElem?_eq_getElem hi) hq
 omega
theorem key_inj{V:List KV}{a b:ENd}(ha:Shp V a.2)(hb:Shp V b.2)(h1:a.1<=256)(h2:b.1<=256)(h:keyS a=keyS b):a=b:=by
 have hk:=u8_inj (keyI_u8 a) (keyI_u8 b) h
 unfold keyI at hk
 obtain ⟨k1,k2⟩:=List.append_inj hk rfl
 simp only [List.cons.injEq,b8_eq,and_true] at k1
 obtain ⟨k3,k4⟩:=k1
 rw [Int.fdiv_eq_ediv_of_nonneg _ (by decide),Int.fdiv_eq_ediv_of_nonneg _ (by decide)] at k4
 obtain ⟨e1,e2⟩:=shp_rows ha.may hb.may
 have e3:=keySto_inj ha.ws hb.ws e1 e2 k2
 obtain ⟨a1,a2⟩:=a
 obtain ⟨b1,b2⟩:=b
 simp only at*
 have:a1=b1:=by omega
 rw [this,e3]
theorem bytesBeq(a b:ByteArray):(a==b)=decide (a=b):=by
 obtain ⟨x⟩:=a
 obtain ⟨y⟩:=b
 have h:(ByteArray.mk x==ByteArray.mk y)=(x==y):=rfl
 rw [h,Bool.eq_iff_iff,decide_eq_true_eq,beq_iff_eq]
 exact ⟨fun h=>by rw [h],fun h=>by injection h⟩
theorem BS_inj{a b:List UInt8}(h:BS a=BS b):a=b:=by
 injection h with h
 simpa using h
abbrev enA(e:ENd):AV:= .ag [AI (e.1:Nat),rowsA e.2]
abbrev keyV(e:ENd):Value:= .string (BS (keyS e))
structure EndsOk(V:List KV)(l:List ENd):Prop where
 shp: ∀e,e∈l->Shp V e.2/\e.1<=256
theorem EndsOk.tail{V:List KV}{x:ENd}{l:List ENd}(h:EndsOk V (x::l)):EndsOk V l:=⟨fun e he=>h.shp e (.tail _ he)⟩
theorem pos_key{V:List KV}{e:ENd}(he:Shp V e.2/\e.1<=256): ∀{l:List ENd},EndsOk V l->(e∈l-> ∃p,posV .string (keyV e) (l.map keyV)=some (some p)/\p<l.length)/\(e∉l->posV .string (keyV e) (l.map keyV)=some none)
 | [],_=>⟨fun h=>(by cases h),fun _=>rfl⟩
 |x::l,h=>by
  obtain ⟨i1,i2⟩:=pos_key he h.tail
  have hx:=h.shp x (.head _)
  have hs:Instr.sameNow .string (keyV e) (keyV x)=some (decide (e=x)):=by
   show some (BS (keyS e)==BS (keyS x))=_
   rw [bytesBeq]
   congr 1
   rw [Bool.eq_iff_iff,decide_eq_true_eq,decide_eq_true_eq]
   exact ⟨fun hh=>key_inj he.1 hx.1 he.2 hx.2 (BS_inj hh),fun hh=>by rw [hh]⟩
  rw [List.map_cons,posV,hs]
  by_cases hex:e=x
  ·rw [decide_eq_true hex]
   exact ⟨fun _=>⟨0,rfl,by simp⟩,fun hn=>absurd (by rw [hex];exact List.mem_cons_self ..) hn⟩
  ·rw [decide_eq_false hex]
   refine ⟨fun hm=>?_,fun hn=>?_⟩
   ·rcases List.mem_cons.1 hm with hm|hm
    ·exact absurd hm hex
    ·obtain ⟨p,hp,hpl⟩:=i1 hm
     exact ⟨p+1,by simp only [hp],by simp;omega⟩
   ·have:=i2 fun hm=>hn (.tail _ hm)
    simp only [this]
abbrev valsI(n:Nat):List AV:=(List.range n).map fun i=>AI (i:Nat)
theorem valsI_succ(n:Nat):valsI n++[AI (n:Nat)]=valsI (n+1):=by
 unfold valsI
 rw [List.range_succ,List.map_append];rfl
def mapA(m:Nat):List ENd->AV
 | []=> .v (.map none)
 |_::_=> .v (.map (some m))
def mapL(m:Nat):List ENd->List AEnt
 | []=>[]
 |x::l=>[.mp m ((x::l).map keyV) (valsI (x::l).length)]
abbrev rnB(z:Value)(m:Nat)(r:RN):AV:= .ag [AI (r.reach:Nat), .ms z 2 r.ends.length,mapA m r.ends,AB r.miss]
abbrev rnL(b:Nat)(z:Value)(m:Nat)(r:RN):List AEnt:= .box b (rnB z m r):: .row 2 z (r.ends.map enA)::mapL m r.ends
abbrev rnV(r:RN):AV:= .ag [AI (r.reach:Nat), .sl 2 (r.ends.map enA) none, .un,AB r.miss]
abbrev k0(e:ENd):List Int:=[b8 (e.1:Nat),b8 (((e.1:Nat):Int).fdiv 256)]
theorem key_p(e:ENd)(h1:e.1<=1048576)(h2:e.2.length<=256)(h3: ∀r,r∈e.2->r.length<=64):Pure Tryz.prog gs0 282 [enA e] (AS (keyS e)):=by
 have ns:((e.2.map rowA).length:Int)=e.2.length:=by rw [List.length_map]
 have hb: ∀i,((e.2.take i).flatMap fun r=>r.flatMap keyW).length<=65536:=fun i=>by
  have: ∀l:List (List Int),(∀r,r∈l->r.length<=64)->(l.flatMap fun r=>r.flatMap keyW).length<=256*l.length:=by
   intro l
   induction l with
   |nil=>intro _;simp
   |cons r l ih=>
    intro hl
    rw [List.flatMap_cons,List.length_append,keyW_len,List.length_cons]
    have:=ih fun q hq=>hl q (.tail _ hq)
    have:=hl r (.head _)
    omega
  have:=this (e.2.take i) fun r hr=>h3 r (List.mem_of_mem_take hr)
  have h4:=List.length_take_le' i e.2
  omega
 have hk2: ∀i,(k0 e++(e.2.take i).flatMap fun r=>r.flatMap keyW).length<=65538:=fun i=>by
  rw [List.length_append];have:=hb i;show 2+_<=_;omega
 refine p_ tt_ok Tryz.func282 47 fun w0 h0 F hgs=>?_
 (repeat refine A.s rfl ?_)
 refine A.b rfl fun b1=>?_
 refine y_ ?_
 refine A.shift rfl rfl rfl rfl rfl rfl (by decide) ?_
 (repeat refine A.s rfl ?_)
 refine A.t rfl fun bl=>?_
 (repeat refine A.s rfl ?_)
 refine A.valE 3 rfl (x':= .sl 1 ((k0 e++(e.2.take 0).flatMap fun r=>r.flatMap keyW).map AU8) (some (.slice (some ⟨bl,0,none⟩) 2 2))) rfl ?_
 refine A.fullTail 1 2 (some ⟨bl,0,none⟩) (fun h=>by cases h) (fun x hx=>by injection hx with hx;subst hx;rfl) ?_
 refine y_ ?_
 refine A.valE 18 rfl (x':=AI (e.2.length:Nat)) (ai_eq ns) ?_
 refine A.keep [3,17,18,19] rfl ?_
 refine l_ (Λ':=[.tail 1 _]) ?_
 refine A.loopP (ι:=Nat×Value) (fun u=>(⟨[(3, .sl 1 ((k0 e++(e.2.take u.1).flatMap fun r=>r.flatMap keyW).map AU8) (some u.2)),(17,rowsA e.2),(18,AI (e.2.length:Nat)),(19,AI (u.1:Nat))],[]⟩,[.tail 1 u.2])) (fun u=>u.1<=e.2.length) (fun u=>e.2.length-u.1) (0, .slice (some ⟨bl,0,none⟩) 2 2) (Nat.zero_le _) rfl fun u hu ih=>?_
 obtain ⟨i,z⟩:=u
 simp only at hu
 refine y_ ?_
 by_cases hci:i<e.2.length
 ·refine Exists.elim (at_exN (l:=e.2) (i:=i) hci) fun r hr=>?_
  have hrl:=h3 r (List.mem_of_getElem? hr)
  have nr:((r.map AI32).length:Int)=r.length:=by rw [List.length_map]
  have htk:(e.2.take (i+1)).flatMap (fun r=>r.flatMap keyW)=(e.2.take i).flatMap (fun r=>r.flatMap keyW)++r.flatMap keyW:=by
   rw [List.take_add_one,hr,List.flatMap_append];simp
  have hk3:=hk2 i
  refine T_ rfl (by show decide ((i:Int)<(e.2.length:Nat))=true;rw [decide_eq_true_eq];omega) ?_
  refine i_ rfl (map_at hr) rfl ?_
  refine A.valE 24 rfl (x':=AI (r.length:Nat)) (ai_eq nr) ?_
  refine A.valE 3 rfl (x':= .sl 1 ((k0 e++(e.2.take i).flatMap (fun r=>r.flatMap keyW)++(r.take 0).flatMap keyW).map AU8) (some z)) (by rw [List.take_zero,List.flatMap_nil,List.append_nil]) ?_
  refine A.keep [3,17,18,19,23,24,25] rfl ?_
  refine A.loopP (ι:=Nat×Value) (fun u=>(⟨[(3, .sl 1 ((k0 e++(e.2.take i).flatMap (fun r=>r.flatMap keyW)++(r.take u.1).flatMap keyW).map AU8) (some u.2)),(17,rowsA e.2),(18,AI (e.2.length:Nat)),(19,AI (i:Nat)),(23,rowA r),(24,AI (r.length:Nat)),(25,AI (u.1:Nat))],[]⟩,[.tail 1 u.2])) (fun u=>u.1<=r.length) (fun u=>r.length-u.1) (0,z) (Nat.zero_le _) rfl fun u hu2 jh=>?_
  obtain ⟨j,z2⟩:=u
  simp only at hu2
  have hj4:((r.take j).flatMap keyW).length<=256:=by
   rw [keyW_len];have:=List.length_take_le' j r;omega
  refine A.valE 3 rfl (x':= .sl 1 ((k0 e++(e.2.take i).flatMap (fun r=>r.flatMap keyW)++(r.take j).flatMap keyW).map AU8) (some z2)) rfl ?_
  refine A.entsEq (Λ':=[.tail 1 z2]) rfl ?_
  refine y_ ?_
  by_cases hcj:j<r.length
  ·refine Exists.elim (at_exN (l:=r) (i:=j) hcj) fun x hx=>?_
   have htj:(r.take (j+1)).flatMap keyW=(r.take j).flatMap keyW++keyW x:=by
    rw [List.take_add_one,hx,List.flatMap_append];simp
   refine T_ rfl (by show decide ((j:Int)<(r.length:Nat))=true;rw [decide_eq_true_eq];omega) ?_
   refine i_ rfl (map_at hx) rfl ?_
   refine A.shift rfl rfl rfl rfl rfl rfl (by decide) ?_
   refine y_ ?_
   refine A.shift rfl rfl rfl rfl rfl rfl (by decide) ?_
   refine y_ ?_
   refine A.shift rfl rfl rfl rfl rfl rfl (by decide) ?_
   refine t_ fun bl=>?_
   refine A.append (i:=by exact ATl.here) rfl rfl rfl rfl rfl rfl rfl rfl rfl rfl rfl rfl rfl rfl (by show (((k0 e++(e.2.take i).flatMap (fun r=>r.flatMap keyW)++(r.take j).flatMap keyW).map AU8).length+4)*1<=_;rw [List.length_map,List.length_append];omega) fun z3=>?_
   refine y_ ?_
   refine A.valE 25 rfl (x':=AI ((j+1:Nat):Int)) (inc_eq j (by omega)) ?_
   refine A.valE 3 rfl (x':= .sl 1 ((k0 e++(e.2.take i).flatMap (fun r=>r.flatMap keyW)++(r.take (j+1)).flatMap keyW).map AU8) (some z3)) (by rw [htj,<-List.append_assoc,List.map_append (l₂:=keyW x)];try rfl) ?_
   refine l_ (Λ':=[.tail 1 z3]) ?_
   refine u_ (jh (j+1,z3) (by show j+1<=_;omega) (by show _-(j+1)<_-j;omega))
  ·refine F_ rfl (by show decide ((j:Int)<(r.length:Nat))=false;rw [decide_eq_false_iff_not];omega) ?_
   refine A.valE 19 rfl (x':=AI ((i+1:Nat):Int)) (inc_eq i (by omega)) ?_
   refine A.valE 3 rfl (x':= .sl 1 ((k0 e++(e.2.take (i+1)).flatMap fun r=>r.flatMap keyW).map AU8) (some z2)) (by rw [htk,List.take_of_length_le (l:=r) (i:=j) (by omega),List.append_assoc]) ?_
   refine u_ (ih (i+1,z2) (by show i+1<=_;omega) (by show _-(i+1)<_-i;omega))
 ·refine F_ rfl (by show decide ((i:Int)<(e.2.length:Nat))=false;rw [decide_eq_false_iff_not];omega) ?_
  refine A.valE 45 rfl (x':= .sl 1 ((keyI e).map fun n=> .v (.int .u8 n)) (some z)) (by rw [List.take_of_length_le (by omega)];rfl) ?_
  refine A.bytesStr (s:=keyS e) rfl rfl rfl rfl rfl rfl rfl rfl rfl rfl rfl ?_
  exact yr_
structure RnOk(V:List KV)(r:RN):Prop where
 ends:EndsOk V r.ends
 len:r.ends.length<=1048576
abbrev withE(r:RN)(l:List ENd):RN:=⟨r.reach,l,r.miss⟩
theorem shp_short{V:List KV}{s:Sto}(h:Shp V s):s.length<=256/\ ∀r,r∈s->r.length<=64:=mayB_short h.may
theorem addE_yes{l:List ENd}{e:ENd}(h:e∈l):addE l e=l:=by unfold addE;rw [if_pos h]
theorem addE_no{l:List ENd}{e:ENd}(h:e∉l):addE l e=l++[e]:=by unfold addE;rw [if_neg h]
theorem mapA_cons(m:Nat)(l:List ENd)(h:l≠[]):mapA m l= .v (.map (some m)):=by cases l with|nil=>exact absurd rfl h|cons x l=>rfl
theorem mapL_cons(m:Nat)(l:List ENd)(h:l≠[]):mapL m l=[.mp m (l.map keyV) (valsI l.length)]:=by cases l with|nil=>exact absurd rfl h|cons x l=>rfl
theorem add19_p{V:List KV}(b m:Nat)(z:Value)(r:RN)(h:RnOk V r)(e:ENd)(he:Shp V e.2/\e.1<=256):
 FunE Tryz.prog gs0 214 [ptrA b,enA e] (rnL b z m r) (fun _:Value×Nat=> .tp []) (fun u=>rnL b u.1 u.2 (withE r (addE r.ends e))) (fun _=>True):=by
 obtain ⟨hs1,hs2⟩:=shp_short he.1
 have hkey:=key_p e (by have:=he.2;omega) hs1 hs2
 obtain ⟨p1,p2⟩:=pos_key he h.ends
 have hlen:=h.len
 have n1:(r.ends.map enA).length=r.ends.length:=List.length_map ..
 unfold FunE
 by_cases hr0:r.ends=[]
 ·obtain ⟨rc,l,ms⟩:=r
  simp only at hr0
  subst hr0
  refine Fun.of (S:=tt) (fn:=Tryz.f214) (n:=49) tt_ok Tryz.func214 rfl rfl rfl rfl fun w0 h0 F hgs=>?_
  (repeat refine A.s rfl ?_)
  refine A.b rfl fun b3=>?_
  refine y_ ?_
  refine A.eqMap rfl rfl rfl rfl rfl rfl rfl rfl ?_
  refine y_ ?_
  refine A.makeMap rfl rfl rfl rfl fun bm=>?_
  refine y_ ?_
  refine c_ hkey ?_
  refine A.lookupNilG (c:=true) (v:= .int .i64 0) rfl rfl rfl rfl rfl rfl rfl rfl (by kernel_rfl) rfl rfl rfl rfl ?_
  refine y_ ?_
  refine d_ 10 [0,1,2,3,4,5,6,7,8,9] [] ?_
  refine WA.nil (l:=[]) rfl ?_
  refine A.entsEq (Λ':=[.mp bm [] [], .box b3 (enA e), .box b (.ag [AI (rc:Nat), .ms z 2 0, .v (.map (some bm)),AB ms]), .row 2 z []]) rfl ?_
  refine A.updateG rfl rfl rfl rfl rfl rfl rfl rfl rfl rfl rfl ?_
  refine y_ ?_
  refine A.drawL [(7, .row 2 z [])] 8 [0,1,2,3,4,5,6,7] (fun i=>if i=7 then [7,6] else []) [] (perm_pick [3,0,1,2] rfl rfl rfl rfl) rfl rfl (by rfl) (by kernel_rfl) (by kernel_rfl) ?_
  refine w_ ?_
  refine WA.lit rfl rfl rfl rfl rfl rfl rfl fun bw=>?_
  refine WA.appendR rfl rfl rfl rfl rfl rfl rfl rfl rfl rfl rfl rfl rfl rfl rfl rfl rfl rfl rfl rfl (.pub (j:=6) rfl rfl (.sub .refl)) (by show (0+1)*2<=_;decide) (by show (0+1)*2*32<=_;decide) fun z2=>?_
  refine WA.nil (l:=[_]) rfl ?_
  refine y_ ?_
  refine l_ (Λ':=[.row 2 z2 [enA e], .mp bm [keyV e] [AI 0], .box b (rnB z2 bm ⟨rc,[e],ms⟩)]) ?_
  refine A.perm (Λ':=rnL b z2 bm ⟨rc,[e],ms⟩) (perm_pick [2,0,1] rfl rfl rfl rfl) ?_
  exact A.ret0 rfl rfl (.refl _) ⟨(z2,bm), .refl,rfl,trivial⟩
 ·have hml:=mapL_cons m r.ends hr0
  have hma:=mapA_cons m r.ends hr0
  have hln:=List.length_pos_iff.2 hr0
  rw [show rnL b z m r=[.box b (.ag [AI (r.reach:Nat), .ms z 2 r.ends.length, .v (.map (some m)),AB r.miss]), .row 2 z (r.ends.map enA), .mp m (r.ends.map keyV) (valsI r.ends.length)] by show .box b (rnB z m r):: .row 2 z (r.ends.map enA)::mapL m r.ends=_;rw [hml];show AEnt.box b (.ag [_,_,mapA m r.ends,_])::_=_;rw [hma]]
  by_cases hin:e∈r.ends
  ·obtain ⟨p,hp,hpl⟩:=p1 hin
   refine Fun.of (S:=tt) (fn:=Tryz.f214) (n:=49) tt_ok Tryz.func214 rfl rfl rfl rfl fun w0 h0 F hgs=>?_
   (repeat refine A.s rfl ?_)
   refine A.b rfl fun b3=>?_
   refine y_ ?_
   refine A.eqMap rfl rfl rfl rfl rfl rfl rfl rfl ?_
   refine y_ ?_
   refine c_ hkey ?_
   refine A.lookupG (c:=true) rfl rfl rfl rfl rfl rfl rfl rfl hp (x:=AI (p:Nat)) (by show (valsI r.ends.length)[p]? =_;unfold valsI;rw [List.getElem?_map,List.getElem?_range hpl];rfl) rfl rfl ?_
   refine y_ ?_
   refine l_ (Λ':=[.box b (.ag [AI (r.reach:Nat), .ms z 2 r.ends.length, .v (.map (some m)),AB r.miss]), .row 2 z (r.ends.map enA), .mp m (r.ends.map keyV) (valsI r.ends.length)]) ?_
   refine A.entsEq (Λ':=rnL b z m r) (by show _= .box b (rnB z m r):: .row 2 z (r.ends.map enA)::mapL m r.ends;rw [hml];show _=AEnt.box b (.ag [_,_,mapA m r.ends,_])::_;rw [hma]) ?_
   exact A.ret0 rfl rfl (.refl _) ⟨(z,m), .refl,by rw [addE_yes hin],trivial⟩
  ·have hp:=p2 hin
   refine Fun.of (S:=tt) (fn:=Tryz.f214) (n:=49) tt_ok Tryz.func214 rfl rfl rfl rfl fun w0 h0 F hgs=>?_
   (repeat refine A.s rfl ?_)
   refine A.b rfl fun b3=>?_
   refine y_ ?_
   refine A.eqMap rfl rfl rfl rfl rfl rfl rfl rfl ?_
   refine y_ ?_
   refine c_ hkey ?_
   refine A.lookupNilG (c:=true) (v:= .int .i64 0) rfl rfl rfl rfl rfl rfl rfl rfl (by kernel_rfl) rfl hp rfl rfl ?_
   refine y_ ?_
   refine d_ 10 [0,1,2,3,4,5,6,7,8,9] [] ?_
   refine WA.nil (l:=[]) rfl ?_
   refine A.entsEq (Λ':=[.box b3 (enA e), .box b (.ag [AI (r.reach:Nat), .ms z 2 r.ends.length, .v (.map (some m)),AB r.miss]), .row 2 z (r.ends.map enA), .mp m (r.ends.map keyV) (valsI r.ends.length)]) rfl ?_
   refine A.updateG rfl rfl rfl rfl rfl rfl rfl rfl rfl hp rfl ?_
   refine y_ ?_
   refine A.drawL [(7, .row 2 z (r.ends.map enA))] 8 [0,1,2,3,4,5,6,7] (fun i=>if i=7 then [7,6] else []) [] (perm_pick [3,0,1,2] rfl rfl rfl rfl) rfl rfl (by rfl) (by kernel_rfl) (by kernel_rfl) ?_
   refine w_ ?_
   refine WA.lit rfl rfl rfl rfl rfl rfl rfl fun bw=>?_
   refine WA.appendR rfl rfl rfl rfl rfl rfl rfl rfl rfl rfl rfl rfl rfl rfl rfl rfl rfl rfl rfl rfl (.pub (j:=6) rfl rfl (.sub .refl)) (by show ((r.ends.map enA).length+1)*2<=_;rw [n1];omega) (by show ((r.ends.map enA).length+1)*2*32<=_;rw [n1];omega) fun z2=>?_
   refine WA.nil (l:=[_]) rfl ?_
   refine y_ ?_
   have hne2:r.ends++[e]≠[]:=by simp
   refine l_ (Λ':=[.row 2 z2 (r.ends.map enA++[enA e]), .mp m (r.ends.map keyV++[keyV e]) (valsI r.ends.length++[AI (r.ends.length:Nat)]), .box b (.ag [AI (r.reach:Nat), .ms z2 2 ((r.ends.map enA).length+1), .v (.map (some m)),AB r.miss])]) ?_
   refine A.perm (perm_pick [2,0,1] rfl rfl rfl rfl) ?_
   refine A.entsEq (Λ':=rnL b z2 m (withE r (addE r.ends e))) (by
    rw [addE_no hin]
    show _= .box b (.ag [AI (r.reach:Nat), .ms z2 2 (r.ends++[e]).length,mapA m (r.ends++[e]),AB r.miss]):: .row 2 z2 ((r.ends++[e]).map enA)::mapL m (r.ends++[e])
    rw [mapL_cons _ _ hne2,mapA_cons _ _ hne2,valsI_succ,List.map_append,List.map_append,List.length_append,n1];rfl) ?_
   exact A.ret0 rfl rfl (.refl _) ⟨(z2,m), .refl,rfl,trivial⟩
theorem rn_nil(h:GH)(y:Value)(q:Rp h (.ag [AI 0, .v (.slice none 0 0), .v (.map none),AB false]) y):Rp h (rnB (.slice none 0 0) 0 nilR) y:=by
 rw [Rp_ag] at q⊢
 obtain ⟨ds,rfl,q⟩:=q
 refine ⟨ds,rfl,?_⟩
 rw [RpC_cons] at q⊢
 obtain ⟨v,vs,rfl,q1,q2⟩:=q
 refine ⟨v,vs,rfl,q1,?_⟩
 rw [RpC_cons] at q2⊢
 obtain ⟨v,vs,rfl,q1,q2⟩:=q2
 rw [Rp_v] at q1
 obtain ⟨rfl,_⟩:=q1
 exact ⟨_,vs,rfl,Rp_ms.2 ⟨rfl,none,0,rfl⟩,q2⟩
theorem nilR_ok(V:List KV):RnOk V nilR:=⟨⟨fun e he=>by cases he⟩,Nat.zero_le _⟩
theorem fin_p{V:List KV}(s:Sto)(hs:Shp V s):Pure Tryz.prog gs0 133 [rowsA s] (rnV (finR s)):=by
 refine p_ tt_ok Tryz.func133 7 fun w0 h0 F hgs=>?_
 (repeat refine A.s rfl ?_)
 refine A.b rfl fun b2=>?_
 refine A.boxAs (b:=b2) (x':=rnB (.slice none 0 0) 0 nilR) (.refl _) rn_nil ?_
 refine A.nilRow 2 ?_
 refine A.perm (Λ':=rnL b2 (.slice none 0 0) 0 nilR) (.swap _ _ _) ?_
 have h1:=add19_p b2 0 (.slice none 0 0) nilR (nilR_ok V) (0,s) ⟨hs,Nat.zero_le _⟩
 refine y_ ?_
 refine A.e rfl h1 s_ (Λ2:=[]) (by rw [List.append_nil]) fun u _=>?_
 refine A.entsEq (Λ':=[.box b2 (.ag [AI 0, .ms u.1 2 1, .v (.map (some u.2)),AB false]), .row 2 u.1 [enA (0,s)], .mp u.2 [keyV (0,s)] (valsI 1)]) rfl ?_
 refine l_ (Λ':=[.box b2 (.ag [AI 0, .ms u.1 2 1, .v (.map (some u.2)),AB false]), .row 2 u.1 [enA (0,s)]]) ?_
 refine A.freezeRowV 2 u.1 (x':= .ag [AI 0, .sl 2 [enA (0,s)] none, .v (.map (some u.2)),AB false]) rfl fz_ ?_
 refine y_ ?_
 refine A.retC (Λ':=[]) rfl rfl rfl rfl rfl (List.nil_sublist _) ⟨?_,rfl⟩
 exact s_
abbrev curR(r:RN)(n:Nat)(q:RN)(i:Nat):RN:=⟨max r.reach (n+q.reach),(q.ends.take i).foldl (fun l e=>addE l (n+e.1,e.2)) r.ends,r.miss||q.miss⟩
theorem cur_ok{V:List KV}{r q:RN}{n:Nat}(h:RnOk V r)(hq: ∀e,e∈q.ends->Shp V e.2/\n+e.1<=256)(hl:r.ends.length+q.ends.length<=1048576)(i:Nat):RnOk V (curR r n q i):=by
 refine ⟨⟨fun e he=>?_⟩,?_⟩
 ·rcases (mem_addAll _ _).1 he with he|⟨x,hx,rfl⟩
  ·exact h.ends.shp e he
  ·exact hq x (List.mem_of_mem_take hx)
 ·have:=addAll_len (n:=n) (q.ends.take i) r.ends
  have h2:=List.length_take_le' i q.ends
  show ((q.ends.take i).foldl (fun l e=>addE l (n+e.1,e.2)) r.ends).length<=_
  omega
theorem cur_next{r q:RN}{n i:Nat}{e:ENd}(he:q.ends[i]? =some e):curR r n q (i+1)=withE (curR r n q i) (addE (curR r n q i).ends (n+e.1,e.2)):=by
 unfold curR withE
 congr 1
 rw [List.take_add_one,he,List.foldl_append];rfl
theorem join19_p{V:List KV}(b m:Nat)(z:Value)(r q:RN)(n:Nat)(h:RnOk V r)(hq: ∀e,e∈q.ends->Shp V e.2/\n+e.1<=256)(hl:r.ends.length+q.ends.length<=1048576)(h1:r.reach<=1048576)(h2:n+q.reach<=1048576):
 FunE Tryz.prog gs0 136 [ptrA b,AI (n:Nat),rnV q] (rnL b z m r) (fun _:Value×Nat=> .tp []) (fun u=>rnL b u.1 u.2 (joinR r n q)) (fun _=>True):=by
 have nq:((q.ends.map enA).length:Int)=q.ends.length:=by rw [List.length_map]
 have hmx:(if ((r.reach:Nat):Int)<IntKind.i64.wrap (((n:Nat):Int)+((q.reach:Nat):Int)) then IntKind.i64.wrap (((n:Nat):Int)+((q.reach:Nat):Int)) else ((r.reach:Nat):Int))=((max r.reach (n+q.reach):Nat):Int):=by
  rw [wr64 _ (by omega)]
  split<;>omega
 obtain ⟨rc,l,ms⟩:=r
 unfold FunE
 cases ms with
 |true=>
  refine Fun.of (S:=tt) (fn:=Tryz.f136) (n:=48) tt_ok Tryz.func136 rfl rfl rfl rfl fun w0 h0 F hgs=>?_
  (repeat refine A.s rfl ?_)
  refine A.b rfl fun b5=>?_
  refine y_ ?_
  refine d_ 10 [0,1,2,3,4,5,6,7,8,9] [] ?_
  refine WA.nil (l:=[]) rfl ?_
  refine A.entsEq (Λ':= .box b5 (rnV q):: .box b (.ag [AI (rc:Nat), .ms z 2 l.length,mapA m l,AB true]):: .row 2 z (l.map enA)::mapL m l) rfl ?_
  refine e_ 17 rfl (x':=AI ((max rc (n+q.reach):Nat):Int)) (ai_eq hmx) ?_
  refine A.valE 33 rfl (x':=AI (q.ends.length:Nat)) (ai_eq nq) ?_
  refine A.keep [0,1,32,33,34] rfl ?_
  refine A.less (Λ':=rnL b z m (curR ⟨rc,l,true⟩ n q 0)) (.cons _ (.refl _)) ?_
  refine A.loopP (ι:=Nat×Value×Nat) (fun u=>(⟨[(0,ptrA b),(1,AI (n:Nat)),(32, .sl 2 (q.ends.map enA) none),(33,AI (q.ends.length:Nat)),(34,AI (u.1:Nat))],[]⟩,rnL b u.2.1 u.2.2 (curR ⟨rc,l,true⟩ n q u.1))) (fun u=>u.1<=q.ends.length) (fun u=>q.ends.length-u.1) (0,z,m) (Nat.zero_le _) rfl fun u hu ih=>?_
  obtain ⟨i,z1,m1⟩:=u
  simp only at hu
  refine y_ ?_
  by_cases hci:i<q.ends.length
  ·refine Exists.elim (at_exN (l:=q.ends) (i:=i) hci) fun e he=>?_
   have hqe:=hq e (List.mem_of_getElem? he)
   have hadd:=add19_p b m1 z1 (curR ⟨rc,l,true⟩ n q i) (cur_ok h hq hl i) (n+e.1,e.2) ⟨hqe.1,hqe.2⟩
   rw [<-cur_next he] at hadd
   refine T_ rfl (by show decide ((i:Int)<(q.ends.length:Nat))=true;rw [decide_eq_true_eq];omega) ?_
   refine j_ rfl (map_at he) rfl ?_
   (repeat refine A.s rfl ?_)
   refine A.b rfl fun b7=>?_
   refine y_ ?_
   refine A.less (Λ':=rnL b z1 m1 (curR ⟨rc,l,true⟩ n q i)) (.cons _ (.refl _)) ?_
   refine A.valE 45 rfl (x':=enA (n+e.1,e.2)) (by show AV.ag [AI (IntKind.i64.wrap (((n:Nat):Int)+((e.1:Nat):Int))),rowsA e.2]=_;rw [wr64 _ (by omega)];rfl) ?_
   refine A.e rfl hadd s_ (Λ2:=[]) (by rw [List.append_nil]) fun v _=>?_
   refine y_ ?_
   refine A.valE 34 rfl (x':=AI ((i+1:Nat):Int)) (inc_eq i (by omega)) ?_
   refine A.entsEq (Λ':=rnL b v.1 v.2 (curR ⟨rc,l,true⟩ n q (i+1))) (List.append_nil _) ?_
   refine u_ (ih (i+1,v.1,v.2) (by show i+1<=_;omega) (by show _-(i+1)<_-i;omega))
  ·refine F_ rfl (by show decide ((i:Int)<(q.ends.length:Nat))=false;rw [decide_eq_false_iff_not];omega) ?_
   refine A.entsEq (Λ':=rnL b z1 m1 (joinR ⟨rc,l,true⟩ n q)) (by
    have e1:curR ⟨rc,l,true⟩ n q i=joinR ⟨rc,l,true⟩ n q:=by
     unfold curR joinR
     rw [List.take_of_length_le (by omega)]
    show rnL b z1 m1 (curR ⟨rc,l,true⟩ n q i)=_
    rw [e1]) ?_
   exact A.ret0 rfl rfl (.refl _) ⟨(z1,m1), .refl,rfl,trivial⟩
 |false=>
  refine Fun.of (S:=tt) (fn:=Tryz.f136) (n:=48) tt_ok Tryz.func136 rfl rfl rfl rfl fun w0 h0 F hgs=>?_
  (repeat refine A.s rfl ?_)
  refine A.b rfl fun b5=>?_
  refine y_ ?_
  refine d_ 10 [0,1,2,3,4,5,6,7,8,9] [] ?_
  refine WA.nil (l:=[]) rfl ?_
  refine A.entsEq (Λ':= .box b5 (rnV q):: .box b (.ag [AI (rc:Nat), .ms z 2 l.length,mapA m l,AB false]):: .row 2 z (l.map enA)::mapL m l) rfl ?_
  refine e_ 17 rfl (x':=AI ((max rc (n+q.reach):Nat):Int)) (ai_eq hmx) ?_
  refine A.valE 33 rfl (x':=AI (q.ends.length:Nat)) (ai_eq nq) ?_
  refine A.keep [0,1,32,33,34] rfl ?_
  refine A.less (Λ':=rnL b z m (curR ⟨rc,l,false⟩ n q 0)) (.cons _ (.refl _)) ?_
  refine A.loopP (ι:=Nat×Value×Nat) (fun u=>(⟨[(0,ptrA b),(1,AI (n:Nat)),(32, .sl 2 (q.ends.map enA) none),(33,AI (q.ends.length:Nat)),(34,AI (u.1:Nat))],[]⟩,rnL b u.2.1 u.2.2 (curR ⟨rc,l,false⟩ n q u.1))) (fun u=>u.1<=q.ends.length) (fun u=>q.ends.length-u.1) (0,z,m) (Nat.zero_le _) rfl fun u hu ih=>?_
  obtain ⟨i,z1,m1⟩:=u
  simp only at hu
  refine y_ ?_
  by_cases hci:i<q.ends.length
  ·refine Exists.elim (at_exN (l:=q.ends) (i:=i) hci) fun e he=>?_
   have hqe:=hq e (List.mem_of_getElem? he)
   have hadd:=add19_p b m1 z1 (curR ⟨rc,l,false⟩ n q i) (cur_ok h hq hl i) (n+e.1,e.2) ⟨hqe.1,hqe.2⟩
   rw [<-cur_next he] at hadd
   refine T_ rfl (by show decide ((i:Int)<(q.ends.length:Nat))=true;rw [decide_eq_true_eq];omega) ?_
   refine j_ rfl (map_at he) rfl ?_
   (repeat refine A.s rfl ?_)
   refine A.b rfl fun b7=>?_
   refine y_ ?_
   refine A.less (Λ':=rnL b z1 m1 (curR ⟨rc,l,false⟩ n q i)) (.cons _ (.refl _)) ?_
   refine A.valE 45 rfl (x':=enA (n+e.1,e.2)) (by show AV.ag [AI (IntKind.i64.wrap (((n:Nat):Int)+((e.1:Nat):Int))),rowsA e.2]=_;rw [wr64 _ (by omega)];rfl) ?_
   refine A.e rfl hadd s_ (Λ2:=[]) (by rw [List.append_nil]) fun v _=>?_
   refine y_ ?_
   refine A.valE 34 rfl (x':=AI ((i+1:Nat):Int)) (inc_eq i (by omega)) ?_
   refine A.entsEq (Λ':=rnL b v.1 v.2 (curR ⟨rc,l,false⟩ n q (i+1))) (List.append_nil _) ?_
   refine u_ (ih (i+1,v.1,v.2) (by show i+1<=_;omega) (by show _-(i+1)<_-i;omega))
  ·refine F_ rfl (by show decide ((i:Int)<(q.ends.length:Nat))=false;rw [decide_eq_false_iff_not];omega) ?_
   refine A.entsEq (Λ':=rnL b z1 m1 (joinR ⟨rc,l,false⟩ n q)) (by
    have e1:curR ⟨rc,l,false⟩ n q i=joinR ⟨rc,l,false⟩ n q:=by
     unfold curR joinR
     rw [List.take_of_length_le (by omega)]
    show rnL b z1 m1 (curR ⟨rc,l,false⟩ n q i)=_
    rw [e1]) ?_
   exact A.ret0 rfl rfl (.refl _) ⟨(z1,m1), .refl,rfl,trivial⟩
abbrev optS(o:Option Sto):AV:= .tp [rowsA (o.getD []),AB o.isSome]
theorem opt_cases{α:Type}(o:Option α):o=none\/ ∃x,o=some x:=by
 cases o with
 |none=>exact .inl rfl
 |some x=>exact .inr ⟨x,rfl⟩
theorem asg_put{V:List KV}{s out:Sto}(hs:StOk V s)(ho:StOk V out){e:KE}{to:PL}{x:Int}{q:Int×Int}(hw:wfK e)(ha:assignB V to e=true)(hv:valueM s e=some x)(hp:placeM s to.v to.ix=some q):StOk V (putM out q.1 q.2 x):=by
 refine ho.put (value_in hs hw hv) fun y hy=>?_
 have hvv:q.1=to.v:=place_v hp
 rw [hvv] at hy
 unfold assignB at ha
 split at ha
 ·cases ha
 ·simp only [hy,Bool.and_eq_true] at ha
  exact prim_fits (sound_prim (goods hs hy)) (value_fits hs ha.2 hv)
structure As where
 i:Nat
 out:Sto
theorem pl_wf{V:List KV}{C:List Int}{p:PR}(u:Un V C p){t:PL}(ht:t∈p.to):wfKl t.ix/\t.ix.length<=281474976710656:=by
 have:=u.loc.to t ht
 refine ⟨this.1,?_⟩
 have:=this.2.1
 omega
theorem asgn_p{V:List KV}{C:List Int}(p:PR)(u:Un V C p)(hk:p.kind=4)(s:Sto)(hs:StOk V s):Pure Tryz.prog gs0 134 [cellsR p,rowsA s] (optS (asg19 s p.to p.e s)):=by
 obtain ⟨k1,k2⟩:=u.k4 hk
 have n2:((p.to.map encPl).length:Int)=p.to.length:=by rw [List.length_map]
 have hto8:=(kind_lens (u.kb (by omega))).1
 refine Exists.elim (show∃R,R=asg19 s p.to p.e s from ⟨_,rfl⟩) fun R hR=>?_
 rw [<-hR]
 refine p_ tt_ok Tryz.func134 53 fun w0 h0 F hgs=>?_
 (repeat refine A.s rfl ?_)
 refine A.b rfl fun b2=>?_
 refine y_ ?_
 refine A.valE 17 rfl (x':=AI (p.to.length:Nat)) (ai_eq n2) ?_
 refine A.keep [1,2,6,16,17,18] rfl ?_
 refine A.loopP (ι:=As) (fun v=>(⟨[(1,rowsA s),(2,ptrA b2),(6,rowsA v.out),(16,plsA p.to),(17,AI (p.to.length:Nat)),(18,AI (v.i:Nat))],[]⟩,[.box b2 (cellsR p)]))
  (fun v=>v.i<=p.to.length/\StOk V v.out/\R=asg19 s (p.to.drop v.i) (p.e.drop v.i) v.out) (fun v=>p.to.length-v.i) ⟨0,s⟩ ⟨Nat.zero_le _,hs,by rw [List.drop_zero,List.drop_zero];exact hR⟩ rfl fun v hv ih=>?_
 obtain ⟨i,out⟩:=v
 obtain ⟨hi1,ho,hRi⟩:=hv
 simp only at hi1 ho hRi
 refine y_ ?_
 by_cases hci:i<p.to.length
 ·refine Exists.elim (at_exN (l:=p.to) (i:=i) hci) fun t ht=>?_
  refine Exists.elim (at_exN (l:=p.e) (i:=i) (by omega)) fun e he=>?_
  obtain ⟨w1,w2⟩:=pl_wf u (List.mem_of_getElem? ht)
  have we:=u.wfE e (List.mem_of_getElem? he)
  have hvp:=Value_p s hs.ws e we
  rw [encK_eq] at hvp
  have hpp:=Place_p s hs.ws t.v t.ix w1 w2
  have hput:=fun a b x=>ho.small.put_p a b x
  have hab:assignB V t e=true:=by
   have hz:(p.to.zip p.e)[i]? =some (t,e):=by rw [List.getElem?_zip_eq_some];exact ⟨ht,he⟩
   exact List.all_eq_true.1 k2 (t,e) (List.mem_of_getElem? hz)
  rw [drop_at ht,drop_at he,asg19] at hRi
  refine T_ rfl (by show decide ((i:Int)<(p.to.length:Nat))=true;rw [decide_eq_true_eq];omega) ?_
  refine j_ rfl (map_at ht) rfl ?_
  (repeat refine A.s rfl ?_)
  refine A.b rfl fun b8=>?_
  refine y_ ?_
  refine i_ rfl (encKl_at he) (encK_eq e) ?_
  refine c_ hvp ?_
  refine n_ hpp ?_
  refine Or.elim (opt_cases (valueM s e)) (fun hx=>?_) (fun hx=>?_)
  ·rw [hx] at hRi
   refine A.valE 30 rfl (x':=optA none) (by rw [hx]) ?_
   refine e_ 10 rfl (x':=AB false) (by rw [hx];rfl) ?_
   refine q_ ?_
   rw [hRi]
   exact s_
  ·refine Exists.elim hx fun x hx=>?_
   rw [hx] at hRi
   refine Or.elim (opt_cases (placeM s t.v t.ix)) (fun hq=>?_) (fun hq=>?_)
   ·rw [hq] at hRi
    refine A.valE 10 rfl (x':=AB true) (by rw [hx];rfl) ?_
    refine e_ 36 rfl (x':=optP none) (by rw [hq]) ?_
    refine q_ ?_
    rw [hRi]
    exact s_
   ·refine Exists.elim hq fun q hq=>?_
    rw [hq] at hRi
    refine A.valE 10 rfl (x':=AB true) (by rw [hx];rfl) ?_
    refine A.valE 9 rfl (x':=AI32 x) (by rw [hx];rfl) ?_
    refine e_ 36 rfl (x':=optP (some q)) (by rw [hq]) ?_
    refine c_ (hput q.1 q.2 x) ?_
    refine A.valE 18 rfl (x':=AI ((i+1:Nat):Int)) (inc_eq i (by omega)) ?_
    refine l_ (Λ':=[.box b2 (cellsR p)]) ?_
    refine u_ (ih ⟨i+1,putM out q.1 q.2 x⟩ ⟨by show i+1<=_;omega,asg_put hs ho we hab hx hq,hRi⟩ (by show _-(i+1)<_-i;omega))
 ·refine A.gF rfl (by show decide ((i:Int)<(p.to.length:Nat))=false;rw [decide_eq_false_iff_not];omega) ?_
  rw [List.drop_eq_nil_of_le (by omega:p.to.length<=i),asg19] at hRi
  refine y_ ?_
  refine q_ ?_
  rw [hRi]
  exact .refl
theorem inp_eq(op:List Int)(e:EL)(r:TR)(c it:Int)(to:PL)(s:Sto){q:Int×Int}(h:placeM s to.v to.ix=some q):inp19 op (e::r) c it to s=if c∈op/\e.1=c/\fitsB it e.2=true then some (putM s q.1 q.2 e.2) else none:=by
 unfold inp19;rw [h]
theorem inp_no(op:List Int)(t:TR)(c it:Int)(to:PL)(s:Sto)(h:placeM s to.v to.ix=none):inp19 op t c it to s=none:=by
 unfold inp19;rw [h]
theorem input19_p{V:List KV}(t:TR)(op:List Int)(f:Nat)(c it:Int)(to:PL)(s:Sto)(hs:StOk V s)(ht:TrI t)(hw:wfKl to.ix)(hn:to.ix.length<=281474976710656)(ho:op.length<=281474976710656):Pure Tryz.prog gs0 135 [whA t op f,AI c,AU8 it,encPl to,rowsA s] (optS (inp19 op t c it to s)):=by
 have hpp:=Place_p s hs.ws to.v to.ix hw hn
 have hhas:=has19_p op c ho
 refine Or.elim (opt_cases (placeM s to.v to.ix)) (fun hq=>?_) (fun hq=>?_)
 ·rw [inp_no op t c it to s hq]
  rw [hq] at hpp
  refine p_ tt_ok Tryz.func135 65 fun w0 h0 F hgs=>?_
  (refine b_ fun bx=>?_;refine b_ fun bx=>?_;refine y_ ?_)
  refine c_ hpp ?_
  refine q_ ?_
  exact s_
 obtain ⟨q,hq⟩:=hq
 rw [hq] at hpp
 by_cases hc:op.contains c=true
 case neg=>
  have hc0:op.contains c=false:=by simpa using hc
  have hR:inp19 op t c it to s=none:=by
   cases t with
   |nil=>unfold inp19;rw [hq]
   |cons e r=>rw [inp_eq op e r c it to s hq,if_neg (fun h=>hc (List.contains_iff_mem.2 h.1))]
  rw [hR]
  rw [hc0] at hhas
  refine p_ tt_ok Tryz.func135 65 fun w0 h0 F hgs=>?_
  (refine b_ fun bx=>?_;refine b_ fun bx=>?_;refine y_ ?_)
  refine c_ hpp ?_
  refine c_ hhas ?_
  refine q_ ?_
  exact s_
 rw [hc] at hhas
 have hcm:=List.contains_iff_mem.1 hc
 cases t with
 |nil=>
  have hR:inp19 op [] c it to s=none:=by unfold inp19;rw [hq]
  rw [hR]
  refine p_ tt_ok Tryz.func135 65 fun w0 h0 F hgs=>?_
  (refine b_ fun bx=>?_;refine b_ fun bx=>?_;refine y_ ?_)
  refine c_ hpp ?_
  refine c_ hhas ?_
  refine q_ ?_
  exact s_
 |cons e r=>
  have hfit:=fitsq_p it e.2 (ht e (.head _))
  have hput:=hs.small.put_p q.1 q.2 e.2
  rw [inp_eq op e r c it to s hq]
  by_cases he:e.1=c
  case neg=>
   rw [if_neg (fun h=>he h.2.1)]
   refine p_ tt_ok Tryz.func135 65 fun w0 h0 F hgs=>?_
   (refine b_ fun bx=>?_;refine b_ fun bx=>?_;refine y_ ?_)
   refine c_ hpp ?_
   refine c_ hhas ?_
   refine A.valE 37 rfl (x':=AB false) (ab_eq (by show ((((e::r).map evA).length:Int)==0)=false;rw [List.length_map,List.length_cons,beq_eq_false_iff_ne];omega)) ?_
   refine i_ rfl rfl rfl ?_
   refine e_ 46 rfl (x':=AB true) (ab_eq (by show (e.1 !=c)=true;exact bne_iff_ne.2 he)) ?_
   refine q_ ?_
   exact s_
  by_cases hf:fitsB it e.2=true
  case neg=>
   rw [if_neg (fun h=>hf h.2.2)]
   rw [show fitsB it e.2=false by simpa using hf] at hfit
   refine p_ tt_ok Tryz.func135 65 fun w0 h0 F hgs=>?_
   (refine b_ fun bx=>?_;refine b_ fun bx=>?_;refine y_ ?_)
   refine c_ hpp ?_
   refine c_ hhas ?_
   refine A.valE 37 rfl (x':=AB false) (ab_eq (by show ((((e::r).map evA).length:Int)==0)=false;rw [List.length_map,List.length_cons,beq_eq_false_iff_ne];omega)) ?_
   refine i_ rfl rfl rfl ?_
   refine e_ 46 rfl (x':=AB false) (ab_eq (by show (e.1 !=c)=false;rw [he];simp)) ?_
   refine i_ rfl rfl rfl ?_
   refine c_ hfit ?_
   refine q_ ?_
   exact s_
  rw [if_pos ⟨hcm,he,hf⟩]
  rw [hf] at hfit
  refine p_ tt_ok Tryz.func135 65 fun w0 h0 F hgs=>?_
  (refine b_ fun bx=>?_;refine b_ fun bx=>?_;refine y_ ?_)
  refine c_ hpp ?_
  refine c_ hhas ?_
  refine A.valE 37 rfl (x':=AB false) (ab_eq (by show ((((e::r).map evA).length:Int)==0)=false;rw [List.length_map,List.length_cons,beq_eq_false_iff_ne];omega)) ?_
  refine i_ rfl rfl rfl ?_
  refine e_ 46 rfl (x':=AB false) (ab_eq (by show (e.1 !=c)=false;rw [he];simp)) ?_
  refine i_ rfl rfl rfl ?_
  refine c_ hfit ?_
  refine i_ rfl rfl rfl ?_
  refine c_ hput ?_
  refine q_ ?_
  exact s_
theorem rn_some(x y':AV)(h:GH)(y:Value)(q:Rp h (.ag [x, .v (.slice none 0 0), .v (.map none),y']) y):Rp h (.ag [x, .ms (.slice none 0 0) 2 0, .v (.map none),y']) y:=by
 rw [Rp_ag] at q⊢
 obtain ⟨ds,rfl,q⟩:=q
 refine ⟨ds,rfl,?_⟩
 rw [RpC_cons] at q⊢
 obtain ⟨v,vs,rfl,q1,q2⟩:=q
 refine ⟨v,vs,rfl,q1,?_⟩
 rw [RpC_cons] at q2⊢
 obtain ⟨v,vs,rfl,q1,q2⟩:=q2
 rw [Rp_v] at q1
 obtain ⟨rfl,_⟩:=q1
 exact ⟨_,vs,rfl,Rp_ms.2 ⟨rfl,none,0,rfl⟩,q2⟩
theorem mapA_one(m:Nat)(l:List ENd):(mapA m l).one=true:=by cases l<;>rfl
theorem rn_fz(z:Value)(m:Nat)(r:RN):Fz z 2 (r.ends.map enA) (rnB z m r) (rnV r):=Fz.ag (FzL.cons (Fz.sub .refl) (FzL.cons Fz.ms (FzL.cons (Fz.sub (Sb.un (mapA_one m r.ends))) (FzL.sub .refl))))
abbrev RunC(V:List KV)(f:Nat)(p:PR):Prop:= ∀(op:List Int) (t:TR) (s:Sto),op.length+(rawC p).length<=1048576->TrI t->t.length<=256->StOk V s->Pure Tryz.prog gs0 87 [whA t op f,cellsR p,rowsA s] (rnV (runR f op t s p))
theorem encRl_cons19(x:PR)(r:List PR):encRl (x::r)=cellsR x::encRl r:=by rw [encRl,encR_eq]
theorem trI_drop{t:TR}(h:TrI t)(n:Nat):TrI (t.drop n):=fun e he=>h e (List.mem_of_mem_drop he)
structure QOk(V:List KV)(q:RN)(m b:Nat):Prop where
 wf:WfRN q m
 ok:EOk V q
 len:q.ends.length<=b
theorem seq_ok{V:List KV}{C:List Int}{l:List PR}{f:Nat}(hu: ∀x,x∈l->Un V C x)(op:List Int)(t:TR)(s:Sto)(ht:TrI t)(hs:StOk V s):QOk V (seqR19 f op t s l) t.length (wayL l f):=
 ⟨(seq19 fun x hx=>run19 x).1 f op t s,ok_seq (fun x hx=>run_ok (hu x hx)) f op t s ht hs,len_seq (fun x hx=>len_run x) f op t s⟩
theorem one_ok{V:List KV}{C:List Int}{p:PR}{f:Nat}(hu:Un V C p)(op:List Int)(t:TR)(s:Sto)(ht:TrI t)(hs:StOk V s):QOk V (runR f op t s p) t.length (wayR p f):=
 ⟨(run19 p).1 f op t s,run_ok hu f op t s ht hs,len_run p f op t s⟩
theorem QOk.rn{V:List KV}{q:RN}{m b:Nat}(h:QOk V q m b)(hm:m<=256)(hb:b<=1048576):RnOk V q:=⟨⟨fun e he=>⟨h.ok e he,by have:=h.wf.le e he;have:=h.wf.len;omega⟩⟩,by have:=h.len;omega⟩
theorem then_ok{V:List KV}{first:RN}{k:Nat->Sto->RN}{m a b:Nat}(h:QOk V first m a)(hk: ∀e,e∈first.ends->QOk V (k e.1 e.2) (m-e.1) b)(i:Nat):QOk V (thenM (cutF first i) k) m (a*b):=
 ⟨(cutF_wf h.wf i).andThen fun e he=>(hk e (cutF_mem he)).wf,(cutF_ok h.ok i).andThen fun e he=>(hk e (cutF_mem he)).ok,then_len (Nat.le_trans (by show (first.ends.take i).length<=_;exact List.length_take_le' ..) h.len) fun e he=>(hk e (cutF_mem he)).len⟩
theorem seq19_p{V:List KV}{C:List Int}{f:Nat}: ∀(l:List PR),(∀x,x∈l->Un V C x)->wayL l f<=2000->(∀x,x∈l->RunC V f x)->l.length<=16777216-> ∀(op:List Int) (t:TR) (s:Sto),(∀x,x∈l->op.length+(rawC x).length<=1048576)->TrI t->t.length<=256->StOk V s->Pure Tryz.prog gs0 138 [whA t op f,rsA l,rowsA s] (rnV (seqR19 f op t s l))
 | [],_,_,_,_,op,t,s,_,_,_,hs=>by
   have hf:=fin_p (V:=V) s hs
   rw [seqR19]
   refine p_ tt_ok Tryz.func138 48 fun w0 h0 F hgs=>?_
   (repeat refine A.s rfl ?_)
   refine A.b rfl fun b3=>?_
   refine A.b rfl fun b6=>?_
   refine y_ ?_
   refine A.valE 12 rfl (x':=AB true) rfl ?_
   refine c_ hf ?_
   refine A.retC (Λ':=[]) rfl rfl rfl rfl rfl (List.nil_sublist _) ⟨?_,rfl⟩
   exact s_
 |x::r,hu,hw,hR,hlen,op,t,s,hop,ht,htl,hs=>by
  have hw2:=wayL_head hw
  have hx:=hR x (.head _) op t s (hop x (.head _)) ht htl hs
  have n1:(((encRl (x::r)).length:Nat):Int)=(r.length+1:Nat):=by rw [encRl_len,List.length_cons]
  rw [List.length_cons] at hlen
  refine Exists.elim (show∃q,q=runR f op t s x from ⟨_,rfl⟩) fun q hq=>?_
  have hqo:QOk V q t.length (wayR x f):=by rw [hq];exact one_ok (hu x (.head _)) op t s ht hs
  have hrec:=seq19_p r (fun y hy=>hu y (.tail _ hy)) hw2.2 (fun y hy=>hR y (.tail _ hy)) (by omega)
  have hko: ∀e,e∈q.ends->QOk V (seqR19 f op (t.drop e.1) e.2 r) (t.length-e.1) (wayL r f):=fun e he=>by
   have:=seq_ok (f:=f) (fun y hy=>hu y (.tail _ hy)) op (t.drop e.1) e.2 (trI_drop ht _) (hqo.ok e he)
   rw [List.length_drop] at this
   exact this
  have hcur:=then_ok (k:=fun n s'=>seqR19 f op (t.drop n) s' r) hqo hko
  have hww:wayR x f*wayL r f<=2000:=by rw [wayL] at hw;exact hw
  have hcr: ∀i,RnOk V (thenM (cutF q i) fun n s'=>seqR19 f op (t.drop n) s' r):=fun i=>(hcur i).rn htl (by omega)
  have nq:((q.ends.map enA).length:Int)=q.ends.length:=by rw [List.length_map]
  have hql:=hqo.len
  rw [<-hq] at hx
  rw [seqR19,<-hq]
  refine p_ tt_ok Tryz.func138 48 fun w0 h0 F hgs=>?_
  (repeat refine A.s rfl ?_)
  refine A.b rfl fun b3=>?_
  refine A.b rfl fun b6=>?_
  refine y_ ?_
  refine A.valE 12 rfl (x':=AB false) (ab_eq (by rw [n1,beq_eq_false_iff_ne];omega)) ?_
  have hat:(encRl (x::r))[(0:Int).toNat]? =some (encR x):=encRl_at rfl
  refine d_ 7 [0,1,2,3,4,6,5] [(5,rnV q)] ?_
  refine iw_ rfl hat (encR_eq x) ?_
  refine WA.alloc rfl rfl rfl rfl rfl rfl rfl rfl fun b7=>?_
  refine WA.c rfl rfl hx (.sub s_) ?_
  refine WA.nil (l:=[_]) rfl ?_
  refine y_ ?_
  refine A.drawB 4 b6 (x:= .ag (List.map AV.v ty87.zero)) 8 [0,1,2,3,4,5,6,7] (fun i=>if i=5 then [4] else if i=7 then [4] else []) [] (by decide) (by kernel_rfl) (by kernel_rfl) ?_
  refine w_ ?_
  refine WA.store rfl rfl rfl rfl rfl rfl rfl rfl rfl rfl ?_
  refine w_ ?_
  refine WA.store rfl rfl rfl rfl rfl rfl rfl rfl rfl rfl ?_
  refine WA.nil (l:=[_]) rfl ?_
  refine y_ ?_
  refine A.valE 29 rfl (x':=AI (q.ends.length:Nat)) (ai_eq nq) ?_
  refine A.keep [1,3,6,28,29,30] rfl ?_
  refine A.entsEq (Λ':=[.box b6 (.ag [AI (q.reach:Nat), .v (.slice none 0 0), .v (.map none),AB q.miss]), .box b7 (rnV q), .box b3 (whA t op f)]) rfl ?_
  refine l_ (Λ':=[.box b6 (.ag [AI (q.reach:Nat), .v (.slice none 0 0), .v (.map none),AB q.miss]), .box b3 (whA t op f)]) ?_
  refine A.boxAs (b:=b6) (x':= .ag [AI (q.reach:Nat), .ms (.slice none 0 0) 2 0, .v (.map none),AB q.miss]) (.refl _) (rn_some _ _) ?_
  refine A.nilRow 2 ?_
  refine A.perm (Λ':= .box b3 (whA t op f)::rnL b6 (.slice none 0 0) 0 (thenM (cutF q 0) fun n s'=>seqR19 f op (t.drop n) s' r)) (perm_pick [2,1,0] rfl rfl rfl rfl) ?_
  refine A.loopP (ι:=Nat×Value×Nat) (fun u=>(⟨[(1,rsA (x::r)),(3,ptrA b3),(6,ptrA b6),(28, .sl 2 (q.ends.map enA) none),(29,AI (q.ends.length:Nat)),(30,AI (u.1:Nat))],[]⟩,AEnt.box b3 (whA t op f)::rnL b6 u.2.1 u.2.2 (thenM (cutF q u.1) fun n s'=>seqR19 f op (t.drop n) s' r))) (fun u=>u.1<=q.ends.length) (fun u=>q.ends.length-u.1) (0, .slice none 0 0,0) (Nat.zero_le _) rfl fun u hu ih=>?_
  obtain ⟨i,z,m⟩:=u
  simp only at hu
  refine y_ ?_
  by_cases hci:i<q.ends.length
  ·refine Exists.elim (at_exN (l:=q.ends) (i:=i) hci) fun e he=>?_
   have hem:=List.mem_of_getElem? he
   have hqe:=hko e hem
   have hnext:=then_next (k:=fun n s'=>seqR19 f op (t.drop n) s' r) he
   have hel:=hqo.wf.le e hem
   have hqr:=hqo.wf.len
   have hfr:=from_p t op f e.1 (by omega)
   have hsq:=hrec op (t.drop e.1) e.2 (fun y hy=>hop y (.tail _ hy)) (trI_drop ht _) (by rw [List.length_drop];omega) (hqo.ok e hem)
   have h5:=(hcur i).wf.len
   have h6:=(hcur i).len
   have h7:=hqe.wf.len
   have h8:=hqe.len
   have hjoin:=join19_p b6 m z (thenM (cutF q i) fun n s'=>seqR19 f op (t.drop n) s' r) (seqR19 f op (t.drop e.1) e.2 r) e.1 (hcr i) (fun y hy=>⟨hqe.ok y hy,by have:=hqe.wf.le y hy;omega⟩) (by omega) (by omega) (by omega)
   rw [<-hnext] at hjoin
   have ntl:(((encRl (x::r)).length:Nat):Int)=(r.length+1:Nat):=n1
   refine T_ rfl (by show decide ((i:Int)<(q.ends.length:Nat))=true;rw [decide_eq_true_eq];omega) ?_
   refine j_ rfl (map_at he) rfl ?_
   (repeat refine A.s rfl ?_)
   refine A.b rfl fun b9=>?_
   refine y_ ?_
   refine d_ 11 [0,1,2,3,4,6,7,8,9,5,10] [(5,whA (t.drop e.1) op f),(10,rnV (seqR19 f op (t.drop e.1) e.2 r))] ?_
   refine WA.slice (ys:=encRl r) rfl rfl rfl rfl rfl rfl rfl rfl rfl rfl (by decide) (by show ((1:Nat):Int)<=((encRl (x::r)).length:Int);rw [n1];omega) (Int.le_refl _) (by
    show ((encRl (x::r)).drop 1).take (((encRl (x::r)).length:Int).toNat-1)=_
    rw [encRl_cons19,List.drop_succ_cons,List.drop_zero,List.take_of_length_le (by rw [List.length_cons];simp)]) rfl ?_
   refine w_ ?_
   refine WA.c rfl rfl hfr (.sub s_) ?_
   refine WA.c rfl rfl hsq (.sub s_) ?_
   refine WA.nil (l:=[]) rfl ?_
   refine A.less (Λ':= .box b3 (whA t op f)::rnL b6 z m (thenM (cutF q i) fun n s'=>seqR19 f op (t.drop n) s' r)) (.cons _ (.refl _)) ?_
   refine A.e rfl hjoin s_ (Λ2:=[.box b3 (whA t op f)]) (List.perm_append_singleton _ _).symm fun v _=>?_
   refine A.perm (Λ':= .box b3 (whA t op f)::rnL b6 v.1 v.2 (thenM (cutF q (i+1)) fun n s'=>seqR19 f op (t.drop n) s' r)) (List.perm_append_singleton _ _) ?_
   refine y_ ?_
   refine A.valE 30 rfl (x':=AI ((i+1:Nat):Int)) (inc_eq i (by omega)) ?_
   refine u_ (ih (i+1,v.1,v.2) (by show i+1<=_;omega) (by show _-(i+1)<_-i;omega))
  ·refine A.gF rfl (by show decide ((i:Int)<(q.ends.length:Nat))=false;rw [decide_eq_false_iff_not];omega) ?_
   refine A.less (Λ':=[.box b6 (rnB z m (thenM q fun n s'=>seqR19 f op (t.drop n) s' r)), .row 2 z ((thenM q fun n s'=>seqR19 f op (t.drop n) s' r).ends.map enA)]) (by rw [cutF_all (by omega)];exact (List.Sublist.cons _ (List.Sublist.cons_cons _ (List.Sublist.cons_cons _ (List.nil_sublist _))))) ?_
   refine A.freezeRowV 6 z (x':=rnV _) rfl (rn_fz z m _) ?_;refine y_ ?_;refine A.retC (Λ':=[]) rfl rfl rfl rfl rfl (List.nil_sublist _) ⟨?_,rfl⟩;exact s_
theorem run13{f:Nat}{op:List Int}{t:TR}{s:Sto}{p:PR}{x:KE}{b:PR}(hk:p.kind=13)(he:p.e=[x])(hl:p.l=[b]):runR f op t s p=whileM (fun s=>valueM s x) (fun f' t' s'=>runR f' op t' s' b) f t s:=by
 obtain ⟨k,c,v,it,to,e,gs,l⟩:=p
 have hk:k=13:=hk
 have he:e=[x]:=he
 have hl:l=[b]:=hl
 subst hk;subst he;subst hl
 rw [runR_eq]
 simp only [bodR19]
 rfl
theorem run13_none{f:Nat}{op:List Int}{t:TR}{s:Sto}{p:PR}{x:KE}{b:PR}(hk:p.kind=13)(he:p.e=[x])(hl:p.l=[b])(hv:valueM s x=none):runR f op t s p=nilR:=by
 rw [run13 hk he hl]
 cases f<;>rw [whileM,hv]
theorem run13_zero{f:Nat}{op:List Int}{t:TR}{s:Sto}{p:PR}{x:KE}{b:PR}(hk:p.kind=13)(he:p.e=[x])(hl:p.l=[b])(hv:valueM s x=some 0):runR f op t s p=finR s:=by
 rw [run13 hk he hl]
 cases f<;>rw [whileM,hv]
 ·exact if_pos rfl
 ·exact if_pos rfl
theorem run13_miss{op:List Int}{t:TR}{s:Sto}{p:PR}{x:KE}{b:PR}{v:Int}(hk:p.kind=13)(he:p.e=[x])(hl:p.l=[b])(hv:valueM s x=some v)(h0:v≠0):runR 0 op t s p=⟨0,[],true⟩:=by
 rw [run13 hk he hl,whileM,hv]
 exact if_neg h0
theorem run13_more{f:Nat}{op:List Int}{t:TR}{s:Sto}{p:PR}{x:KE}{b:PR}{v:Int}(hk:p.kind=13)(he:p.e=[x])(hl:p.l=[b])(hv:valueM s x=some v)(h0:v≠0):runR (f+1) op t s p=seqR19 f op t s [b,p]:=by
 rw [run13 hk he hl,whileM,hv,seqR19]
 simp only [if_neg h0]
 congr 1
 funext n s'
 rw [seqR19,run13 hk he hl]
 congr 1
theorem loop19_p{V:List KV}{C:List Int}(p:PR)(u:Un V C p)(hk:p.kind=13)(f:Nat)(hf:f<=1048576)(op:List Int)(t:TR)(s:Sto)(hs:StOk V s)(hS: ∀f' b,f=f'+1->p.l=[b]->Pure Tryz.prog gs0 138 [whA t op f',rsA [b,p],rowsA s] (rnV (seqR19 f' op t s [b,p]))):
 Pure Tryz.prog gs0 139 [whA t op f,cellsR p,rowsA s] (rnV (runR f op t s p)):=by
 obtain ⟨x,b,he,hl,_⟩:=u.k13 hk
 have hvp:=Value_p s hs.ws x (u.wfE x (by rw [he];exact .head _))
 rw [encK_eq] at hvp
 have hat:(encKl p.e)[(0:Int).toNat]? =some (encK x):=encKl_at (by rw [he];rfl)
 have hfin:=fin_p (V:=V) s hs
 refine Or.elim (opt_cases (valueM s x)) (fun hx=>?_) (fun hx=>?_)
 ·rw [hx] at hvp
  rw [run13_none hk he hl hx]
  refine p_ tt_ok Tryz.func139 46 fun w0 h0 F hgs=>?_
  (repeat refine A.s rfl ?_)
  refine A.b rfl fun b3=>?_
  refine A.b rfl fun b4=>?_
  refine A.b rfl fun b6=>?_
  refine y_ ?_
  refine i_ rfl hat (encK_eq x) ?_
  refine c_ hvp ?_
  refine A.retC (Λ':=[]) rfl rfl rfl rfl rfl (List.nil_sublist _) ⟨?_,rfl⟩
  exact s_
 obtain ⟨v,hx⟩:=hx
 rw [hx] at hvp
 by_cases hv0:v=0
 ·subst hv0
  rw [run13_zero hk he hl hx]
  refine p_ tt_ok Tryz.func139 46 fun w0 h0 F hgs=>?_
  (repeat refine A.s rfl ?_)
  refine A.b rfl fun b3=>?_
  refine A.b rfl fun b4=>?_
  refine A.b rfl fun b6=>?_
  refine y_ ?_
  refine i_ rfl hat (encK_eq x) ?_
  refine c_ hvp ?_
  refine c_ hfin ?_
  refine A.retC (Λ':=[]) rfl rfl rfl rfl rfl (List.nil_sublist _) ⟨?_,rfl⟩
  exact s_
 cases f with
 |zero=>
  rw [run13_miss hk he hl hx hv0]
  refine p_ tt_ok Tryz.func139 46 fun w0 h0 F hgs=>?_
  (repeat refine A.s rfl ?_)
  refine A.b rfl fun b3=>?_
  refine A.b rfl fun b4=>?_
  refine A.b rfl fun b6=>?_
  refine y_ ?_
  refine i_ rfl hat (encK_eq x) ?_
  refine c_ hvp ?_
  refine F_ rfl (by show (v==0)=false;simpa using hv0) ?_
  refine A.retC (Λ':=[]) rfl rfl rfl rfl rfl (List.nil_sublist _) ⟨?_,rfl⟩
  exact s_
 |succ f=>
  have hseq:=hS f b rfl hl
  rw [show rsA [b,p]= .sl 8 [cellsR b,cellsR p] none by show AV.sl 8 (encRl [b,p]) none=_;rw [encRl_cons19,encRl_cons19];rfl] at hseq
  rw [run13_more hk he hl hx hv0]
  have hat2:(encRl p.l)[(0:Int).toNat]? =some (encR b):=encRl_at (by rw [hl];rfl)
  refine p_ tt_ok Tryz.func139 46 fun w0 h0 F hgs=>?_
  (repeat refine A.s rfl ?_)
  refine A.b rfl fun b3=>?_
  refine A.b rfl fun b4=>?_
  refine A.b rfl fun b6=>?_
  refine y_ ?_
  refine i_ rfl hat (encK_eq x) ?_
  refine c_ hvp ?_
  refine F_ rfl (by show (v==0)=false;simpa using hv0) ?_
  refine A.entsEq (Λ':=[.box b6 (.ag (List.map AV.v ty87.zero)), .box b4 (cellsR p), .box b3 (whA t op f)]) (by
   have:IntKind.i64.wrap (((f+1:Nat):Int)-1)=(f:Nat):=by rw [wr64 _ (by omega)];omega
   show [AEnt.box b6 _,AEnt.box b4 _,AEnt.box b3 (.ag [trA t,intsA op,AI (IntKind.i64.wrap (((f+1:Nat):Int)-1))])]=_
   rw [this]) ?_
  refine d_ 8 [0,1,2,3,4,5,6,7] [] ?_
  refine iw_ rfl hat2 (encR_eq b) ?_
  refine WA.lit rfl rfl rfl rfl rfl rfl rfl fun bw=>?_
  refine w_ ?_
  refine WA.nil (l:=[_]) rfl ?_
  refine A.freezeRow 43 rfl ?_
  refine c_ hseq ?_
  refine A.retC (Λ':=[]) rfl rfl rfl rfl rfl (List.nil_sublist _) ⟨?_,rfl⟩
  exact s_
abbrev GVq:=Nat×RN
abbrev gvA(x:GVq):List AV:=[AI (x.1:Nat),rnV x.2]
def ifG(f:Nat)(op:List Int)(t:TR)(s:Sto):List GD->List GVq
 | []=>[]
 |g::r=>match valueM s g.cond with
  |none=>[]
  |some v=>if v=0 then ifG f op t s r else [(0,bodR19 f op t s g.body)]
def ways1(f:Nat)(op:List Int)(t:TR)(s:Sto)(g:GD):List GVq:=
 if g.kind=3 then (match inp19 op t g.c g.item g.to s with
  |some s'=>[(1,bodR19 f op (t.drop 1) s' g.body)]
  |none=>[])
 else [(0,bodR19 f op t s g.body)]
def redG(s:Sto)(gs:List GD):List GD:=gs.filter fun g=>decide (valueM s g.cond≠some 0)
def guardsM(k:Int)(f:Nat)(op:List Int)(t:TR)(s:Sto)(gs:List GD):List GVq:=if k=12 then ifG f op t s gs else if gdsOk s gs=true then (redG s gs).flatMap (ways1 f op t s) else []
def joinAll(acc:RN)(l:List GVq):RN:=l.foldl (fun r x=>joinR r x.1 x.2) acc
theorem if_join(f:Nat)(op:List Int)(t:TR)(s:Sto): ∀gs,joinAll nilR (ifG f op t s gs)=ifR f op t s gs
 | []=>by rw [ifG,ifR];rfl
 |⟨k,cd,c,it,to,tm,b⟩::r=>by
  rw [ifG,ifR]
  show joinAll nilR (match valueM s cd with
  |none=>[]
  |some v=>if v=0 then ifG f op t s r else [(0,bodR19 f op t s b)])=_
  cases valueM s cd with
  |none=>rfl
  |some v=>
   simp only
   split
   ·exact if_join f op t s r
   ·rfl
theorem alt_join(f:Nat)(op:List Int)(t:TR)(s:Sto): ∀gs acc,joinAll acc ((redG s gs).flatMap (ways1 f op t s))=altR f op t s gs acc
 | [],acc=>by rw [altR];rfl
 |⟨k,cd,c,it,to,tm,b⟩::r,acc=>by
  have ih:=alt_join f op t s r
  rw [altR]
  by_cases h0:valueM s cd=some 0
  ·rw [if_pos h0]
   have:redG s (⟨k,cd,c,it,to,tm,b⟩::r)=redG s r:=by
    unfold redG
    rw [List.filter_cons]
    show (if decide (valueM s cd≠some 0)=true then _ else _)=_
    rw [if_neg (by simp [h0])]
   rw [this];exact ih acc
  ·rw [if_neg h0]
   have:redG s (⟨k,cd,c,it,to,tm,b⟩::r)=⟨k,cd,c,it,to,tm,b⟩::redG s r:=by
    unfold redG
    rw [List.filter_cons]
    show (if decide (valueM s cd≠some 0)=true then _ else _)=_
    rw [if_pos (by simp [h0])]
   rw [this,List.flatMap_cons]
   have hj: ∀a,joinAll acc (a++(redG s r).flatMap (ways1 f op t s))=altR f op t s r (joinAll acc a):=fun a=>by
    unfold joinAll
    rw [List.foldl_append]
    exact ih _
   rw [hj]
   unfold ways1
   show altR f op t s r (joinAll acc (if k=3 then (match inp19 op t c it to s with
    |some s'=>[(1,bodR19 f op (t.drop 1) s' b)]
    |none=>[])
   else [(0,bodR19 f op t s b)]))=_
   split
   ·cases inp19 op t c it to s with
    |none=>rfl
    |some s'=>rfl
   ·rfl
theorem guards_join{k:Int}(hk:k=12\/k=14\/k=15){f:Nat}{op:List Int}{t:TR}{s:Sto}{c v it:Int}{to:List PL}{e:List KE}{gs:List GD}{l:List PR}:runR f op t s ⟨k,c,v,it,to,e,gs,l⟩=joinAll nilR (guardsM k f op t s gs):=by
 rw [runR_eq,if_neg (show¬k=1 by omega),if_neg (show¬k=3 by omega),if_neg (show¬k=4 by omega),if_neg (show¬k=5 by omega),if_neg (show¬k=6 by omega),if_neg (show¬k=9 by omega),if_neg (show¬k=13 by omega)]
 unfold guardsM
 by_cases h12:k=12
 ·rw [if_pos h12,if_pos h12,if_join]
 ·rw [if_neg h12,if_neg h12,if_pos (show k=14\/k=15 by omega)]
  split
  ·rw [alt_join]
  ·rfl
abbrev IterG(p:PR)(s:Sto)(t:TR)(op:List Int)(f:Nat):Prop:=Iter Tryz.prog tt tt_ok gs0 219 [.pe 8 (cellsR p), .pe 1 (rowsA s), .pe 3 (whA t op f)] ((guardsM p.kind f op t s p.gs).map gvA)
abbrev BodC(V:List KV)(f:Nat)(op:List Int)(p:PR):Prop:= ∀g,g∈p.gs-> ∀x,x∈g.body-> ∀(t:TR) (s:Sto),TrI t->t.length<=256->StOk V s->Pure Tryz.prog gs0 87 [whA t op f,cellsR x,rowsA s] (rnV (runR f op t s x))
theorem guards_if{V:List KV}{C:List Int}(p:PR)(u:Un V C p)(hk:p.kind=12)(f:Nat)(op:List Int)(t:TR)(s:Sto)(ht:TrI t)(htl:t.length<=256)(hs:StOk V s)(hR:BodC V f op p):IterG p s t op f:=by
 have n2:((encGl p.gs).length:Int)=p.gs.length:=by rw [encGl_len]
 have hgl:=u.loc.lens.2.2.1
 unfold IterG guardsM
 rw [if_pos hk]
 refine ⟨Tryz.f219,_,Tryz.func219,rfl,rfl,rfl,rfl,fun w0 h0 c hfn h1 hg1 F Q Λ0 hl hi hlen hround hfin hstop=>?_⟩
 (repeat refine A.s rfl ?_)
 refine A.valE 17 rfl (x':=AI (p.gs.length:Nat)) (ai_eq n2) ?_
 refine A.keep [0,1,2,3,5,16,17,18] rfl ?_
 refine A.loopP (ι:=Nat) (fun i=>(⟨[(0, .v (.func (.yield c.lp) #[] #[])),(1, .pe 8 (cellsR p)),(2, .pe 1 (rowsA s)),(3, .pe 3 (whA t op f)),(5, .v (.slice none 0 0)),(16,gsA p.gs),(17,AI (p.gs.length:Nat)),(18,AI (i:Nat))],[]⟩, .loop c.lp c.r0 .ready none::Λ0)) (fun i=>i<=p.gs.length/\ifG f op t s p.gs=ifG f op t s (p.gs.drop i)) (fun i=>p.gs.length-i) 0 ⟨Nat.zero_le _,by rw [List.drop_zero]⟩ rfl fun i hv ih=>?_
 obtain ⟨hi1,hi2⟩:=hv
 refine y_ ?_
 by_cases hci:i<p.gs.length
 ·refine Exists.elim (at_exN (l:=p.gs) (i:=i) hci) fun g hg=>?_
  have hgm:=List.mem_of_getElem? hg
  refine Exists.elim (u.loc.body g hgm) fun y hy=>?_
  have hvp:=Value_p s hs.ws g.cond (u.loc.gs g hgm).1.1
  rw [encK_eq] at hvp
  have hat:(encRl g.body)[(0:Int).toNat]? =some (encR y):=encRl_at (by rw [hy];rfl)
  have hrun:=hR g hgm y (by rw [hy];exact .head _) t s ht htl hs
  rw [drop_at hg,ifG] at hi2
  refine T_ rfl (by show decide ((i:Int)<(p.gs.length:Nat))=true;rw [decide_eq_true_eq];omega) ?_
  refine j_ rfl (encGl_at hg) (encG_eq g) ?_
  (repeat refine A.s rfl ?_)
  refine A.b rfl fun b7=>?_
  refine y_ ?_
  refine n_ hvp ?_
  refine Or.elim (opt_cases (valueM s g.cond)) (fun hx=>?_) (fun hx=>?_)
  ·rw [hx] at hi2
   refine e_ 26 rfl (x':=optA none) (by rw [hx]) ?_
   exact A.ret0 rfl rfl (List.sublist_cons_self _ _) (hfin _ (by rw [hi2];exact hi)) rfl
  ·refine Exists.elim hx fun v hx=>?_
   rw [hx] at hi2
   simp only at hi2
   refine e_ 26 rfl (x':=optA (some v)) (by rw [hx]) ?_
   by_cases hv0:v=0
   ·rw [if_pos hv0] at hi2
    refine T_ rfl (by show (v==0)=true;simpa using hv0) ?_
    refine A.valE 18 rfl (x':=AI ((i+1:Nat):Int)) (inc_eq i (by omega)) ?_
    refine l_ (Λ':= .loop c.lp c.r0 .ready none::Λ0) ?_
    refine u_ (ih (i+1) ⟨by omega,hi2⟩ (by omega))
   ·rw [if_neg hv0] at hi2
    refine F_ rfl (by show (v==0)=false;simpa using hv0) ?_
    refine e_ 35 rfl (x':=AB true) (ab_eq (by rw [hk];rfl)) ?_
    have hb1:bodR19 f op t s g.body=runR f op t s y:=by rw [hy,bodR19]
    rw [hb1] at hi2
    have hx0:((ifG f op t s p.gs).map gvA)[0]? =some (gvA (0,runR f op t s y)):=by rw [hi2];rfl
    have hr:=hround 0 _ hx0
    have hln:=hlen _ (List.mem_of_getElem? hx0)
    have hl1:((ifG f op t s p.gs).map gvA).length=1:=by rw [hi2];rfl
    refine d_ 8 [0,1,2,3,4,5,6,7] [(7,rnV (runR f op t s y))] ?_
    refine iw_ rfl hat (encR_eq y) ?_
    refine WA.c rfl rfl hrun (.sub s_) ?_
    refine WA.nil (l:=[]) rfl ?_
    refine l_ (Λ':= .loop c.lp c.r0 .ready none::Λ0) ?_
    refine A.yieldC c (xs:=gvA (0,runR f op t s y)) (Λ2:=[]) rfl rfl rfl rfl rfl rfl hln .refl hl (by rw [List.append_nil]) hi hr (fun Λ4 hi4=>?_) (fun st pd Λ4 hst4 hs4=>?_)
    ·refine A.entsEq (List.append_nil _) ?_
     refine y_ ?_
     exact A.ret0 rfl rfl (.refl _) (hfin _ (by rw [hl1];exact hi4)) rfl
    ·refine A.entsEq (List.append_nil _) ?_
     refine y_ ?_
     exact A.ret0 rfl rfl (.refl _) (hstop _ _ _ hst4 hs4) rfl
 ·refine A.gF rfl (by show decide ((i:Int)<(p.gs.length:Nat))=false;rw [decide_eq_false_iff_not];omega) ?_
  rw [List.drop_eq_nil_of_le (by omega:p.gs.length<=i),ifG] at hi2
  refine A.val 5 rfl (x':= .sl 18 [] none) .nil ?_
  refine y_ ?_
  refine A.keep [51,52] rfl ?_
  refine A.loopP (ι:=Unit) (fun i=>(⟨[(51,AI 0),(52,AI 0)],[]⟩, .loop c.lp c.r0 .ready none::Λ0)) (fun _=>True) (fun _=>0) () trivial rfl fun _ _ _=>?_
  refine y_ ?_
  exact A.ret0 rfl rfl (.refl _) (hfin _ (by rw [hi2];exact hi)) rfl
theorem take19{α:Type}{l:List α}{i:Nat}{x:α}(h:l[i]? =some x):l.take (i+1)=l.take i++[x]:=by rw [List.take_add_one,h];rfl
theorem red_snoc(s:Sto){l:List GD}{i:Nat}{g:GD}(h:l[i]? =some g):redG s (l.take (i+1))=if valueM s g.cond=some 0 then redG s (l.take i) else redG s (l.take i)++[g]:=by
 unfold redG
 rw [take19 h,List.filter_append,List.filter_cons,List.filter_nil]
 by_cases h0:valueM s g.cond=some 0
 ·rw [if_pos h0,if_neg (by simp [h0]),List.append_nil]
 ·rw [if_neg h0,if_pos (by simp [h0])]
theorem red_len(s:Sto)(l:List GD):(redG s l).length<=l.length:=List.length_filter_le ..
theorem encGl_snoc(a:List GD)(x:GD):encGl (a++[x])=encGl a++[cellsG x]:=by rw [encGl_map,encGl_map,List.map_append,<-encG_eq];rfl
theorem gds_no{s:Sto}{gs:List GD}{g:GD}(hg:g∈gs)(h:valueM s g.cond=none):gdsOk s gs=false:=by
 cases hh:gdsOk s gs with
 |false=>rfl
 |true=>
  unfold gdsOk at hh
  have:=List.all_eq_true.1 hh g hg
  rw [h] at this;cases this
theorem flat_at{α:Type}{l:List GD}{w:GD->List α}{i:Nat}{g:GD}(h:l[i]? =some g):(l.take (i+1)).flatMap w=(l.take i).flatMap w++w g:=by
 rw [take19 h,List.flatMap_append,List.flatMap_cons,List.flatMap_nil,List.append_nil]
theorem flat_get{α:Type}{l:List GD}{w:GD->List α}{i:Nat}{g:GD}{x:α}(h:l[i]? =some g)(hw:w g=[x]):(l.flatMap w)[((l.take i).flatMap w).length]? =some x:=by
 have hi:i<l.length:=(List.getElem?_eq_some_iff.1 h).1
 have hd:l=l.take i++(g::l.drop (i+1)):=by
  have:=(List.getElem?_eq_some_iff.1 h).2
  rw [<-this,<-List.drop_eq_getElem_cons hi,List.take_append_drop]
 have:l.flatMap w=(l.take i).flatMap w++(w g++(l.drop (i+1)).flatMap w):=by
  conv=>lhs;rw [hd]
  rw [List.flatMap_append,List.flatMap_cons]
 rw [this,List.getElem?_append_right (Nat.le_refl _),Nat.sub_self,hw];rfl
theorem guards_alt{V:List KV}{C:List Int}(p:PR)(u:Un V C p)(hk:p.kind=14\/p.kind=15)(f:Nat)(op:List Int)(t:TR)(s:Sto)(ht:TrI t)(htl:t.length<=256)(hop:op.length<=1048576)(hs:StOk V s)(hR:BodC V f op p):IterG p s t op f:=by
 have n2:((encGl p.gs).length:Int)=p.gs.length:=by rw [encGl_len]
 have n3:((encGl (redG s p.gs)).length:Int)=(redG s p.gs).length:=by rw [encGl_len]
 have hgl:=u.loc.lens.2.2.1
 have hrl:=red_len s p.gs
 unfold IterG guardsM
 rw [if_neg (show¬p.kind=12 by omega)]
 refine ⟨Tryz.f219,_,Tryz.func219,rfl,rfl,rfl,rfl,fun w0 h0 c hfn h1 hg1 F Q Λ0 hl hi hlen hround hfin hstop=>?_⟩
 (repeat refine A.s rfl ?_)
 refine A.emptyRow 5 18 rfl fun z0=>?_
 refine A.valE 17 rfl (x':=AI (p.gs.length:Nat)) (ai_eq n2) ?_
 refine A.keep [0,1,2,3,5,16,17,18] rfl ?_
 refine A.loopP (ι:=Nat×Value) (fun v=>(⟨[(0, .v (.func (.yield c.lp) #[] #[])),(1, .pe 8 (cellsR p)),(2, .pe 1 (rowsA s)),(3, .pe 3 (whA t op f)),(5, .ms v.2 18 (redG s (p.gs.take v.1)).length),(16,gsA p.gs),(17,AI (p.gs.length:Nat)),(18,AI (v.1:Nat))],[]⟩, .row 18 v.2 (encGl (redG s (p.gs.take v.1))):: .loop c.lp c.r0 .ready none::Λ0)) (fun v=>v.1<=p.gs.length/\gdsOk s (p.gs.take v.1)=true) (fun v=>p.gs.length-v.1) (0,z0) ⟨Nat.zero_le _,by rw [List.take_zero];rfl⟩ rfl fun v hv ih=>?_
 obtain ⟨i,z⟩:=v
 obtain ⟨hi1,hi2⟩:=hv
 simp only at hi1 hi2
 refine y_ ?_
 by_cases hci:i<p.gs.length
 ·refine Exists.elim (at_exN (l:=p.gs) (i:=i) hci) fun g hg=>?_
  have hgm:=List.mem_of_getElem? hg
  have hvp:=Value_p s hs.ws g.cond (u.loc.gs g hgm).1.1
  rw [encK_eq] at hvp
  have hsn:=red_snoc s hg
  have hrt:=red_len s (p.gs.take i)
  rw [List.length_take] at hrt
  have hok1:valueM s g.cond≠none->gdsOk s (p.gs.take (i+1))=true:=fun h=>by
   have: ∀a b:List GD,gdsOk s (a++b)=(gdsOk s a&&gdsOk s b):=fun a b=>List.all_append
   rw [take19 hg,this,hi2]
   show (true&&((valueM s g.cond).isSome&&true))=true
   cases hq:valueM s g.cond with
   |none=>exact absurd hq h
   |some _=>rfl
  refine T_ rfl (by show decide ((i:Int)<(p.gs.length:Nat))=true;rw [decide_eq_true_eq];omega) ?_
  refine j_ rfl (encGl_at hg) (encG_eq g) ?_
  (repeat refine A.s rfl ?_)
  refine A.b rfl fun b7=>?_
  refine y_ ?_
  refine n_ hvp ?_
  refine Or.elim (opt_cases (valueM s g.cond)) (fun hx=>?_) (fun hx=>?_)
  ·have hg0:=gds_no hgm hx
   refine e_ 26 rfl (x':=optA none) (by rw [hx]) ?_
   refine l_ (Λ':= .loop c.lp c.r0 .ready none::Λ0) ?_
   exact A.ret0 rfl rfl (.refl _) (hfin _ (by rw [hg0];exact hi)) rfl
  ·refine Exists.elim hx fun v hx=>?_
   have hok2:=hok1 (by rw [hx];intro h;cases h)
   refine e_ 26 rfl (x':=optA (some v)) (by rw [hx]) ?_
   by_cases hv0:v=0
   ·rw [if_pos (by rw [hx,hv0])] at hsn
    refine T_ rfl (by show (v==0)=true;simpa using hv0) ?_
    refine A.valE 18 rfl (x':=AI ((i+1:Nat):Int)) (inc_eq i (by omega)) ?_
    refine l_ (Λ':= .row 18 z (encGl (redG s (p.gs.take i))):: .loop c.lp c.r0 .ready none::Λ0) ?_
    refine A.valE 5 rfl (x':= .ms z 18 (redG s (p.gs.take (i+1))).length) (by rw [hsn]) ?_
    refine A.entsEq (Λ':= .row 18 z (encGl (redG s (p.gs.take (i+1)))):: .loop c.lp c.r0 .ready none::Λ0) (by rw [hsn]) ?_
    refine u_ (ih (i+1,z) ⟨by show i+1<=_;omega,hok2⟩ (by show _-(i+1)<_-i;omega))
   ·rw [if_neg (by rw [hx];intro h;injection h with h;exact hv0 h)] at hsn
    refine F_ rfl (by show (v==0)=false;simpa using hv0) ?_
    refine A.valE 35 rfl (x':=AB false) (ab_eq (by rw [beq_eq_false_iff_ne];show p.kind≠12;omega)) ?_
    refine t_ fun bl=>?_
    refine A.appendRowE rfl rfl rfl rfl rfl rfl rfl rfl rfl rfl rfl rfl rfl rfl (by show ((encGl (redG s (p.gs.take i))).length+1)*18<=_;rw [encGl_len];omega) (Nat.le_trans (Nat.mul_le_mul_right _ (Nat.mul_le_mul_right _ (show (encGl (redG s (p.gs.take i))).length+1<=17 by rw [encGl_len];omega))) (by decide)) fun z2=>?_
    refine y_ ?_
    refine A.valE 18 rfl (x':=AI ((i+1:Nat):Int)) (inc_eq i (by omega)) ?_
    refine l_ (Λ':= .row 18 z2 (encGl (redG s (p.gs.take i))++[cellsG g]):: .loop c.lp c.r0 .ready none::Λ0) ?_
    refine A.valE 5 rfl (x':= .ms z2 18 (redG s (p.gs.take (i+1))).length) (by rw [hsn,List.length_append,encGl_len];rfl) ?_
    refine A.entsEq (Λ':= .row 18 z2 (encGl (redG s (p.gs.take (i+1)))):: .loop c.lp c.r0 .ready none::Λ0) (by rw [hsn,encGl_snoc]) ?_
    refine u_ (ih (i+1,z2) ⟨by show i+1<=_;omega,hok2⟩ (by show _-(i+1)<_-i;omega))
 ·refine A.gF rfl (by show decide ((i:Int)<(p.gs.length:Nat))=false;rw [decide_eq_false_iff_not];omega) ?_
  have htk:p.gs.take i=p.gs:=List.take_of_length_le (by omega)
  rw [htk] at hi2
  rw [hi2,if_pos rfl] at hlen hround hfin
  clear ih
  refine A.valE 5 rfl (x':= .ms z 18 (redG s p.gs).length) (by rw [htk]) ?_
  refine A.entsEq (Λ':= .row 18 z (encGl (redG s p.gs)):: .loop c.lp c.r0 .ready none::Λ0) (by rw [htk]) ?_
  refine A.freezeRow 5 rfl ?_
  refine y_ ?_
  refine A.valE 51 rfl (x':=AI ((redG s p.gs).length:Nat)) (ai_eq n3) ?_
  refine A.keep [0,1,2,3,50,51,52] rfl ?_
  refine A.loopP (ι:=Nat×List AEnt) (fun v=>(⟨[(0, .v (.func (.yield c.lp) #[] #[])),(1, .pe 8 (cellsR p)),(2, .pe 1 (rowsA s)),(3, .pe 3 (whA t op f)),(50,gsA (redG s p.gs)),(51,AI ((redG s p.gs).length:Nat)),(52,AI (v.1:Nat))],[]⟩, .loop c.lp c.r0 .ready none::v.2)) (fun v=>v.1<=(redG s p.gs).length/\c.Inv (((redG s p.gs).take v.1).flatMap (ways1 f op t s)).length v.2) (fun v=>(redG s p.gs).length-v.1) (0,Λ0) ⟨Nat.zero_le _,by rw [List.take_zero];exact hi⟩ rfl fun v hv ih=>?_
  obtain ⟨j,Λ1⟩:=v
  obtain ⟨hj1,hj2⟩:=hv
  simp only at hj1 hj2
  refine y_ ?_
  by_cases hcj:j<(redG s p.gs).length
  ·refine Exists.elim (at_exN (l:=redG s p.gs) (i:=j) hcj) fun g hg=>?_
   have hgm:g∈p.gs:=(List.mem_filter.1 (List.mem_of_getElem? hg)).1
   refine Exists.elim (u.loc.body g hgm) fun y hy=>?_
   have hat:(encRl g.body)[(0:Int).toNat]? =some (encR y):=encRl_at (by rw [hy];rfl)
   refine T_ rfl (by show decide ((j:Int)<((redG s p.gs).length:Nat))=true;rw [decide_eq_true_eq];omega) ?_
   refine j_ rfl (encGl_at hg) (encG_eq g) ?_
   (repeat refine A.s rfl ?_)
   refine A.b rfl fun b11=>?_
   refine y_ ?_
   refine d_ 4 [0,1,2,3] [] ?_
   refine z_ ?_
   by_cases h3:g.kind=3
   ·have hin:=input19_p t op f g.c g.item g.to s hs ht (u.loc.gs g hgm).2.2.1 (by have:=(u.loc.gs g hgm).2.2.2.1;omega) (by omega)
    have hgd:inputB V C.length g.c g.item g.to=true:=by
     have:=u.kg (.inr hk) g hgm
     unfold guardB at this
     rw [if_neg (by omega),if_pos h3] at this
     simp only [Bool.and_eq_true] at this
     exact this.2.2
    refine T_ rfl (by show (g.kind==3)=true;simpa using h3) ?_
    refine n_ hin ?_
    refine Or.elim (opt_cases (inp19 op t g.c g.item g.to s)) (fun hx=>?_) (fun hx=>?_)
    ·have hw1:ways1 f op t s g=[]:=by unfold ways1;rw [if_pos h3,hx]
     refine e_ 69 rfl (x':=optS none) (by rw [hx]) ?_
     refine d_ 13 [0,1,2,3,4,5,7,8,9,10,11,6,12] [] ?_
     refine z_ ?_
     refine A.valE 52 rfl (x':=AI ((j+1:Nat):Int)) (inc_eq j (by omega)) ?_
     refine l_ (Λ':= .loop c.lp c.r0 .ready none::Λ1) ?_
     refine u_ (ih (j+1,Λ1) ⟨by show j+1<=_;omega,by show c.Inv _ Λ1;rw [flat_at hg,hw1,List.append_nil];exact hj2⟩ (by show _-(j+1)<_-j;omega))
    ·refine Exists.elim hx fun s' hx=>?_
     have hs':=inp_ok hs ht hgd hx
     have h1l:=inp_some hx
     have hrun:=hR g hgm y (by rw [hy];exact .head _) (t.drop 1) s' (trI_drop ht 1) (by rw [List.length_drop];omega) hs'
     have hfr:=from_p t op f 1 h1l
     refine Exists.elim (show∃n:Nat,n=1 from ⟨1,rfl⟩) fun n hn=>?_
     refine Exists.elim (show∃q,q=runR f op (t.drop n) s' y from ⟨_,rfl⟩) fun q hq=>?_
     rw [<-hn] at hrun hfr
     rw [<-hq] at hrun
     have hw1:ways1 f op t s g=[(n,q)]:=by unfold ways1;rw [if_pos h3,hx];show [(1,bodR19 f op (t.drop 1) s' g.body)]=_;rw [hq,hn,hy,bodR19]
     have hgx:(((redG s p.gs).flatMap (ways1 f op t s)).map gvA)[(((redG s p.gs).take j).flatMap (ways1 f op t s)).length]? =some (gvA (n,q)):=by rw [List.getElem?_map,flat_get hg hw1];rfl
     have hr:=hround _ _ hgx
     have hln:=hlen _ (List.mem_of_getElem? hgx)
     refine e_ 69 rfl (x':=optS (some s')) (by rw [hx]) ?_
     refine A.valE 12 rfl (x':=AI (n:Nat)) (by rw [hn];rfl) ?_
     refine A.keep [0,1,2,3,11,12,13,14,50,51,52] rfl ?_
     refine d_ 13 [0,1,2,3,4,5,7,8,9,10,11,6,12] [(6,whA (t.drop n) op f),(12,rnV q)] ?_
     refine iw_ rfl hat (encR_eq y) ?_
     refine WA.c rfl rfl hfr (.sub s_) ?_
     refine WA.c rfl rfl hrun (.sub s_) ?_
     refine WA.nil (l:=[]) rfl ?_
     refine l_ (Λ':= .loop c.lp c.r0 .ready none::Λ1) ?_
     refine A.yieldC c (xs:=gvA (n,q)) (Λ2:=[]) rfl rfl rfl rfl rfl rfl hln .refl hl (by rw [List.append_nil]) hj2 hr (fun Λ4 hi4=>?_) (fun st pd Λ4 hst4 hs4=>?_)
     ·refine A.entsEq (List.append_nil _) ?_
      refine y_ ?_
      refine A.valE 52 rfl (x':=AI ((j+1:Nat):Int)) (inc_eq j (by omega)) ?_
      refine u_ (ih (j+1,Λ4) ⟨by show j+1<=_;omega,by show c.Inv _ Λ4;rw [flat_at hg,hw1,List.length_append];exact hi4⟩ (by show _-(j+1)<_-j;omega))
     ·refine A.entsEq (List.append_nil _) ?_
      refine y_ ?_
      exact A.ret0 rfl rfl (.refl _) (hstop _ _ _ hst4 hs4) rfl
   ·have hrun:=hR g hgm y (by rw [hy];exact .head _) t s ht htl hs
    have hfr:=from_p t op f 0 (Nat.zero_le _)
    refine Exists.elim (show∃n:Nat,n=0 from ⟨0,rfl⟩) fun n hn=>?_
    refine Exists.elim (show∃q,q=runR f op t s y from ⟨_,rfl⟩) fun q hq=>?_
    rw [<-hn] at hfr
    rw [<-hq,show t=t.drop n by rw [hn,List.drop_zero]] at hrun
    have hw1:ways1 f op t s g=[(n,q)]:=by unfold ways1;rw [if_neg h3,hn,hq,hy,bodR19]
    have hgx:(((redG s p.gs).flatMap (ways1 f op t s)).map gvA)[(((redG s p.gs).take j).flatMap (ways1 f op t s)).length]? =some (gvA (n,q)):=by rw [List.getElem?_map,flat_get hg hw1];rfl
    have hr:=hround _ _ hgx
    have hln:=hlen _ (List.mem_of_getElem? hgx)
    refine A.gF rfl (by show (g.kind==3)=false;simpa using h3) ?_
    refine A.valE 12 rfl (x':=AI (n:Nat)) (by rw [hn];rfl) ?_
    refine A.keep [0,1,2,3,11,12,13,14,50,51,52,59] rfl ?_
    refine y_ ?_
    refine d_ 13 [0,1,2,3,4,5,7,8,9,10,11,6,12] [(6,whA (t.drop n) op f),(12,rnV q)] ?_
    refine iw_ rfl hat (encR_eq y) ?_
    refine WA.c rfl rfl hfr (.sub s_) ?_
    refine WA.c rfl rfl hrun (.sub s_) ?_
    refine WA.nil (l:=[]) rfl ?_
    refine l_ (Λ':= .loop c.lp c.r0 .ready none::Λ1) ?_
    refine A.yieldC c (xs:=gvA (n,q)) (Λ2:=[]) rfl rfl rfl rfl rfl rfl hln .refl hl (by rw [List.append_nil]) hj2 hr (fun Λ4 hi4=>?_) (fun st pd Λ4 hst4 hs4=>?_)
    ·refine A.entsEq (List.append_nil _) ?_
     refine y_ ?_
     refine A.valE 52 rfl (x':=AI ((j+1:Nat):Int)) (inc_eq j (by omega)) ?_
     refine u_ (ih (j+1,Λ4) ⟨by show j+1<=_;omega,by show c.Inv _ Λ4;rw [flat_at hg,hw1,List.length_append];exact hi4⟩ (by show _-(j+1)<_-j;omega))
    ·refine A.entsEq (List.append_nil _) ?_
     refine y_ ?_
     exact A.ret0 rfl rfl (.refl _) (hstop _ _ _ hst4 hs4) rfl
  ·refine A.gF rfl (by show decide ((j:Int)<((redG s p.gs).length:Nat))=false;rw [decide_eq_false_iff_not];omega) ?_
   rw [List.take_of_length_le (by omega)] at hj2
   refine y_ ?_
   exact A.ret0 rfl rfl (.refl _) (hfin _ (by rw [List.length_map];exact hj2)) rfl
theorem evSt(a b c d:Int):EqSt Tryz.prog 83 [.int .i64 a, .int .i32 b] [.int .i64 c, .int .i32 d] (a==c&&b==d) where
 guard:=by kernel_rfl
 run:=fun w=>by
  have hS:Tryz.prog.underlying 83=some (.struct (Tryz.prog.fieldsOf 83)):=by kernel_rfl
  have hF:(Tryz.prog.fieldsOf 83).toList=(#[⟨"C",3,0,false, "", "",0⟩,⟨"V",21,1,false, "", "",8⟩]:Array Field).toList:=by kernel_rfl
  have hp:Tryz.prog.stoodInHeld 83=false:=by kernel_rfl
  have u1:Tryz.prog.underlying 3=some (.int .i64):=by kernel_rfl
  have u2:Tryz.prog.underlying 21=some (.int .i32):=by kernel_rfl
  have k1:=TT.Ok.get tt_ok (show tt.get 3=some _ from rfl)
  have k2:=TT.Ok.get tt_ok (show tt.get 21=some _ from rfl)
  have p1: ∀(x y:Int),(part 3 ⟨[.int .i64 x, .int .i32 y]⟩ 0).run Tryz.prog w= .ok (.int .i64 x) w:=fun x y=>run_part k1 rfl
  have p2: ∀(x y:Int),(part 21 ⟨[.int .i64 x, .int .i32 y]⟩ 1).run Tryz.prog w= .ok (.int .i32 y) w:=fun x y=>run_part k2 rfl
  have q1:=run_equalIn_int (P:=Tryz.prog) w 9998 3 .i64 .i64 a c u1
  have q2:=run_equalIn_int (P:=Tryz.prog) w 9998 21 .i32 .i32 b d u2
  rw [show (10000:Nat)=9999+1 from rfl,run_equalIn_agg w 9999 _ _ _ hS hp,hF]
  simp only [Op.eqFields,ne_eq,Sem.run_bind,Sem.run_ite,p1,p2,q1,q2,Result.andThen_ok,Sem.run_pure]
  cases h1:(a==c)<;>cases h2:(b==d)<;>simp
abbrev knum(n:Int):KE:=⟨1,0,0,n,0,[]⟩
abbrev kvar(v:Int):KE:=⟨2,0,0,0,v,[]⟩
abbrev pOut:PR:=⟨6,2,0,1,[],[knum 5],[],[]⟩
abbrev pIn:PR:=⟨5,2,0,1,[⟨0,[]⟩],[],[],[]⟩
abbrev pTell:PR:=⟨6,1,0,1,[],[kvar 0],[],[]⟩
abbrev pSeq:PR:=⟨9,0,0,0,[],[],[],[pIn,pTell]⟩
abbrev pRoot:PR:=⟨10,0,0,0,[],[],[],[pOut,pSeq]⟩
abbrev st0:ST:=⟨[[0]],pRoot,[],0⟩
abbrev st2:ST:=⟨[[5]],skipR,[],0⟩
structure ItemOk(V:List KV)(m:Nat)(x:GVq):Prop where
 n:x.1<=m
 ok:QOk V x.2 (m-x.1) 2000
theorem bod_ok{V:List KV}{C:List Int}{p:PR}(u:Un V C p){f:Nat}(hw: ∀g,g∈p.gs-> ∀x,x∈g.body->wayR x f<=2000){g:GD}(hg:g∈p.gs)(op:List Int){t:TR}{s:Sto}(ht:TrI t)(hs:StOk V s):QOk V (bodR19 f op t s g.body) t.length 2000:=by
 obtain ⟨y,hy⟩:=u.loc.body g hg
 have hm:y∈g.body:=by rw [hy];exact .head _
 have:=one_ok (f:=f) (u.g g hg y hm) op t s ht hs
 rw [hy,bodR19]
 exact ⟨this.wf,this.ok,Nat.le_trans this.len (hw g hg y hm)⟩
theorem item_one{V:List KV}{C:List Int}{p:PR}(u:Un V C p){f:Nat}(hw: ∀g,g∈p.gs-> ∀x,x∈g.body->wayR x f<=2000){g:GD}(hg:g∈p.gs)(hgb:g.kind=3->inputB V C.length g.c g.item g.to=true)(op:List Int){t:TR}{s:Sto}(ht:TrI t)(hs:StOk V s): ∀x,x∈ways1 f op t s g->ItemOk V t.length x:=by
 intro x hx
 unfold ways1 at hx
 split at hx
 ·rename_i h3
  cases hin:inp19 op t g.c g.item g.to s with
  |none=>rw [hin] at hx;cases hx
  |some s'=>
   rw [hin] at hx
   simp only at hx
   rw [List.mem_singleton] at hx
   subst hx
   have:=bod_ok u hw hg op (trI_drop ht 1) (inp_ok hs ht (hgb h3) hin)
   rw [List.length_drop] at this
   exact ⟨inp_some hin,this⟩
 ·rw [List.mem_singleton] at hx
  subst hx
  exact ⟨Nat.zero_le _,bod_ok u hw hg op ht hs⟩
theorem items_ok{V:List KV}{C:List Int}{p:PR}(u:Un V C p)(hk:p.kind=12\/p.kind=14\/p.kind=15){f:Nat}(hw: ∀g,g∈p.gs-> ∀x,x∈g.body->wayR x f<=2000)(op:List Int){t:TR}{s:Sto}(ht:TrI t)(hs:StOk V s):(∀x,x∈guardsM p.kind f op t s p.gs->ItemOk V t.length x)/\(guardsM p.kind f op t s p.gs).length<=16:=by
 have hgl:=u.loc.lens.2.2.1
 unfold guardsM
 by_cases h12:p.kind=12
 ·rw [if_pos h12]
  have key: ∀gs:List GD,(∀g,g∈gs->g∈p.gs)->(∀x,x∈ifG f op t s gs->ItemOk V t.length x)/\(ifG f op t s gs).length<=1:=by
   intro gs
   induction gs with
   |nil=>intro _;rw [ifG];exact ⟨fun x hx=>(by cases hx),Nat.zero_le _⟩
   |cons g r ih=>
    intro hg
    have i1:=ih fun x hx=>hg x (.tail _ hx)
    rw [ifG]
    cases valueM s g.cond with
    |none=>exact ⟨fun x hx=>(by cases hx),Nat.zero_le _⟩
    |some v=>
     simp only
     split
     ·exact i1
     ·refine ⟨fun x hx=>?_,Nat.le_refl _⟩
      rw [List.mem_singleton] at hx
      subst hx
      exact ⟨Nat.zero_le _,bod_ok u hw (hg g (.head _)) op ht hs⟩
  have:=key p.gs fun g h=>h
  exact ⟨this.1,by omega⟩
 ·rw [if_neg h12]
  split
  ·have hone: ∀g,g∈p.gs-> ∀x,x∈ways1 f op t s g->ItemOk V t.length x:=fun g hg=>item_one u hw hg (fun h3=>by
    have:=u.kg hk g hg
    unfold guardB at this
    rw [if_neg (by omega),if_pos h3] at this
    simp only [Bool.and_eq_true] at this
    exact this.2.2) op ht hs
   refine ⟨fun x hx=>?_,?_⟩
   ·obtain ⟨g,hg,hx⟩:=List.mem_flatMap.1 hx
    exact hone g (List.mem_filter.1 hg).1 x hx
   ·have h1: ∀g,(ways1 f op t s g).length<=1:=fun g=>by
     unfold ways1
     split
     ·cases inp19 op t g.c g.item g.to s<;>simp
     ·simp
    have: ∀l:List GD,(l.flatMap (ways1 f op t s)).length<=l.length:=by
     intro l
     induction l with
     |nil=>simp
     |cons g r ih=>
      rw [List.flatMap_cons,List.length_append,List.length_cons]
      have:=h1 g
      omega
    have h2:=this (redG s p.gs)
    have h3:=red_len s p.gs
    omega
  ·exact ⟨fun x hx=>(by cases hx),Nat.zero_le _⟩
theorem join_all_ok{V:List KV}{m:Nat}: ∀(l:List GVq) (acc:RN) (b:Nat),(∀x,x∈l->ItemOk V m x)->QOk V acc m b->QOk V (joinAll acc l) m (b+l.length*2000)
 | [],acc,b,_,h=>⟨h.wf,h.ok,by have:=h.len;show acc.ends.length<=_;omega⟩
 |x::r,acc,b,hx,h=>by
  have h1:=hx x (.head _)
  have:=join_all_ok r (joinR acc x.1 x.2) (b+2000) (fun y hy=>hx y (.tail _ hy)) ⟨h.wf.join h1.ok.wf h1.n,h.ok.join h1.ok.ok,by have:=join_len acc x.1 x.2;have:=h.len;have:=h1.ok.len;omega⟩
  exact ⟨this.wf,this.ok,by have:=this.len;rw [List.length_cons];show (joinAll (joinR acc x.1 x.2) r).ends.length<=_;omega⟩
theorem nil_ok19(V:List KV)(m:Nat):QOk V nilR m 0:=⟨wf_nil m,EOk.nil,Nat.le_refl _⟩
theorem join_all_next{l:List GVq}{i:Nat}{x:GVq}(h:l[i]? =some x):joinAll nilR (l.take (i+1))=joinR (joinAll nilR (l.take i)) x.1 x.2:=by
 unfold joinAll
 rw [take19 h,List.foldl_append];rfl
theorem guards_p(p:PR)(s:Sto)(t:TR)(op:List Int)(f:Nat):Pure Tryz.prog gs0 140 [whA t op f,cellsR p,rowsA s] (.fn 219 [] [.pe 8 (cellsR p), .pe 1 (rowsA s), .pe 3 (whA t op f)]):=by
 refine p_ tt_ok Tryz.func140 8 fun w0 h0 F hgs=>?_
 (repeat refine A.s rfl ?_)
 refine A.b rfl fun b3=>?_
 refine A.b rfl fun b4=>?_
 refine A.b rfl fun b5=>?_
 refine A.freeze 3 (sz:=3) rfl rfl rfl ?_
 refine A.freeze 4 (sz:=8) rfl rfl rfl ?_
 refine A.freeze 5 (sz:=1) rfl rfl rfl ?_
 exact yr_
structure Parts(V:List KV)(C:List Int)(f:Nat)(op:List Int)(t:TR)(s:Sto)(p:PR):Prop where
 seq:p.kind=9->Pure Tryz.prog gs0 138 [whA t op f,rsA p.l,rowsA s] (rnV (seqR19 f op t s p.l))
 loop:p.kind=13->Pure Tryz.prog gs0 139 [whA t op f,cellsR p,rowsA s] (rnV (runR f op t s p))
 gs:p.kind=12\/p.kind=14\/p.kind=15->IterG p s t op f
 par:p.kind=10\/p.kind=11->Pure Tryz.prog gs0 141 [whA t op f,rsA p.l,rowsA s] (rnV (parM (p.l.map chansM) (brsR f op (p.l.map chansM) 0 t s p.l) t s))
 way:p.kind=12\/p.kind=14\/p.kind=15-> ∀g,g∈p.gs-> ∀x,x∈g.body->wayR x f<=2000
theorem run_plain{V:List KV}{C:List Int}(p:PR)(u:Un V C p)(f:Nat)(op:List Int)(t:TR)(s:Sto)(ht:TrI t)(htl:t.length<=256)(hop:op.length<=1048576)(hs:StOk V s)(P:Parts V C f op t s p)(hk:p.kind=1\/p.kind=2\/p.kind=4\/p.kind=9\/p.kind=10\/p.kind=11\/p.kind=13\/p.kind=16):Pure Tryz.prog gs0 87 [whA t op f,cellsR p,rowsA s] (rnV (runR f op t s p)):=by
 have hfin:=fin_p (V:=V) s hs
 rcases hk with hk|hk|hk|hk|hk|hk|hk|hk
 ·have hR:runR f op t s p=finR s:=by obtain ⟨k,c,v,it,to,e,gs,l⟩:=p;rw [runR_eq];exact if_pos hk
  rw [hR]
  refine p_ tt_ok Tryz.func87 146 fun w0 h0 F hgs=>?_
  (repeat refine A.s rfl ?_)
  refine A.b rfl fun b3=>?_
  refine A.b rfl fun b4=>?_
  refine A.b rfl fun b6=>?_
  (repeat refine A.s rfl ?_)
  refine A.r rfl rfl ?_
  refine e_ 17 rfl (x':=AU8 1) (by rw [hk]) ?_
  refine c_ hfin ?_
  refine A.retC (Λ':=[]) rfl rfl rfl rfl rfl (List.nil_sublist _) ⟨?_,rfl⟩
  exact s_
 ·have hR:runR f op t s p=nilR:=by
   obtain ⟨k,c,v,it,to,e,gs,l⟩:=p
   have hk:k=2:=hk
   rw [runR_eq,if_neg (show¬k=1 by omega),if_neg (show¬k=3 by omega),if_neg (show¬k=4 by omega),if_neg (show¬k=5 by omega),if_neg (show¬k=6 by omega),if_neg (show¬k=9 by omega),if_neg (show¬k=13 by omega),if_neg (show¬k=12 by omega),if_neg (show¬(k=14\/k=15) by omega),if_neg (show¬(k=10\/k=11) by omega)]
  rw [hR]
  refine p_ tt_ok Tryz.func87 146 fun w0 h0 F hgs=>?_
  (repeat refine A.s rfl ?_)
  refine A.b rfl fun b3=>?_
  refine A.b rfl fun b4=>?_
  refine A.b rfl fun b6=>?_
  (repeat refine A.s rfl ?_)
  refine A.r rfl rfl ?_
  refine e_ 17 rfl (x':=AU8 2) (by rw [hk]) ?_
  refine A.retC (Λ':=[]) rfl rfl rfl rfl rfl (List.nil_sublist _) ⟨?_,rfl⟩
  exact s_
 ·have hR:runR f op t s p=(match asg19 s p.to p.e s with|some s'=>finR s'|none=>nilR):=by
   obtain ⟨k,c,v,it,to,e,gs,l⟩:=p
   have hk:k=4:=hk
   rw [runR_eq,if_neg (show¬k=1 by omega),if_neg (show¬k=3 by omega),if_pos (show k=4 by omega)]
   rfl
  have ha:=asgn_p p u hk s hs
  refine Or.elim (opt_cases (asg19 s p.to p.e s)) (fun hx=>?_) (fun hx=>?_)
  ·rw [hR,hx]
   rw [hx] at ha
   refine p_ tt_ok Tryz.func87 146 fun w0 h0 F hgs=>?_
   (repeat refine A.s rfl ?_)
   refine A.b rfl fun b3=>?_
   refine A.b rfl fun b4=>?_
   refine A.b rfl fun b6=>?_
   (repeat refine A.s rfl ?_)
   refine A.r rfl rfl ?_
   refine e_ 17 rfl (x':=AU8 4) (by rw [hk]) ?_
   refine c_ ha ?_
   refine A.retC (Λ':=[]) rfl rfl rfl rfl rfl (List.nil_sublist _) ⟨?_,rfl⟩
   exact s_
  ·obtain ⟨s',hx⟩:=hx
   have hs':=asg_ok hs p.to p.e s s' hs u.wfE (u.k4 hk).2 hx
   have hfin':=fin_p (V:=V) s' hs'
   rw [hR,hx]
   rw [hx] at ha
   refine p_ tt_ok Tryz.func87 146 fun w0 h0 F hgs=>?_
   (repeat refine A.s rfl ?_)
   refine A.b rfl fun b3=>?_
   refine A.b rfl fun b4=>?_
   refine A.b rfl fun b6=>?_
   (repeat refine A.s rfl ?_)
   refine A.r rfl rfl ?_
   refine e_ 17 rfl (x':=AU8 4) (by rw [hk]) ?_
   refine c_ ha ?_
   refine c_ hfin' ?_
   refine A.retC (Λ':=[]) rfl rfl rfl rfl rfl (List.nil_sublist _) ⟨?_,rfl⟩
   exact s_
 ·have hR:runR f op t s p=seqR19 f op t s p.l:=by
   obtain ⟨k,c,v,it,to,e,gs,l⟩:=p
   have hk:k=9:=hk
   rw [runR_eq,if_neg (show¬k=1 by omega),if_neg (show¬k=3 by omega),if_neg (show¬k=4 by omega),if_neg (show¬k=5 by omega),if_neg (show¬k=6 by omega),if_pos (show k=9 by omega)]
  have hc:=P.seq hk
  rw [hR]
  refine p_ tt_ok Tryz.func87 146 fun w0 h0 F hgs=>?_
  (repeat refine A.s rfl ?_)
  refine A.b rfl fun b3=>?_
  refine A.b rfl fun b4=>?_
  refine A.b rfl fun b6=>?_
  (repeat refine A.s rfl ?_)
  refine A.r rfl rfl ?_
  refine e_ 17 rfl (x':=AU8 9) (by rw [hk]) ?_
  refine c_ hc ?_
  refine A.retC (Λ':=[]) rfl rfl rfl rfl rfl (List.nil_sublist _) ⟨?_,rfl⟩
  exact s_
 ·have hR:runR f op t s p=parM (p.l.map chansM) (brsR f op (p.l.map chansM) 0 t s p.l) t s:=by
   obtain ⟨k,c,v,it,to,e,gs,l⟩:=p
   have hk:k=10:=hk
   rw [runR_eq,if_neg (show¬k=1 by omega),if_neg (show¬k=3 by omega),if_neg (show¬k=4 by omega),if_neg (show¬k=5 by omega),if_neg (show¬k=6 by omega),if_neg (show¬k=9 by omega),if_neg (show¬k=13 by omega),if_neg (show¬k=12 by omega),if_neg (show¬(k=14\/k=15) by omega),if_pos (show (k=10\/k=11) by omega)]
  have hc:=P.par (.inl hk)
  rw [hR]
  refine p_ tt_ok Tryz.func87 146 fun w0 h0 F hgs=>?_
  (repeat refine A.s rfl ?_)
  refine A.b rfl fun b3=>?_
  refine A.b rfl fun b4=>?_
  refine A.b rfl fun b6=>?_
  (repeat refine A.s rfl ?_)
  refine A.r rfl rfl ?_
  refine e_ 17 rfl (x':=AU8 10) (by rw [hk]) ?_
  refine c_ hc ?_
  refine A.retC (Λ':=[]) rfl rfl rfl rfl rfl (List.nil_sublist _) ⟨?_,rfl⟩
  exact s_
 ·have hR:runR f op t s p=parM (p.l.map chansM) (brsR f op (p.l.map chansM) 0 t s p.l) t s:=by
   obtain ⟨k,c,v,it,to,e,gs,l⟩:=p
   have hk:k=11:=hk
   rw [runR_eq,if_neg (show¬k=1 by omega),if_neg (show¬k=3 by omega),if_neg (show¬k=4 by omega),if_neg (show¬k=5 by omega),if_neg (show¬k=6 by omega),if_neg (show¬k=9 by omega),if_neg (show¬k=13 by omega),if_neg (show¬k=12 by omega),if_neg (show¬(k=14\/k=15) by omega),if_pos (show (k=10\/k=11) by omega)]
  have hc:=P.par (.inr hk)
  rw [hR]
  refine p_ tt_ok Tryz.func87 146 fun w0 h0 F hgs=>?_
  (repeat refine A.s rfl ?_)
  refine A.b rfl fun b3=>?_
  refine A.b rfl fun b4=>?_
  refine A.b rfl fun b6=>?_
  (repeat refine A.s rfl ?_)
  refine A.r rfl rfl ?_
  refine e_ 17 rfl (x':=AU8 11) (by rw [hk]) ?_
  refine c_ hc ?_
  refine A.retC (Λ':=[]) rfl rfl rfl rfl rfl (List.nil_sublist _) ⟨?_,rfl⟩
  exact s_
 ·have hc:=P.loop hk
  refine p_ tt_ok Tryz.func87 146 fun w0 h0 F hgs=>?_
  (repeat refine A.s rfl ?_)
  refine A.b rfl fun b3=>?_
  refine A.b rfl fun b4=>?_
  refine A.b rfl fun b6=>?_
  (repeat refine A.s rfl ?_)
  refine A.r rfl rfl ?_
  refine e_ 17 rfl (x':=AU8 13) (by rw [hk]) ?_
  refine c_ hc ?_
  refine A.retC (Λ':=[]) rfl rfl rfl rfl rfl (List.nil_sublist _) ⟨?_,rfl⟩
  exact s_
 ·have hR:runR f op t s p=nilR:=by
   obtain ⟨k,c,v,it,to,e,gs,l⟩:=p
   have hk:k=16:=hk
   rw [runR_eq,if_neg (show¬k=1 by omega),if_neg (show¬k=3 by omega),if_neg (show¬k=4 by omega),if_neg (show¬k=5 by omega),if_neg (show¬k=6 by omega),if_neg (show¬k=9 by omega),if_neg (show¬k=13 by omega),if_neg (show¬k=12 by omega),if_neg (show¬(k=14\/k=15) by omega),if_neg (show¬(k=10\/k=11) by omega)]
  rw [hR]
  refine p_ tt_ok Tryz.func87 146 fun w0 h0 F hgs=>?_
  (repeat refine A.s rfl ?_)
  refine A.b rfl fun b3=>?_
  refine A.b rfl fun b4=>?_
  refine A.b rfl fun b6=>?_
  (repeat refine A.s rfl ?_)
  refine A.r rfl rfl ?_
  refine e_ 17 rfl (x':=AU8 16) (by rw [hk]) ?_
  refine A.retC (Λ':=[]) rfl rfl rfl rfl rfl (List.nil_sublist _) ⟨?_,rfl⟩
  exact s_
theorem run_clear{V:List KV}{C:List Int}(p:PR)(u:Un V C p)(f:Nat)(op:List Int)(t:TR)(s:Sto)(hs:StOk V s)(hk:p.kind=3):Pure Tryz.prog gs0 87 [whA t op f,cellsR p,rowsA s] (rnV (runR f op t s p)):=by
 obtain ⟨hv0,hv1⟩:=u.k3 hk
 have hsl:s.length=V.length:=(mayB_rows hs.may).1
 refine Exists.elim (at_exN (l:=s) (i:=p.v.toNat) (by omega)) fun row hrow=>?_
 have hrl:row.length<=64:=(shp_short hs).2 row (List.mem_of_getElem? hrow)
 have nr:((row.map AI32).length:Int)=row.length:=by rw [List.length_map]
 have hR:runR f op t s p=finR (clearM s p.v row.length):=by
  obtain ⟨k,c,v,it,to,e,gs,l⟩:=p
  have hk:k=3:=hk
  rw [runR_eq,if_neg (show¬k=1 by omega),if_pos hk]
  unfold clrM
  have hrow:s[v.toNat]? =some row:=hrow
  rw [hrow]
  rfl
 have hfin:=fin_p (V:=V) (clearM s p.v row.length) (clear_ok hs p.v _)
 rw [hR]
 refine p_ tt_ok Tryz.func87 146 fun w0 h0 F hgs=>?_
 (repeat refine A.s rfl ?_)
 refine A.b rfl fun b3=>?_
 refine A.b rfl fun b4=>?_
 refine A.b rfl fun b6=>?_
 (repeat refine A.s rfl ?_)
 refine A.r rfl rfl ?_
 refine e_ 17 rfl (x':=AU8 3) (by rw [hk]) ?_
 refine A.x rfl hv0 (map_at hrow) rfl rfl ?_
 refine y_ ?_
 refine A.valE 29 rfl (x':=AI (row.length:Nat)) (ai_eq nr) ?_
 refine A.keep [2,4,6,29,30] rfl ?_
 refine A.loopP (ι:=Nat) (fun i=>(⟨[(2,rowsA (clearM s p.v i)),(4,ptrA b4),(6,ptrA b6),(29,AI (row.length:Nat)),(30,AI (i:Nat))],[]⟩,[.box b6 (.ag (List.map AV.v ty87.zero)), .box b4 (cellsR p), .box b3 (whA t op f)])) (fun i=>i<=row.length) (fun i=>row.length-i) 0 (Nat.zero_le _) rfl fun i hi ih=>?_
 refine y_ ?_
 by_cases hci:i<row.length
 ·have hput:=(clear_ok hs p.v i).small.put_p p.v (i:Nat) 0
  rw [<-clearM_succ] at hput
  refine T_ rfl (by show decide ((i:Int)<(row.length:Nat))=true;rw [decide_eq_true_eq];omega) ?_
  refine c_ hput ?_
  refine A.valE 30 rfl (x':=AI ((i+1:Nat):Int)) (inc_eq i (by omega)) ?_
  refine u_ (ih (i+1) (by show i+1<=_;omega) (by show _-(i+1)<_-i;omega))
 ·refine A.gF rfl (by show decide ((i:Int)<(row.length:Nat))=false;rw [decide_eq_false_iff_not];omega) ?_
  refine e_ 2 rfl (x':=rowsA (clearM s p.v row.length)) (by rw [show i=row.length by omega]) ?_
  refine c_ hfin ?_
  refine A.retC (Λ':=[]) rfl rfl rfl rfl rfl (List.nil_sublist _) ⟨?_,rfl⟩
  exact s_
theorem nil_rn(V:List KV):RnOk V nilR:=nilR_ok V
theorem run_inp{V:List KV}{C:List Int}(p:PR)(u:Un V C p)(f:Nat)(op:List Int)(t:TR)(s:Sto)(ht:TrI t)(htl:t.length<=256)(hop:op.length<=1048576)(hs:StOk V s)(hk:p.kind=5):Pure Tryz.prog gs0 87 [whA t op f,cellsR p,rowsA s] (rnV (runR f op t s p)):=by
 obtain ⟨q,hq,hib⟩:=u.k5 hk
 obtain ⟨w1,w2⟩:=pl_wf u (show q∈p.to by rw [hq];exact .head _)
 have hin:=input19_p t op f p.c p.item q s hs ht w1 w2 (by omega)
 have hat:(p.to.map encPl)[(0:Int).toNat]? =some (encPl q):=by rw [hq];rfl
 have hR:runR f op t s p=(match inp19 op t p.c p.item q s with|some s'=>joinR nilR 1 (finR s')|none=>nilR):=by
  obtain ⟨k,c,v,it,to,e,gs,l⟩:=p
  have hk:k=5:=hk
  have hq:to=[q]:=hq
  rw [runR_eq,if_neg (show¬k=1 by omega),if_neg (show¬k=3 by omega),if_neg (show¬k=4 by omega),if_pos hk,hq]
  rfl
 refine Or.elim (opt_cases (inp19 op t p.c p.item q s)) (fun hx=>?_) (fun hx=>?_)
 ·rw [hR,hx]
  rw [hx] at hin
  refine p_ tt_ok Tryz.func87 146 fun w0 h0 F hgs=>?_
  (repeat refine A.s rfl ?_)
  refine A.b rfl fun b3=>?_
  refine A.b rfl fun b4=>?_
  refine A.b rfl fun b6=>?_
  (repeat refine A.s rfl ?_)
  refine A.r rfl rfl ?_
  refine e_ 17 rfl (x':=AU8 5) (by rw [hk]) ?_
  refine d_ 16 [0,1,2,3,4,5,6,7,8,9,10,11,12,13,14,15] [(10,optS none)] ?_
  refine iw_ rfl hat rfl ?_
  refine cw_ hin ?_
  refine z_ ?_
  refine A.retC (Λ':=[]) rfl rfl rfl rfl rfl (List.nil_sublist _) ⟨?_,rfl⟩
  exact s_
 ·obtain ⟨s',hx⟩:=hx
  have hs':=inp_ok hs ht hib hx
  have h1l:=inp_some hx
  have hfin:=fin_p (V:=V) s' hs'
  rw [hR,hx]
  rw [hx] at hin
  have hj1:=fun b6=>join19_p (V:=V) b6 0 (.slice none 0 0) nilR (finR s') 1 (nil_rn V) (fun e he=>by rw [List.mem_singleton.1 he];exact ⟨hs',by show 1+0<=256;omega⟩) (by show 0+1<=_;omega) (by show 0<=_;omega) (by show 1+0<=_;omega)
  refine p_ tt_ok Tryz.func87 146 fun w0 h0 F hgs=>?_
  (repeat refine A.s rfl ?_)
  refine A.b rfl fun b3=>?_
  refine A.b rfl fun b4=>?_
  refine A.b rfl fun b6=>?_
  (repeat refine A.s rfl ?_)
  refine A.r rfl rfl ?_
  refine e_ 17 rfl (x':=AU8 5) (by rw [hk]) ?_
  refine d_ 16 [0,1,2,3,4,5,6,7,8,9,10,11,12,13,14,15] [(10,optS (some s'))] ?_
  refine iw_ rfl hat rfl ?_
  refine cw_ hin ?_
  refine z_ ?_
  refine n_ hfin ?_
  have hj1:=hj1 b6
  refine A.boxAs (b:=b6) (x':=rnB (.slice none 0 0) 0 nilR) (perm_pick [0,1,2] rfl rfl rfl rfl) rn_nil ?_
  refine A.nilRow 2 ?_
  refine A.perm (Λ':=rnL b6 (.slice none 0 0) 0 nilR++[.box b4 (cellsR p), .box b3 (whA t op f)]) (perm_pick [1,0,2,3] rfl rfl rfl rfl) ?_
  refine A.less (Λ':=rnL b6 (.slice none 0 0) 0 nilR) (List.sublist_append_left _ _) ?_
  refine A.e rfl hj1 s_ (Λ2:=[]) (by rw [List.append_nil]) fun v _=>?_
  refine A.entsEq (List.append_nil _) ?_
  obtain ⟨z,m⟩:=v
  refine A.less (Λ':=[.box b6 (rnB z m (joinR nilR 1 (finR s'))), .row 2 z ((joinR nilR 1 (finR s')).ends.map enA)]) (List.Sublist.cons_cons _ (List.Sublist.cons_cons _ (List.nil_sublist _))) ?_
  refine A.freezeRowV 6 z (x':=rnV _) rfl (rn_fz z m _) ?_
  refine y_ ?_
  refine A.retC (Λ':=[]) rfl rfl rfl rfl rfl (List.nil_sublist _) ⟨?_,rfl⟩
  exact s_
theorem run_out{V:List KV}{C:List Int}(p:PR)(u:Un V C p)(f:Nat)(op:List Int)(t:TR)(s:Sto)(ht:TrI t)(htl:t.length<=256)(hop:op.length<=1048576)(hs:StOk V s)(hk:p.kind=6):Pure Tryz.prog gs0 87 [whA t op f,cellsR p,rowsA s] (rnV (runR f op t s p)):=by
 obtain ⟨x,hq⟩:=u.k6 hk
 have hvp:=Value_p s hs.ws x (u.wfE x (by rw [hq];exact .head _))
 rw [encK_eq] at hvp
 have hat:(encKl p.e)[(0:Int).toNat]? =some (encK x):=encKl_at (by rw [hq];rfl)
 have hhas:=has19_p op p.c (by omega)
 have hfin:=fin_p (V:=V) s hs
 have hR:runR f op t s p=(if out19 op t p.c x s=true then joinR nilR 1 (finR s) else nilR):=by
  obtain ⟨k,c,v,it,to,e,gs,l⟩:=p
  have hk:k=6:=hk
  have hq:e=[x]:=hq
  rw [runR_eq,if_neg (show¬k=1 by omega),if_neg (show¬k=3 by omega),if_neg (show¬k=4 by omega),if_neg (show¬k=5 by omega),if_pos hk,hq]
 refine Or.elim (opt_cases (valueM s x)) (fun hx=>?_) (fun hx=>?_)
 ·have ho:out19 op t p.c x s=false:=by unfold out19;rw [hx]
  rw [hR,ho,if_neg (by decide)]
  rw [hx] at hvp
  refine p_ tt_ok Tryz.func87 146 fun w0 h0 F hgs=>?_
  (repeat refine A.s rfl ?_)
  refine A.b rfl fun b3=>?_
  refine A.b rfl fun b4=>?_
  refine A.b rfl fun b6=>?_
  (repeat refine A.s rfl ?_)
  refine A.r rfl rfl ?_
  refine e_ 17 rfl (x':=AU8 6) (by rw [hk]) ?_
  refine i_ rfl hat (encK_eq x) ?_
  refine c_ hvp ?_
  refine d_ 25 [0,1,2,3,4,5,6,7,8,9,10,11,12,13,14,15,16,17,18,19,20,21,22,23,24] [] ?_
  refine z_ ?_
  refine A.retC (Λ':=[]) rfl rfl rfl rfl rfl (List.nil_sublist _) ⟨?_,rfl⟩
  exact s_
 obtain ⟨v,hx⟩:=hx
 rw [hx] at hvp
 by_cases hc:op.contains p.c=true
 case neg=>
  have hc0:op.contains p.c=false:=by simpa using hc
  have ho:out19 op t p.c x s=false:=by
   unfold out19;rw [hx]
   show (decide (p.c∈op)&&_)=false
   rw [decide_eq_false (fun h=>hc (List.contains_iff_mem.2 h)),Bool.false_and]
  rw [hR,ho,if_neg (by decide)]
  rw [hc0] at hhas
  refine p_ tt_ok Tryz.func87 146 fun w0 h0 F hgs=>?_
  (repeat refine A.s rfl ?_)
  refine A.b rfl fun b3=>?_
  refine A.b rfl fun b4=>?_
  refine A.b rfl fun b6=>?_
  (repeat refine A.s rfl ?_)
  refine A.r rfl rfl ?_
  refine e_ 17 rfl (x':=AU8 6) (by rw [hk]) ?_
  refine i_ rfl hat (encK_eq x) ?_
  refine c_ hvp ?_
  refine d_ 25 [0,1,2,3,4,5,6,7,8,9,10,11,12,13,14,15,16,17,18,19,20,21,22,23,24] [(6,AB false)] ?_
  refine cw_ hhas ?_
  refine z_ ?_
  refine A.retC (Λ':=[]) rfl rfl rfl rfl rfl (List.nil_sublist _) ⟨?_,rfl⟩
  exact s_
 rw [hc] at hhas
 have hcm:=List.contains_iff_mem.1 hc
 have hoo:out19 op t p.c x s=decide (t.head? =some (p.c,v)):=by
  unfold out19;rw [hx]
  show (decide (p.c∈op)&&_)=_
  rw [decide_eq_true hcm,Bool.true_and]
 cases t with
 |nil=>
  rw [hR,hoo,if_neg (by simp)]
  refine p_ tt_ok Tryz.func87 146 fun w0 h0 F hgs=>?_
  (repeat refine A.s rfl ?_)
  refine A.b rfl fun b3=>?_
  refine A.b rfl fun b4=>?_
  refine A.b rfl fun b6=>?_
  (repeat refine A.s rfl ?_)
  refine A.r rfl rfl ?_
  refine e_ 17 rfl (x':=AU8 6) (by rw [hk]) ?_
  refine i_ rfl hat (encK_eq x) ?_
  refine c_ hvp ?_
  refine d_ 25 [0,1,2,3,4,5,6,7,8,9,10,11,12,13,14,15,16,17,18,19,20,21,22,23,24] [(6,AB true)] ?_
  refine cw_ hhas ?_
  refine z_ ?_
  refine A.retC (Λ':=[]) rfl rfl rfl rfl rfl (List.nil_sublist _) ⟨?_,rfl⟩
  exact s_
 |cons e r=>
  by_cases he:(e.1==p.c&&e.2==v)=true
  ·have heq:e=(p.c,v):=by
    rw [Bool.and_eq_true,beq_iff_eq,beq_iff_eq] at he
    exact Prod.ext he.1 he.2
   rw [hR,hoo,if_pos (by rw [heq];simp)]
   have hj1:=fun b6=>join19_p (V:=V) b6 0 (.slice none 0 0) nilR (finR s) 1 (nil_rn V) (fun e he=>by rw [List.mem_singleton.1 he];exact ⟨hs,by show 1+0<=256;omega⟩) (by show 0+1<=_;omega) (by show 0<=_;omega) (by show 1+0<=_;omega)
   refine Exists.elim (show∃t,t=e::r from ⟨_,rfl⟩) fun t het=>?_
   refine Exists.elim (show∃s',s'=s from ⟨_,rfl⟩) fun s' hss=>?_
   rw [<-hss] at hfin hj1 hvp⊢
   have hat0:(t.map evA)[(0:Int).toNat]? =some (evA e):=by rw [het];rfl
   have ntl:((t.map evA).length:Int)=(r.length+1:Nat):=by rw [het,List.length_map,List.length_cons]
   rw [<-het]
   refine p_ tt_ok Tryz.func87 146 fun w0 h0 F hgs=>?_
   (repeat refine A.s rfl ?_)
   refine A.b rfl fun b3=>?_
   refine A.b rfl fun b4=>?_
   refine A.b rfl fun b6=>?_
   (repeat refine A.s rfl ?_)
   refine A.r rfl rfl ?_
   refine e_ 17 rfl (x':=AU8 6) (by rw [hk]) ?_
   refine i_ rfl hat (encK_eq x) ?_
   refine c_ hvp ?_
   refine d_ 25 [0,1,2,3,4,5,6,7,8,9,10,11,12,13,14,15,16,17,18,19,20,21,22,23,24] [(6,AB true)] ?_
   refine cw_ hhas ?_
   refine ew_ 97 rfl (x':=AB true) (ab_eq (by show decide ((0:Int)<((t.map evA).length:Nat))=true;rw [ntl,decide_eq_true_eq];omega)) ?_
   refine iw_ rfl hat0 rfl ?_
   refine WA.eqSt rfl rfl rfl rfl rfl rfl rfl rfl rfl (evSt e.1 e.2 p.c v) ?_
   refine ew_ 106 rfl (x':=AB true) (ab_eq (by show (e.1==p.c&&e.2==v)=true;exact he)) ?_
   refine z_ ?_
   refine n_ hfin ?_
   have hj1:=hj1 b6
   refine A.boxAs (b:=b6) (x':=rnB (.slice none 0 0) 0 nilR) (perm_pick [0,1,2] rfl rfl rfl rfl) rn_nil ?_
   refine A.nilRow 2 ?_
   refine A.perm (Λ':=rnL b6 (.slice none 0 0) 0 nilR++[.box b4 (cellsR p), .box b3 (whA t op f)]) (perm_pick [1,0,2,3] rfl rfl rfl rfl) ?_
   refine A.less (Λ':=rnL b6 (.slice none 0 0) 0 nilR) (List.sublist_append_left _ _) ?_
   refine A.e rfl hj1 s_ (Λ2:=[]) (by rw [List.append_nil]) fun v _=>?_
   refine A.entsEq (List.append_nil _) ?_
   obtain ⟨z,m⟩:=v
   refine A.less (Λ':=[.box b6 (rnB z m (joinR nilR 1 (finR s'))), .row 2 z ((joinR nilR 1 (finR s')).ends.map enA)]) (List.Sublist.cons_cons _ (List.Sublist.cons_cons _ (List.nil_sublist _))) ?_
   refine A.freezeRowV 6 z (x':=rnV _) rfl (rn_fz z m _) ?_
   refine y_ ?_
   refine A.retC (Λ':=[]) rfl rfl rfl rfl rfl (List.nil_sublist _) ⟨?_,rfl⟩
   exact s_
  ·have he0:(e.1==p.c&&e.2==v)=false:=by simpa using he
   rw [hR,hoo,if_neg (by
    intro h
    have h:=of_decide_eq_true h
    injection h with h
    apply he
    rw [h];simp)]
   refine Exists.elim (show∃t,t=e::r from ⟨_,rfl⟩) fun t het=>?_
   have hat0:(t.map evA)[(0:Int).toNat]? =some (evA e):=by rw [het];rfl
   have ntl:((t.map evA).length:Int)=(r.length+1:Nat):=by rw [het,List.length_map,List.length_cons]
   rw [<-het]
   refine p_ tt_ok Tryz.func87 146 fun w0 h0 F hgs=>?_
   (repeat refine A.s rfl ?_)
   refine A.b rfl fun b3=>?_
   refine A.b rfl fun b4=>?_
   refine A.b rfl fun b6=>?_
   (repeat refine A.s rfl ?_)
   refine A.r rfl rfl ?_
   refine e_ 17 rfl (x':=AU8 6) (by rw [hk]) ?_
   refine i_ rfl hat (encK_eq x) ?_
   refine c_ hvp ?_
   refine d_ 25 [0,1,2,3,4,5,6,7,8,9,10,11,12,13,14,15,16,17,18,19,20,21,22,23,24] [(6,AB true)] ?_
   refine cw_ hhas ?_
   refine ew_ 97 rfl (x':=AB true) (ab_eq (by show decide ((0:Int)<((t.map evA).length:Nat))=true;rw [ntl,decide_eq_true_eq];omega)) ?_
   refine iw_ rfl hat0 rfl ?_
   refine WA.eqSt rfl rfl rfl rfl rfl rfl rfl rfl rfl (evSt e.1 e.2 p.c v) ?_
   refine ew_ 106 rfl (x':=AB false) (ab_eq (by show (e.1==p.c&&e.2==v)=false;exact he0)) ?_
   refine z_ ?_
   refine A.retC (Λ':=[]) rfl rfl rfl rfl rfl (List.nil_sublist _) ⟨?_,rfl⟩
   exact s_
theorem run_guards{V:List KV}{C:List Int}(p:PR)(u:Un V C p)(f:Nat)(op:List Int)(t:TR)(s:Sto)(ht:TrI t)(htl:t.length<=256)(hs:StOk V s)(P:Parts V C f op t s p)(K:Int)(hk:p.kind=K)(hK:K=12\/K=14\/K=15):Pure Tryz.prog gs0 87 [whA t op f,cellsR p,rowsA s] (rnV (runR f op t s p)):=by
 have hkk:p.kind=12\/p.kind=14\/p.kind=15:=by rw [hk];exact hK
 have hit:=P.gs hkk
 obtain ⟨hits,hlen⟩:=items_ok u hkk (P.way hkk) op ht hs
 have hgp:=guards_p p s t op f
 have hR:runR f op t s p=joinAll nilR (guardsM p.kind f op t s p.gs):=by obtain ⟨k,c,v,it,to,e,gs,l⟩:=p;exact guards_join hkk
 rw [hR]
 refine Exists.elim (show∃G,G=guardsM p.kind f op t s p.gs from ⟨_,rfl⟩) fun G hG=>?_
 unfold IterG at hit
 rw [<-hG] at hits hlen hit⊢
 have hcur: ∀j,QOk V (joinAll nilR (G.take j)) t.length (32000):=fun j=>by
  have h1:=join_all_ok (G.take j) nilR 0 (fun x hx=>hits x (List.mem_of_mem_take hx)) (nil_ok19 V t.length)
  refine ⟨h1.wf,h1.ok,?_⟩
  have:=h1.len
  rw [List.length_take] at this
  omega
 refine Or.elim hK (fun hk1=>?_) (fun hk2=>?_)
 ·subst hk1
  refine p_ tt_ok Tryz.func87 146 fun w0 h0 F hgs=>?_
  (repeat refine A.s rfl ?_)
  refine A.b rfl fun b3=>?_
  refine A.b rfl fun b4=>?_
  refine A.b rfl fun b6=>?_
  (repeat refine A.s rfl ?_)
  refine A.r rfl rfl ?_
  refine e_ 17 rfl (x':=AU8 12) (by rw [hk]) ?_
  refine n_ hgp ?_
  refine A.boxAs (b:=b6) (x':=rnB (.slice none 0 0) 0 nilR) (.refl _) rn_nil ?_
  refine A.nilRow 2 ?_
  refine l_ (Λ':=[.row 2 (.slice none 0 0) [], .box b6 (rnB (.slice none 0 0) 0 nilR)]) ?_
  refine A.perm (Λ':=rnL b6 (.slice none 0 0) 0 nilR) (perm_pick [1,0] rfl rfl rfl rfl) ?_
  refine y_ ?_
  refine A.keep [6,131] rfl ?_
  refine A.rangeIterN (xss:=G.map gvA) rfl .refl hit rfl rfl (fun xs hxs=>?_) (fun j Λ=> ∃(z:Value) (m:Nat),Λ=rnL b6 z m (joinAll nilR (G.take j))) (fun st pd Λ=>False) ⟨.slice none 0 0,0,rfl⟩ (fun h1 lp LR hl1 j xs Λi h2 hg2 F2 hxs hinv hl2=>?_) (fun h1 hg1 r Λ' hl1 hinv=>?_) (fun h1 hg1 r st pd Λ' hl1 hst hs=>hs.elim)
  ·rw [List.mem_map] at hxs
   obtain ⟨cp,_,rfl⟩:=hxs
   rfl
  ·obtain ⟨z,m,rfl⟩:=hinv
   obtain ⟨x,hx,rfl⟩: ∃x,G[j]? =some x/\gvA x=xs:=by
    rw [List.getElem?_map] at hxs
    cases hq:G[j]? with
    |none=>rw [hq] at hxs;cases hxs
    |some cp=>rw [hq] at hxs;injection hxs with hxs;exact ⟨cp,rfl,hxs⟩
   have hxo:=hits x (List.mem_of_getElem? hx)
   have hc:=hcur j
   have h3:=hc.len
   have h4:=hxo.ok.len
   have h5:=hc.wf.len
   have h6:=hxo.ok.wf.len
   have h7:=hxo.n
   have hj:=join19_p b6 m z (joinAll nilR (G.take j)) x.2 x.1 (hc.rn htl (by omega)) (fun e he=>⟨hxo.ok.ok e he,by have:=hxo.ok.wf.le e he;omega⟩) (by omega) (by omega) (by omega)
   rw [<-join_all_next hx] at hj
   (repeat refine A.s rfl ?_)
   refine A.b rfl fun b15=>?_
   refine y_ ?_
   refine A.begin rfl rfl rfl ?_
   refine y_ ?_
   refine A.less (Λ':= .loop lp LR .busy none::rnL b6 z m (joinAll nilR (G.take j))) (List.Sublist.cons_cons _ (List.Sublist.cons _ (.refl _))) ?_
   refine A.e rfl hj s_ (Λ2:=[.loop lp LR .busy none]) (List.perm_append_singleton _ _).symm fun v _=>?_
   refine A.perm (Λ':= .loop lp LR .busy none::rnL b6 v.1 v.2 (joinAll nilR (G.take (j+1)))) (List.perm_append_singleton _ _) ?_
   refine y_ ?_
   exact A.roundEnd rfl rfl (.inl ⟨rfl,_,rfl,v.1,v.2,rfl⟩)
  ·obtain ⟨z,m,rfl⟩:=hinv
   rw [List.length_map,List.take_length]
   refine A.less (Λ':=[.box b6 (rnB z m (joinAll nilR G)), .row 2 z ((joinAll nilR G).ends.map enA)]) (List.Sublist.cons_cons _ (List.Sublist.cons_cons _ (List.nil_sublist _))) ?_
   refine A.freezeRowV 6 z (x':=rnV _) rfl (rn_fz z m _) ?_
   refine y_ ?_
   refine A.retC (Λ':=[]) rfl rfl rfl rfl rfl (List.nil_sublist _) ⟨?_,rfl⟩
   exact s_
 rcases hk2 with rfl|rfl
 ·refine p_ tt_ok Tryz.func87 146 fun w0 h0 F hgs=>?_
  (repeat refine A.s rfl ?_)
  refine A.b rfl fun b3=>?_
  refine A.b rfl fun b4=>?_
  refine A.b rfl fun b6=>?_
  (repeat refine A.s rfl ?_)
  refine A.r rfl rfl ?_
  refine e_ 17 rfl (x':=AU8 14) (by rw [hk]) ?_
  refine n_ hgp ?_
  refine A.boxAs (b:=b6) (x':=rnB (.slice none 0 0) 0 nilR) (.refl _) rn_nil ?_
  refine A.nilRow 2 ?_
  refine l_ (Λ':=[.row 2 (.slice none 0 0) [], .box b6 (rnB (.slice none 0 0) 0 nilR)]) ?_
  refine A.perm (Λ':=rnL b6 (.slice none 0 0) 0 nilR) (perm_pick [1,0] rfl rfl rfl rfl) ?_
  refine y_ ?_
  refine A.keep [6,131] rfl ?_
  refine A.rangeIterN (xss:=G.map gvA) rfl .refl hit rfl rfl (fun xs hxs=>?_) (fun j Λ=> ∃(z:Value) (m:Nat),Λ=rnL b6 z m (joinAll nilR (G.take j))) (fun st pd Λ=>False) ⟨.slice none 0 0,0,rfl⟩ (fun h1 lp LR hl1 j xs Λi h2 hg2 F2 hxs hinv hl2=>?_) (fun h1 hg1 r Λ' hl1 hinv=>?_) (fun h1 hg1 r st pd Λ' hl1 hst hs=>hs.elim)
  ·rw [List.mem_map] at hxs
   obtain ⟨cp,_,rfl⟩:=hxs
   rfl
  ·obtain ⟨z,m,rfl⟩:=hinv
   obtain ⟨x,hx,rfl⟩: ∃x,G[j]? =some x/\gvA x=xs:=by
    rw [List.getElem?_map] at hxs
    cases hq:G[j]? with
    |none=>rw [hq] at hxs;cases hxs
    |some cp=>rw [hq] at hxs;injection hxs with hxs;exact ⟨cp,rfl,hxs⟩
   have hxo:=hits x (List.mem_of_getElem? hx)
   have hc:=hcur j
   have h3:=hc.len
   have h4:=hxo.ok.len
   have h5:=hc.wf.len
   have h6:=hxo.ok.wf.len
   have h7:=hxo.n
   have hj:=join19_p b6 m z (joinAll nilR (G.take j)) x.2 x.1 (hc.rn htl (by omega)) (fun e he=>⟨hxo.ok.ok e he,by have:=hxo.ok.wf.le e he;omega⟩) (by omega) (by omega) (by omega)
   rw [<-join_all_next hx] at hj
   (repeat refine A.s rfl ?_)
   refine A.b rfl fun b15=>?_
   refine y_ ?_
   refine A.begin rfl rfl rfl ?_
   refine y_ ?_
   refine A.less (Λ':= .loop lp LR .busy none::rnL b6 z m (joinAll nilR (G.take j))) (List.Sublist.cons_cons _ (List.Sublist.cons _ (.refl _))) ?_
   refine A.e rfl hj s_ (Λ2:=[.loop lp LR .busy none]) (List.perm_append_singleton _ _).symm fun v _=>?_
   refine A.perm (Λ':= .loop lp LR .busy none::rnL b6 v.1 v.2 (joinAll nilR (G.take (j+1)))) (List.perm_append_singleton _ _) ?_
   refine y_ ?_
   exact A.roundEnd rfl rfl (.inl ⟨rfl,_,rfl,v.1,v.2,rfl⟩)
  ·obtain ⟨z,m,rfl⟩:=hinv
   rw [List.length_map,List.take_length]
   refine A.less (Λ':=[.box b6 (rnB z m (joinAll nilR G)), .row 2 z ((joinAll nilR G).ends.map enA)]) (List.Sublist.cons_cons _ (List.Sublist.cons_cons _ (List.nil_sublist _))) ?_
   refine A.freezeRowV 6 z (x':=rnV _) rfl (rn_fz z m _) ?_
   refine y_ ?_
   refine A.retC (Λ':=[]) rfl rfl rfl rfl rfl (List.nil_sublist _) ⟨?_,rfl⟩
   exact s_
 ·refine p_ tt_ok Tryz.func87 146 fun w0 h0 F hgs=>?_
  (repeat refine A.s rfl ?_)
  refine A.b rfl fun b3=>?_
  refine A.b rfl fun b4=>?_
  refine A.b rfl fun b6=>?_
  (repeat refine A.s rfl ?_)
  refine A.r rfl rfl ?_
  refine e_ 17 rfl (x':=AU8 15) (by rw [hk]) ?_
  refine n_ hgp ?_
  refine A.boxAs (b:=b6) (x':=rnB (.slice none 0 0) 0 nilR) (.refl _) rn_nil ?_
  refine A.nilRow 2 ?_
  refine l_ (Λ':=[.row 2 (.slice none 0 0) [], .box b6 (rnB (.slice none 0 0) 0 nilR)]) ?_
  refine A.perm (Λ':=rnL b6 (.slice none 0 0) 0 nilR) (perm_pick [1,0] rfl rfl rfl rfl) ?_
  refine y_ ?_
  refine A.keep [6,131] rfl ?_
  refine A.rangeIterN (xss:=G.map gvA) rfl .refl hit rfl rfl (fun xs hxs=>?_) (fun j Λ=> ∃(z:Value) (m:Nat),Λ=rnL b6 z m (joinAll nilR (G.take j))) (fun st pd Λ=>False) ⟨.slice none 0 0,0,rfl⟩ (fun h1 lp LR hl1 j xs Λi h2 hg2 F2 hxs hinv hl2=>?_) (fun h1 hg1 r Λ' hl1 hinv=>?_) (fun h1 hg1 r st pd Λ' hl1 hst hs=>hs.elim)
  ·rw [List.mem_map] at hxs
   obtain ⟨cp,_,rfl⟩:=hxs
   rfl
  ·obtain ⟨z,m,rfl⟩:=hinv
   obtain ⟨x,hx,rfl⟩: ∃x,G[j]? =some x/\gvA x=xs:=by
    rw [List.getElem?_map] at hxs
    cases hq:G[j]? with
    |none=>rw [hq] at hxs;cases hxs
    |some cp=>rw [hq] at hxs;injection hxs with hxs;exact ⟨cp,rfl,hxs⟩
   have hxo:=hits x (List.mem_of_getElem? hx)
   have hc:=hcur j
   have h3:=hc.len
   have h4:=hxo.ok.len
   have h5:=hc.wf.len
   have h6:=hxo.ok.wf.len
   have h7:=hxo.n
   have hj:=join19_p b6 m z (joinAll nilR (G.take j)) x.2 x.1 (hc.rn htl (by omega)) (fun e he=>⟨hxo.ok.ok e he,by have:=hxo.ok.wf.le e he;omega⟩) (by omega) (by omega) (by omega)
   rw [<-join_all_next hx] at hj
   (repeat refine A.s rfl ?_)
   refine A.b rfl fun b15=>?_
   refine y_ ?_
   refine A.begin rfl rfl rfl ?_
   refine y_ ?_
   refine A.less (Λ':= .loop lp LR .busy none::rnL b6 z m (joinAll nilR (G.take j))) (List.Sublist.cons_cons _ (List.Sublist.cons _ (.refl _))) ?_
   refine A.e rfl hj s_ (Λ2:=[.loop lp LR .busy none]) (List.perm_append_singleton _ _).symm fun v _=>?_
   refine A.perm (Λ':= .loop lp LR .busy none::rnL b6 v.1 v.2 (joinAll nilR (G.take (j+1)))) (List.perm_append_singleton _ _) ?_
   refine y_ ?_
   exact A.roundEnd rfl rfl (.inl ⟨rfl,_,rfl,v.1,v.2,rfl⟩)
  ·obtain ⟨z,m,rfl⟩:=hinv
   rw [List.length_map,List.take_length]
   refine A.less (Λ':=[.box b6 (rnB z m (joinAll nilR G)), .row 2 z ((joinAll nilR G).ends.map enA)]) (List.Sublist.cons_cons _ (List.Sublist.cons_cons _ (List.nil_sublist _))) ?_
   refine A.freezeRowV 6 z (x':=rnV _) rfl (rn_fz z m _) ?_
   refine y_ ?_
   refine A.retC (Λ':=[]) rfl rfl rfl rfl rfl (List.nil_sublist _) ⟨?_,rfl⟩
   exact s_
def mrgI(s x:Sto)(v:Nat)(l:List Nat)(o:Sto):Sto:=l.foldl (fun out (i:Nat)=>if atM x v i=atM s v i then out else putM out v i ((atM x v i).getD 0)) o
def lenV(x:Sto)(v:Nat):Nat:=match x[v]? with|some r=>r.length|none=>0
def mrgV(s x:Sto)(l:List Nat)(o:Sto):Sto:=l.foldl (fun out (v:Nat)=>mrgI s x v (List.range (lenV x v)) out) o
theorem mrg_eq(s out x:Sto):mergeM s out x=mrgV s x (List.range x.length) out:=rfl
theorem mrgI_ok{V:List KV}{s x:Sto}(hx:StOk V x){v:Nat}{r:List Int}(hr:x[v]? =some r): ∀(l:List Nat),(∀i,i∈l->i<r.length)-> ∀o,StOk V o->StOk V (mrgI s x v l o):=by
 obtain ⟨_,hxl,hxr,hxg⟩:=may_parts hx.may
 intro l
 induction l with
 |nil=>intro _ o ho;exact ho
 |cons i l ih=>
  intro hl o ho
  unfold mrgI
  rw [List.foldl_cons]
  refine ih (fun j hj=>hl j (.tail _ hj)) _ ?_
  split
  ·exact ho
  ·have hi:=hl i (.head _)
   have hat:=at_get hr (List.getElem?_eq_getElem hi)
   rw [hat]
   refine ho.put (hx.ws r (List.mem_of_getElem? hr) _ (List.getElem_mem hi)) fun y hy=>?_
   rw [Int.toNat_natCast] at hy
   exact hxg v y r hy hr _ (List.getElem_mem hi)
theorem mrgV_ok{V:List KV}{s x:Sto}(hx:StOk V x): ∀(l:List Nat),(∀v,v∈l->v<x.length)-> ∀o,StOk V o->StOk V (mrgV s x l o):=by
 intro l
 induction l with
 |nil=>intro _ o ho;exact ho
 |cons v l ih=>
  intro hl o ho
  unfold mrgV
  rw [List.foldl_cons]
  refine ih (fun j hj=>hl j (.tail _ hj)) _ ?_
  have hv:=hl v (.head _)
  unfold lenV
  rw [List.getElem?_eq_getElem hv]
  exact mrgI_ok hx (List.getElem?_eq_getElem hv) _ (fun i hi=>List.mem_range.1 hi) o ho
theorem mrgI_next{s x:Sto}{v i:Nat}{o:Sto}{xi si:Int}(h1:atM x (v:Nat) (i:Nat)=some xi)(h2:atM s (v:Nat) (i:Nat)=some si):mrgI s x v (List.range (i+1)) o=if xi=si then mrgI s x v (List.range i) o else putM (mrgI s x v (List.range i) o) v i xi:=by
 unfold mrgI
 rw [List.range_succ,List.foldl_append,List.foldl_cons,List.foldl_nil,h1,h2]
 by_cases h:xi=si
 ·rw [if_pos h,if_pos (by rw [h])]
 ·rw [if_neg h,if_neg (by intro e;injection e with e;exact h e)];rfl
theorem mrgV_next{s x:Sto}{v:Nat}{o:Sto}{r:List Int}(hr:x[v]? =some r):mrgV s x (List.range (v+1)) o=mrgI s x v (List.range r.length) (mrgV s x (List.range v) o):=by
 unfold mrgV
 rw [List.range_succ,List.foldl_append,List.foldl_cons,List.foldl_nil]
 unfold lenV
 rw [hr]
theorem same_rows{V:List KV}{a b:Sto}(ha:StOk V a)(hb:StOk V b):a.length=b.length/\ ∀(v:Nat) r,a[v]? =some r-> ∃r',b[v]? =some r'/\r'.length=r.length:=by
 obtain ⟨h1,h2⟩:=mayB_rows ha.may
 obtain ⟨h3,h4⟩:=mayB_rows hb.may
 refine ⟨by omega,fun v r hr=>?_⟩
 have hv:v<a.length:=(List.getElem?_eq_some_iff.1 hr).1
 have hvb:v<b.length:=by omega
 have hvV:v<V.length:=by omega
 refine ⟨b[v],List.getElem?_eq_getElem hvb,?_⟩
 have e1:=h2 v V[v] r (List.getElem?_eq_getElem hvV) hr
 have e2:=h4 v V[v] b[v] (List.getElem?_eq_getElem hvV) (List.getElem?_eq_getElem hvb)
 omega
theorem merge_p{V:List KV}(s out x:Sto)(hs:StOk V s)(ho:StOk V out)(hx:StOk V x):Pure Tryz.prog gs0 288 [rowsA s,rowsA out,rowsA x] (rowsA (mergeM s out x)):=by
 have nx:((x.map rowA).length:Int)=x.length:=by rw [List.length_map]
 have hxs:=(shp_short hx).1
 obtain ⟨hsl,hsr⟩:=same_rows hx hs
 rw [mrg_eq]
 refine p_ tt_ok Tryz.func288 51 fun w0 h0 F hgs=>?_
 refine y_ ?_
 refine A.valE 10 rfl (x':=AI (x.length:Nat)) (ai_eq nx) ?_
 refine A.keep [0,1,2,9,10,11] rfl ?_
 refine A.loopP (ι:=Nat) (fun v=>(⟨[(0,rowsA s),(1,rowsA (mrgV s x (List.range v) out)),(2,rowsA x),(9,rowsA x),(10,AI (x.length:Nat)),(11,AI (v:Nat))],[]⟩,[])) (fun v=>v<=x.length) (fun v=>x.length-v) 0 (Nat.zero_le _) rfl fun v hv ih=>?_
 have hov:=mrgV_ok (s:=s) hx (List.range v) (fun i hi=>by have:=List.mem_range.1 hi;omega) out ho
 refine y_ ?_
 by_cases hcv:v<x.length
 ·refine Exists.elim (at_exN (l:=x) (i:=v) hcv) fun r hr=>?_
  refine Exists.elim (hsr v r hr) fun r0 h0=>?_
  obtain ⟨h0,h0l⟩:=h0
  have hnext:=mrgV_next (s:=s) (o:=out) hr
  have nr:((r.map AI32).length:Int)=r.length:=by rw [List.length_map]
  have hrl:=(shp_short hx).2 r (List.mem_of_getElem? hr)
  refine Exists.elim (show∃o,o=mrgV s x (List.range v) out from ⟨_,rfl⟩) fun o hoe=>?_
  rw [<-hoe] at hnext hov
  refine A.gT rfl (by show decide ((v:Int)<(x.length:Nat))=true;rw [decide_eq_true_eq];omega) ?_
  refine e_ 1 rfl (x':=rowsA o) (by rw [hoe]) ?_
  refine i_ rfl (map_at hr) rfl ?_
  refine A.valE 18 rfl (x':=AI (r.length:Nat)) (ai_eq nr) ?_
  refine A.keep [0,1,2,7,9,10,11,18,19] rfl ?_
  refine A.loopP (ι:=Nat) (fun i=>(⟨[(0,rowsA s),(1,rowsA (mrgI s x v (List.range i) o)),(2,rowsA x),(7,AI (v:Nat)),(9,rowsA x),(10,AI (x.length:Nat)),(11,AI (v:Nat)),(18,AI (r.length:Nat)),(19,AI (i:Nat))],[]⟩,[])) (fun i=>i<=r.length) (fun i=>r.length-i) 0 (Nat.zero_le _) rfl fun i hi jh=>?_
  have hoi:=mrgI_ok (s:=s) hx hr (List.range i) (fun j hj=>by have:=List.mem_range.1 hj;omega) o hov
  refine y_ ?_
  by_cases hci:i<r.length
  ·refine Exists.elim (at_exN (l:=r) (i:=i) hci) fun xi hxi=>?_
   refine Exists.elim (at_exN (l:=r0) (i:=i) (by omega)) fun si hsi=>?_
   have hnx:=mrgI_next (o:=o) (at_get hr hxi) (at_get h0 hsi)
   refine T_ rfl (by show decide ((i:Int)<(r.length:Nat))=true;rw [decide_eq_true_eq];omega) ?_
   refine d_ 15 [0,1,2,3,4,5,6,7,8,9,10,11,12,13,14] [] ?_
   refine iw_ rfl (map_at hr) rfl ?_
   refine iw_ rfl (map_at hxi) rfl ?_
   refine iw_ rfl (map_at h0) rfl ?_
   refine iw_ rfl (map_at hsi) rfl ?_
   refine WA.nil (l:=[]) rfl ?_
   by_cases hxs':xi=si
   ·rw [if_pos hxs'] at hnx
    refine e_ 36 rfl (x':=AB false) (ab_eq (by show (xi !=si)=false;rw [hxs'];simp)) ?_
    refine A.valE 19 rfl (x':=AI ((i+1:Nat):Int)) (inc_eq i (by omega)) ?_
    refine A.valE 1 rfl (x':=rowsA (mrgI s x v (List.range (i+1)) o)) (by rw [hnx]) ?_
    refine u_ (jh (i+1) (by show i+1<=_;omega) (by show _-(i+1)<_-i;omega))
   ·rw [if_neg hxs'] at hnx
    have hput:=hoi.small.put_p (v:Nat) (i:Nat) xi
    rw [<-hnx] at hput
    refine e_ 36 rfl (x':=AB true) (ab_eq (by show (xi !=si)=true;exact bne_iff_ne.2 hxs')) ?_
    refine i_ rfl (map_at hr) rfl ?_
    refine i_ rfl (map_at hxi) rfl ?_
    refine c_ hput ?_
    refine A.valE 19 rfl (x':=AI ((i+1:Nat):Int)) (inc_eq i (by omega)) ?_
    refine u_ (jh (i+1) (by show i+1<=_;omega) (by show _-(i+1)<_-i;omega))
  ·refine A.gF rfl (by show decide ((i:Int)<(r.length:Nat))=false;rw [decide_eq_false_iff_not];omega) ?_
   have hir:i=r.length:=by omega
   refine e_ 1 rfl (x':=rowsA (mrgV s x (List.range (v+1)) out)) (by rw [hnext,hir]) ?_
   refine A.valE 11 rfl (x':=AI ((v+1:Nat):Int)) (inc_eq v (by omega)) ?_
   refine u_ (ih (v+1) (by show v+1<=_;omega) (by show _-(v+1)<_-v;omega))
 ·refine A.gF rfl (by show decide ((v:Int)<(x.length:Nat))=false;rw [decide_eq_false_iff_not];omega) ?_
  have hvl:v=x.length:=by have:v<=x.length:=hv;omega
  refine y_ ?_
  refine R_ ?_
  rw [hvl]
  exact .refl
structure BR where
 ch:List Int
 m:Nat
 zs:List Value
 r:RN
abbrev brE(b:BR)(n:Nat):AV:= .ag [intsA b.ch, .v (.map (some b.m)),AI (b.r.reach:Nat),AI (n:Nat)]
abbrev rowB(bs:List BR)(cn:List Nat):List AV:=bs.zipWith brE cn
theorem rowB_at{bs:List BR}{cn:List Nat}{i:Nat}{b:BR}{n:Nat}(h1:bs[i]? =some b)(h2:cn[i]? =some n):(rowB bs cn)[i]? =some (brE b n):=by
 rw [List.getElem?_zipWith,h1,h2]
theorem rowB_len{bs:List BR}{cn:List Nat}(h:cn.length=bs.length):(rowB bs cn).length=bs.length:=by rw [List.length_zipWith];omega
theorem rowB_set{bs:List BR}{cn:List Nat}{i:Nat}{b:BR}(m:Nat)(h1:bs[i]? =some b):(rowB bs cn).set i (brE b m)=rowB bs (cn.set i m):=by
 apply List.ext_getElem?
 intro j
 rw [List.getElem?_set,List.getElem?_zipWith,List.getElem?_zipWith,List.getElem?_set,List.length_zipWith]
 have hi:=(List.getElem?_eq_some_iff.1 h1).1
 by_cases hij:i=j
 ·subst hij
  rw [if_pos rfl,if_pos rfl,h1]
  by_cases hc:i<cn.length
  ·rw [if_pos (by omega),if_pos hc]
  ·rw [if_neg (by omega),if_neg hc]
 ·rw [if_neg hij,if_neg hij]
def cnI(c' cn:List Nat)(i:Nat):List Nat:=c'.take i++cn.drop i
theorem cnI_len{c' cn:List Nat}(h:c'.length=cn.length)(i:Nat):(cnI c' cn i).length=cn.length:=by
 unfold cnI;rw [List.length_append,List.length_take,List.length_drop];omega
theorem cnI_at{c' cn:List Nat}(h:c'.length=cn.length){i:Nat}(hi:i<cn.length):(cnI c' cn i)[i]? =cn[i]? :=by
 unfold cnI
 rw [List.getElem?_append_right (by rw [List.length_take];omega),List.length_take,Nat.min_eq_left (by omega),Nat.sub_self,List.getElem?_drop,Nat.add_zero]
theorem cnI_set{c' cn:List Nat}(h:c'.length=cn.length){i n:Nat}(hn:c'[i]? =some n):(cnI c' cn i).set i n=cnI c' cn (i+1):=by
 have hi:i<c'.length:=(List.getElem?_eq_some_iff.1 hn).1
 unfold cnI
 rw [List.set_append_right _ _ (by rw [List.length_take];omega),List.length_take,Nat.min_eq_left (by omega),Nat.sub_self,List.take_add_one,hn,List.append_assoc]
 congr 1
 rw [List.drop_eq_getElem_cons (by omega:i<cn.length)]
 rfl
theorem cnI_keep{c' cn:List Nat}(h:c'.length=cn.length){i n:Nat}(h1:c'[i]? =some n)(h2:cn[i]? =some n):cnI c' cn (i+1)=cnI c' cn i:=by
 rw [<-cnI_set h h1]
 have hi:i<cn.length:=(List.getElem?_eq_some_iff.1 h2).1
 apply List.ext_getElem?
 intro j
 rw [List.getElem?_set]
 by_cases hij:i=j
 ·subst hij;rw [if_pos rfl,if_pos (by rw [cnI_len h];exact hi),cnI_at h hi,h2]
 ·rw [if_neg hij]
abbrev Below(bs:List BR)(cn:List Nat):Prop:= ∀(i:Nat) b n,bs[i]? =some b->cn[i]? =some n->n<=b.r.reach
abbrev chB(bs:List BR):List (List Int):=bs.map (·.ch)
abbrev rsB(bs:List BR):List RN:=bs.map (·.r)
theorem cntB_at{bs:List BR}{cn:List Nat}{c:Int}{i:Nat}{b:BR}{n:Nat}(h1:bs[i]? =some b)(h2:cn[i]? =some n):(cntM (chB bs) cn c)[i]? =some (if b.ch.contains c then n+1 else n):=
 cnt_at (by rw [List.getElem?_map,h1];rfl) h2
theorem step_no{bs:List BR}{cn:List Nat}{c:Int}{i:Nat}{b:BR}{n:Nat}(h1:bs[i]? =some b)(h2:(cntM (chB bs) cn c)[i]? =some n)(h:b.r.reach<n):canStep (chB bs) (rsB bs) cn c=false:=by
 unfold canStep
 rw [Bool.and_eq_false_iff]
 right
 rw [List.all_eq_false]
 have hz:((cntM (chB bs) cn c).zip (rsB bs))[i]? =some (n,b.r):=by
  rw [List.getElem?_zip_eq_some]
  exact ⟨h2,by rw [List.getElem?_map,h1];rfl⟩
 exact ⟨_,List.mem_of_getElem? hz,by simpa using h⟩
theorem step_end{bs:List BR}{cn:List Nat}{c:Int}(h:Below bs (cntM (chB bs) cn c)):canStep (chB bs) (rsB bs) cn c=bs.any fun b=>b.ch.contains c:=by
 unfold canStep
 rw [List.any_map]
 have:((cntM (chB bs) cn c).zip (rsB bs)).all (fun x=>decide (x.1<=x.2.reach))=true:=by
  rw [List.all_eq_true]
  intro x hx
  obtain ⟨i,hi,rfl⟩:=List.getElem_of_mem hx
  have hz:=List.getElem?_eq_getElem hi
  rw [List.getElem?_zip_eq_some] at hz
  obtain ⟨z1,z2⟩:=hz
  rw [List.getElem?_map] at z2
  cases hb:bs[i]? with
  |none=>rw [hb] at z2;cases z2
  |some b=>
   rw [hb] at z2
   injection z2 with z2
   rw [<-z2]
   simpa using h i b _ hb z1
 rw [this,Bool.and_true]
 rfl
theorem any_take{bs:List BR}{p:BR->Bool}{i:Nat}{b:BR}(h:bs[i]? =some b):(bs.take (i+1)).any p=((bs.take i).any p||p b):=by
 rw [take19 h,List.any_append,List.any_cons,List.any_nil,Bool.or_false]
theorem below_next{bs:List BR}{c':List Nat}{i:Nat}{b:BR}{n:Nat}(h:Below (bs.take i) (c'.take i))(h1:bs[i]? =some b)(h2:c'[i]? =some n)(hn:n<=b.r.reach):Below (bs.take (i+1)) (c'.take (i+1)):=by
 intro j b' n' hb' hn'
 rw [List.getElem?_take] at hb' hn'
 by_cases hj:j<i+1
 ·rw [if_pos hj] at hb' hn'
  by_cases hji:j<i
  ·exact h j b' n' (by rw [List.getElem?_take,if_pos hji];exact hb') (by rw [List.getElem?_take,if_pos hji];exact hn')
  ·have:j=i:=by omega
   subst this
   rw [h1] at hb';rw [h2] at hn'
   injection hb' with hb';injection hn' with hn'
   rw [<-hb',<-hn'];exact hn
 ·rw [if_neg hj] at hb';cases hb'
theorem step_p(z:Value)(bs:List BR)(cn:List Nat)(c:Int)(hc:cn.length=bs.length)(hb:bs.length<=4096)(hB:Below bs cn)(hr: ∀b,b∈bs->b.r.reach<=1048576/\b.ch.length<=1048576):
 FunE Tryz.prog gs0 221 [.ms z 4 bs.length,AI c] [.row 4 z (rowB bs cn)] (fun u:Bool×List Nat=>AB u.1) (fun u=>[.row 4 z (rowB bs u.2)]) (fun u=>u.1=canStep (chB bs) (rsB bs) cn c/\u.2.length=bs.length/\(u.1=true->u.2=cntM (chB bs) cn c)):=by
 have hcl:(cntM (chB bs) cn c).length=cn.length:=by rw [cnt_len (by rw [hc,List.length_map]),List.length_map,hc]
 unfold FunE
 refine Fun.of (S:=tt) (fn:=Tryz.f221) (n:=40) tt_ok Tryz.func221 rfl rfl rfl rfl fun w0 h0 F hgs=>?_
 refine y_ ?_
 refine A.rowRaw (List.mem_cons_self ..) fun a cp hz hcp=>?_
 rw [rowB_len hc] at hz hcp
 subst hz
 refine A.keep [0,1,4,5,8,9] rfl ?_
 refine A.loopP (ι:=Nat) (fun i=>(⟨[(0, .ms (.slice a bs.length cp) 4 bs.length),(1,AI c),(4,AB false),(5,AB ((bs.take i).any fun b=>b.ch.contains c)),(8,AI (bs.length:Nat)),(9,AI (i:Nat))],[]⟩,[.row 4 (.slice a bs.length cp) (rowB bs (cnI (cntM (chB bs) cn c) cn i))])) (fun i=>i<=bs.length/\Below (bs.take i) ((cntM (chB bs) cn c).take i)) (fun i=>bs.length-i) 0 ⟨Nat.zero_le _,fun j b n hj _=>by rw [List.take_zero] at hj;simp at hj⟩ rfl fun i hi ih=>?_
 obtain ⟨hi1,hi2⟩:=hi
 refine y_ ?_
 by_cases hci:i<bs.length
 ·refine Exists.elim (at_exN (l:=bs) (i:=i) hci) fun b hbi=>?_
  refine Exists.elim (at_exN (l:=cn) (i:=i) (by omega)) fun n hn=>?_
  obtain ⟨hrr,hrc⟩:=hr b (List.mem_of_getElem? hbi)
  have hnr:=hB i b n hbi hn
  have hni:(cnI (cntM (chB bs) cn c) cn i)[i]? =some n:=by rw [cnI_at hcl (by omega),hn]
  have hai:=rowB_at hbi hni
  have hlen:(rowB bs (cnI (cntM (chB bs) cn c) cn i)).length=bs.length:=rowB_len (by rw [cnI_len hcl,hc])
  have hat:=any_take (p:=fun b=>b.ch.contains c) hbi
  have hcn:=cntB_at (c:=c) hbi hn
  have hhas:=has19_p b.ch c (by omega)
  refine T_ rfl (by show decide ((i:Int)<(bs.length:Nat))=true;rw [decide_eq_true_eq];omega) ?_
  have hne:rowB bs (cnI (cntM (chB bs) cn c) cn i)≠[]:=fun h=>by rw [h] at hlen;simp at hlen;omega
  refine A.rowSome (a:=a) (n:=bs.length) (c:=cp) (sz:=4) (l:=rowB bs (cnI (cntM (chB bs) cn c) cn i)) hne fun bb o ha=>?_
  subst ha
  refine A.indexRow rfl rfl rfl rfl rfl rfl rfl rfl (by show (0:Int)<=(i:Nat);omega) (by show ((i:Nat):Int)<_;rw [hlen];omega) rfl ?_
  refine A.epV 14 rfl ?_
  refine y_ ?_
  refine A.loadPart i 0 rfl rfl rfl rfl bs.length cp o (by rw [Int.toNat_natCast]) hai (y:=intsA b.ch) rfl rfl ?_
  refine y_ ?_
  refine c_ hhas ?_
  by_cases hbc:b.ch.contains c=true
  ·rw [if_pos hbc] at hcn
   have hset:=cnI_set hcl hcn
   have hai2:=rowB_at hbi (show (cnI (cntM (chB bs) cn c) cn (i+1))[i]? =some (n+1) by rw [<-hset,List.getElem?_set_self (by rw [cnI_len hcl];omega)])
   have hlen2:(rowB bs (cnI (cntM (chB bs) cn c) cn (i+1))).length=bs.length:=rowB_len (by rw [cnI_len hcl,hc])
   refine T_ rfl hbc ?_
   refine A.indexRow rfl rfl rfl rfl rfl rfl rfl rfl (by show (0:Int)<=(i:Nat);omega) (by show ((i:Nat):Int)<_;rw [hlen];omega) rfl ?_
   refine A.epV 21 rfl ?_
   refine y_ ?_
   refine A.loadPart i 3 rfl rfl rfl rfl bs.length cp o (by rw [Int.toNat_natCast]) hai (y:=AI (n:Nat)) rfl rfl ?_
   refine y_ ?_
   refine A.indexRow rfl rfl rfl rfl rfl rfl rfl rfl (by show (0:Int)<=(i:Nat);omega) (by show ((i:Nat):Int)<_;rw [hlen];omega) rfl ?_
   refine A.epV 25 rfl ?_
   refine y_ ?_
   refine A.valE 24 rfl (x':=AI ((n+1:Nat):Int)) (inc_eq n (by omega)) ?_
   refine A.storeRowF i 3 ty302 rfl rfl rfl rfl rfl bs.length cp o (by rw [Int.toNat_natCast]) hai (x':=brE b (n+1)) rfl rfl rfl rfl (show _=rowB bs (cnI (cntM (chB bs) cn c) cn (i+1)) by rw [rowB_set _ hbi,hset]) ?_
   refine y_ ?_
   refine d_ 11 [0,1,2,3,4,5,6,7,8,9,10] [] ?_
   refine WA.indexRow rfl rfl rfl rfl rfl rfl rfl rfl rfl (by show (0:Int)<=(i:Nat);omega) (by show ((i:Nat):Int)<_;rw [hlen2];omega) rfl ?_
   refine WA.epV 29 rfl ?_
   refine w_ ?_
   refine WA.loadPart i 3 rfl rfl rfl rfl rfl bs.length cp o (by rw [Int.toNat_natCast]) hai2 (y:=AI ((n+1:Nat):Int)) rfl rfl ?_
   refine w_ ?_
   refine WA.indexRow rfl rfl rfl rfl rfl rfl rfl rfl rfl (by show (0:Int)<=(i:Nat);omega) (by show ((i:Nat):Int)<_;rw [hlen2];omega) rfl ?_
   refine WA.epV 34 rfl ?_
   refine w_ ?_
   refine WA.loadPart i 2 rfl rfl rfl rfl rfl bs.length cp o (by rw [Int.toNat_natCast]) hai2 (y:=AI (b.r.reach:Nat)) rfl rfl ?_
   refine w_ ?_
   refine WA.nil (l:=[]) rfl ?_
   by_cases hgt:b.r.reach<n+1
   ·refine e_ 37 rfl (x':=AB true) (ab_eq (by show decide (((b.r.reach:Nat):Int)<((n+1:Nat):Int))=true;rw [decide_eq_true_eq];omega)) ?_
    exact A.ret1 (Λ':=[_]) rfl rfl rfl (.refl _) ⟨(false,cnI (cntM (chB bs) cn c) cn (i+1)), .refl,rfl,(step_no hbi hcn hgt).symm,by show (cnI _ _ _).length=_;rw [cnI_len hcl,hc],fun h=>by cases h⟩
   ·refine e_ 37 rfl (x':=AB false) (ab_eq (by show decide (((b.r.reach:Nat):Int)<((n+1:Nat):Int))=false;rw [decide_eq_false_iff_not];omega)) ?_
    refine A.valE 9 rfl (x':=AI ((i+1:Nat):Int)) (inc_eq i (by omega)) ?_
    refine A.valE 5 rfl (x':=AB ((bs.take (i+1)).any fun b=>b.ch.contains c)) (by rw [hat,hbc,Bool.or_true]) ?_
    refine u_ (ih (i+1) ⟨by omega,below_next hi2 hbi hcn (by omega)⟩ (by omega))
  ·have hbc0:b.ch.contains c=false:=by simpa using hbc
   rw [if_neg hbc] at hcn
   have hkeep:=cnI_keep hcl hcn hn
   refine F_ rfl hbc0 ?_
   refine A.valE 9 rfl (x':=AI ((i+1:Nat):Int)) (inc_eq i (by omega)) ?_
   refine A.valE 5 rfl (x':=AB ((bs.take (i+1)).any fun b=>b.ch.contains c)) (by rw [hat,hbc0,Bool.or_false]) ?_
   refine A.entsEq (Λ':=[.row 4 (.slice (some ⟨bb,o,none⟩) bs.length cp) (rowB bs (cnI (cntM (chB bs) cn c) cn (i+1)))]) (by rw [hkeep]) ?_
   refine u_ (ih (i+1) ⟨by omega,below_next hi2 hbi hcn (by omega)⟩ (by omega))
 ·refine A.gF rfl (by show decide ((i:Int)<(bs.length:Nat))=false;rw [decide_eq_false_iff_not];omega) ?_
  have hil:i=bs.length:=by omega
  rw [hil,List.take_length,List.take_of_length_le (by omega)] at hi2
  refine y_ ?_
  have hce:cnI (cntM (chB bs) cn c) cn i=cntM (chB bs) cn c:=by
   unfold cnI;rw [List.take_of_length_le (by omega),List.drop_eq_nil_of_le (by omega),List.append_nil]
  refine A.ret1 (Λ':=[_]) rfl rfl rfl (.refl _) ⟨((bs.take i).any fun b=>b.ch.contains c,cnI (cntM (chB bs) cn c) cn i), .refl,rfl,?_,by show (cnI _ _ _).length=_;rw [cnI_len hcl,hc],fun _=>hce⟩
  show _=canStep _ _ _ _
  rw [step_end hi2,hil,List.take_length]
end Go.Proofs.YtkbolbpojpmicaaGreat
