/-
  Texts T18k Q17n T18l T18m T18n T18p T18q. Conditions: as each theorem says.
-/
import Derived.Test.YthdgpbgjmbkleaaGreatU3
import Derived.Test.YthdgpbgjmbkleaaGreatU7
import Derived.Test.YthdgpbgjmbkleaaGreatU6
import Derived.Test.YthdgpbgjmbkleaaGreatU5
set_option linter.unusedVariables false
set_option linter.unusedSimpArgs false
set_option maxRecDepth 100000
set_option maxHeartbeats 4000000
namespace Go.Proofs.YthdgpbgjmbkleaaGreat
open Go Go.Tp
structure WOk(V:List KV)(w:WD):Prop where
 ws:wfS w.store
 sm:Small w.store
 len:w.store.length=V.length
 inn: ∀x,x∈w.inn→i32 x
 innl:w.inn.length≤1000
 out:w.out.length≤w.steps
 steps:w.steps≤151
structure RunOk(V:List KV)(n:Nat)(p:PR):Prop where
 pl:PlO V n p
 wf:wfR p
 sm:smR p
section
variable{V:List KV}{n:Nat}{p:PR}
theorem RunOk.l(h:RunOk V n p): ∀x,x∈p.l→RunOk V n x:=fun x hx=>⟨h.pl.l x hx,(wfR_all h.wf).l x hx,(smR_all h.sm).l x hx⟩
theorem RunOk.g(h:RunOk V n p): ∀g,g∈p.gs→ ∀x,x∈g.body→RunOk V n x:=fun g hg x hx=>⟨h.pl.g g hg x hx,(wfG_all ((wfR_all h.wf).g g hg)).body x hx,(smG_all ((smR_all h.sm).g g hg)).body x hx⟩
theorem len1{α:Type}{l:List α}(h:inB l.length 1 1=true): ∃x,l=[x]:=by
 simp only [inB,Bool.and_eq_true,decide_eq_true_eq] at h
 match l,h with
 | [x],_=>exact ⟨x,rfl⟩
 | [],h=>simp at h
 |_::_::_,h=>simp at h;omega
theorem RunOk.body13(h:RunOk V n p)(hk:p.kind=13): ∃b,p.l=[b]:=by
 have h1:=h.pl.kind
 unfold kindB at h1
 rw [if_neg (by omega),if_neg (by omega),if_neg (by omega),if_neg (by omega),if_neg (by omega),if_neg (by omega),if_neg (by omega),if_neg (by omega),if_neg (by omega),if_neg (by omega),if_neg (by omega),if_pos hk] at h1
 simp only [shapeR,Bool.and_eq_true] at h1
 exact len1 h1.1.2
theorem put_len18(st:List (List Int))(v i x:Int):(putM st v i x).length=st.length:=by
 unfold putM
 split
 ·split
  ·rw [List.length_set]
  ·rfl
 ·rfl
theorem putM_ws{st:List (List Int)}(h:wfS st){v i x:Int}(hx:i32 x):wfS (putM st v i x):=by
 unfold putM
 split
 ·split
  ·rename_i r hr
   intro q hq y hy
   rcases List.mem_or_eq_of_mem_set hq with h1|h1
   ·exact h q h1 y hy
   ·subst h1
    rcases List.mem_or_eq_of_mem_set hy with h2|h2
    ·exact h r (List.mem_of_getElem? hr) y h2
    ·rw [h2];exact hx
  ·exact h
 ·exact h
end
section
variable{V:List KV}{w:WD}
theorem WOk.put(h:WOk V w){v i x:Int}(hx:i32 x){inn:List Int}(hi: ∀y,y∈inn→i32 y)(hil:inn.length≤1000):WOk V ⟨putM w.store v i x,inn,w.out,w.steps⟩:=
 ⟨putM_ws h.ws hx,h.sm.put _ _ _,by show (putM w.store v i x).length=_;rw [put_len18];exact h.len,hi,hil,h.out,h.steps⟩
theorem WOk.tick(h:WOk V w)(hs:w.steps≤150):WOk V (tickW w):=⟨h.ws,h.sm,h.len,h.inn,h.innl,by show w.out.length≤w.steps+1;have:=h.out;omega,by show w.steps+1≤151;omega⟩
theorem clear_ws{st:List (List Int)}(h:wfS st)(v:Int): ∀n,wfS (clearM st v n)
 |0=>h
 |n+1=>by rw [clearM_succ];exact putM_ws (clear_ws h v n) (by unfold i32;omega)
theorem clear_len(st:List (List Int))(v:Int): ∀n,(clearM st v n).length=st.length
 |0=>rfl
 |n+1=>by rw [clearM_succ,put_len18,clear_len st v n]
theorem vals_in{st:List (List Int)}(hs:wfS st): ∀(l:List KE) (xs:List Int),(∀e,e∈l→wfK e)→valsM st l=some xs→(∀x,x∈xs→i32 x)∧xs.length=l.length
 | [],xs,_,h=>by injection h with h;subst h;exact ⟨fun x hx=>(by cases hx),rfl⟩
 |e::r,xs,hw,h=>by
  rw [valsM_cons] at h
  cases hv:valueM st e with
  |none=>rw [hv] at h;cases h
  |some x=>
   rw [hv] at h
   cases hr:valsM st r with
   |none=>rw [hr] at h;cases h
   |some ys=>
    rw [hr] at h
    injection h with h
    obtain ⟨h1,h2⟩:=vals_in hs r ys (fun e he=>hw e (.tail _ he)) hr
    subst h
    refine ⟨fun y hy=>?_,by simp [h2]⟩
    rcases List.mem_cons.1 hy with rfl|hy
    ·exact valueM_in hs (hw e (.head _)) _ hv
    ·exact h1 y hy
theorem puts_keep{V:List KV}{inn out:List Int}{n:Nat}{st0:List (List Int)}: ∀(tos:List PL) (xs:List Int) (st st':List (List Int)),WOk V ⟨st,inn,out,n⟩→(∀x,x∈xs→i32 x)→putsM st0 tos xs st=some st'→WOk V ⟨st',inn,out,n⟩
 | [],xs,st,st',h,_,hp=>by
   injection hp with hp;subst hp;exact h
 |to::r,xs,st,st',h,hx,hp=>by
  unfold putsM at hp
  cases hq:placeM st0 to.v to.ix with
  |none=>rw [hq] at hp;cases hp
  |some vj=>
   rw [hq] at hp
   obtain ⟨v,j⟩:=vj
   cases xs with
   |nil=>cases hp
   |cons x xr=>
    simp only at hp
    exact puts_keep r xr _ st' (h.put (hx x (.head _)) h.inn h.innl) (fun y hy=>hx y (.tail _ hy)) hp
theorem simple_keep(h:WOk V w)(ho:w.out.length+1≤w.steps){n:Nat}{p:PR}(hr:RunOk V n p)(he:(simpleM w p).1=0):WOk V (simpleM w p).2∧w.steps≤(simpleM w p).2.steps:=by
 have hwf:=wfR_all hr.wf
 unfold simpleM at he⊢
 split at he
 ·rename_i h3
  rw [if_pos h3]
  exact ⟨⟨clear_ws h.ws _ _,clear_small h.sm _ _,(clear_len _ _ _).trans h.len,h.inn,h.innl,h.out,h.steps⟩,Nat.le_refl _⟩
 ·rename_i h3
  rw [if_neg h3]
  split at he
  ·rename_i h4
   rw [if_pos h4]
   unfold simpleAssign at he⊢
   cases hv:valsM w.store p.e with
   |none=>rw [hv] at he;cases he
   |some xs=>
    rw [hv] at he
    simp only at he⊢
    cases hp:putsM w.store p.to xs w.store with
    |none=>rw [hp] at he;cases he
    |some st=>exact ⟨puts_keep p.to xs w.store st h (vals_in h.ws p.e xs hwf.e hv).1 hp,Nat.le_refl _⟩
  ·rename_i h4
   rw [if_neg h4]
   split at he
   ·rename_i h7
    rw [if_pos h7]
    unfold simpleTime at he⊢
    cases hp:placeM w.store (headP p.to).v (headP p.to).ix with
    |none=>rw [hp] at he;cases he
    |some vi=>exact ⟨h.put (by unfold i32;omega) h.inn h.innl,Nat.le_refl _⟩
   ·rename_i h7
    rw [if_neg h7]
    split at he
    ·rename_i h5
     rw [if_pos h5]
     unfold simpleIn at he⊢
     split at he
     ·exfalso
      split at he<;>cases he
     ·rename_i hc
      rw [if_neg hc]
      cases hp:placeM w.store (headP p.to).v (headP p.to).ix with
      |none=>rw [hp] at he;cases he
      |some vi=>
       refine ⟨h.put ?_ (fun y hy=>h.inn y (List.mem_of_mem_tail hy)) (by rw [List.length_tail];have:=h.innl;omega),Nat.le_refl _⟩
       cases hi:w.inn with
       |nil=>exact absurd (.inr (by rw [hi];rfl)) hc
       |cons x r=>exact h.inn x (by rw [hi];exact .head _)
    ·rename_i h5
     rw [if_neg h5]
     split at he
     ·rename_i h6
      rw [if_pos h6]
      unfold simpleOut at he⊢
      cases hv:valueM w.store (headE p.e) with
      |none=>rw [hv] at he;cases he
      |some x=>
       rw [hv] at he
       simp only at he⊢
       split at he
       ·cases he
       ·rename_i hc
        rw [if_neg hc]
        exact ⟨⟨h.ws,h.sm,h.len,h.inn,h.innl,by show (w.out++[x]).length≤_;rw [List.length_append];exact ho,h.steps⟩,Nat.le_refl _⟩
     ·rename_i h6
      rw [if_neg h6]
      exact ⟨h,Nat.le_refl _⟩
end
theorem runL_keep{V:List KV}{n:Nat}{f:WD→PR→Int×WD}(ih: ∀p w,RunOk V n p→WOk V w→(f w p).1=0→WOk V (f w p).2∧w.steps≤(f w p).2.steps): ∀(l:List PR) (w:WD),(∀x,x∈l→RunOk V n x)→WOk V w→(runL f w l).1=0→WOk V (runL f w l).2∧w.steps≤(runL f w l).2.steps
 | [],w,_,h,_=>by rw [runL];exact ⟨h,Nat.le_refl _⟩
 |x::r,w,hl,h,he=>by
  rw [runL] at he⊢
  by_cases h0:(f w x).1≠0
  ·rw [if_pos h0] at he;exact absurd he h0
  ·rw [if_neg h0] at he⊢
   have h1:=ih x w (hl x (.head _)) h (by omega)
   have h2:=runL_keep ih r (f w x).2 (fun y hy=>hl y (.tail _ hy)) h1.1 he
   exact ⟨h2.1,Nat.le_trans h1.2 h2.2⟩
theorem runG_keep{V:List KV}{n:Nat}{f:WD→PR→Int×WD}(ih: ∀p w,RunOk V n p→WOk V w→(f w p).1=0→WOk V (f w p).2∧w.steps≤(f w p).2.steps){w:WD}(h:WOk V w): ∀(l:List GD),(∀g,g∈l→ ∃y,g.body=[y]∧RunOk V n y)→(runG f w l).1=0→WOk V (runG f w l).2∧w.steps≤(runG f w l).2.steps
 | [],_,he=>by rw [runG] at he;cases he
 |g::r,hl,he=>by
  rw [runG] at he⊢
  cases hv:valueM w.store g.cond with
  |none=>rw [hv] at he;cases he
  |some x=>
   rw [hv] at he
   simp only at he⊢
   by_cases h1:x=1
   ·rw [if_pos h1] at he⊢
    obtain ⟨y,hy,hp⟩:=hl g (.head _)
    have e:headR g.body=y:=by rw [hy];rfl
    rw [e] at he⊢
    exact ih y w hp h he
   ·rw [if_neg h1] at he⊢
    exact runG_keep ih h r (fun g' hg'=>hl g' (.tail _ hg')) he
theorem run_keep{V:List KV}{n:Nat}: ∀(F:Nat) (p:PR) (w:WD),RunOk V n p→WOk V w→(runM F w p).1=0→WOk V (runM F w p).2∧w.steps≤(runM F w p).2.steps
 |0,p,w,_,_,he=>by rw [runM] at he;cases he
 |F+1,p,w,hp,h,he=>by
  have ih:=run_keep (V:=V) (n:=n) F
  rw [runM] at he⊢
  by_cases hst:150<w.steps
  ·rw [if_pos hst] at he;cases he
  rw [if_neg hst] at he⊢
  have ht:=h.tick (by omega)
  have ho:=h.out
  by_cases k1:p.kind=1
  ·rw [if_pos k1];exact ⟨h,Nat.le_refl _⟩
  rw [if_neg k1] at he⊢
  by_cases k2:p.kind=2
  ·rw [if_pos k2] at he;cases he
  rw [if_neg k2] at he⊢
  by_cases k9:p.kind=9
  ·rw [if_pos k9] at he⊢
   exact runL_keep ih p.l w hp.l h he
  rw [if_neg k9] at he⊢
  have up: ∀{r:Int×WD},(WOk V r.2∧(tickW w).steps≤r.2.steps)→WOk V r.2∧w.steps≤r.2.steps:=fun h=>⟨h.1,by have:=h.2;show w.steps≤_;have e:(tickW w).steps=w.steps+1:=rfl;omega⟩
  by_cases k12:p.kind=12
  ·rw [if_pos k12] at he⊢
   refine up (runG_keep ih ht p.gs (fun g hg=>?_) he)
   obtain ⟨y,hy⟩:=(kind_bodies hp.pl.kind).2.2 g hg
   exact ⟨y,hy,hp.g g hg y (by rw [hy];exact .head _)⟩
  rw [if_neg k12] at he⊢
  by_cases k13:p.kind=13
  ·rw [if_pos k13] at he⊢
   cases hv:valueM w.store (headE p.e) with
   |none=>rw [hv] at he;cases he
   |some x=>
    rw [hv] at he
    simp only at he⊢
    by_cases hx:x=0
    ·rw [if_pos hx];exact ⟨ht,by show w.steps≤w.steps+1;omega⟩
    rw [if_neg hx] at he⊢
    obtain ⟨b,hb⟩:=hp.body13 k13
    have hbr:RunOk V n (headR p.l):=by rw [hb];exact hp.l b (by rw [hb];exact .head _)
    by_cases h0:(runM F (tickW w) (headR p.l)).1≠0
    ·rw [if_pos h0] at he;exact absurd he h0
    rw [if_neg h0] at he⊢
    have h1:=ih _ _ hbr ht (by omega)
    have h2:=ih p _ hp h1.1 he
    have e:(tickW w).steps=w.steps+1:=rfl
    exact ⟨h2.1,by omega⟩
  rw [if_neg k13] at he⊢
  exact up (simple_keep ht (by show w.out.length+1≤w.steps+1;omega) hp he)
theorem len_inc(hs:List (Value×List Int))(p:Value×List Int)(h:hs.length≤1073741824):AV.v (.int .i64 (IntKind.i64.wrap ((hs.length:Nat)+1:Int)))=AI ((hs++[p]).length:Nat):=by
 rw [inc_eq hs.length (by omega)];simp
theorem rows_snoc(hs:List (Value×List Int))(z:Value)(r:List Int):rowsH (hs++[(z,r)])=rowsH hs++[(z,r.map AI32)]:=by simp [rowsH]
theorem msL_snoc(sz:Nat)(hs:List (Value×List AV))(z:Value)(l:List AV):msL sz (hs++[(z,l)])=msL sz hs++[.ms z sz l.length]:=by simp [msL]
theorem rput_p(s:List (List Int))(v i x:Int)(h1:s.length≤1073741823)(h2: ∀r,r∈s→r.length≤35184372088832):
 FunE Tryz.prog gs0 101 [rowsA s,AI v,AI i,AI32 x] [] (fun p:Value×List (Value×List Int)=> .ms p.1 1 s.length) (fun p=>[.rows 1 (rowsH p.2), .row 1 p.1 (msL 1 (rowsH p.2))]) (fun p=>p.2.map Prod.snd=putM s v i x):=by
 unfold FunE
 have hl:((s.map rowA).length:Int)=s.length:=by rw [List.length_map]
 have hat:=rat_p s v i
 refine Fun.of (S:=tt) (fn:=Tryz.f101) (n:=45) tt_ok Tryz.func101 rfl rfl rfl rfl fun w0 h0 F hgs=>?_
 refine y_ ?_
 refine A.emptyRow 9 1 rfl fun z0=>?_
 refine A.rows0 1 ?_
 refine A.keep [0,1,2,3,9,10] rfl ?_
 refine A.loopP (ι:=Value×List (Value×List Int)) (fun p=>(⟨[(0,rowsA s),(1,AI v),(2,AI i),(3,AI32 x),(9, .ms p.1 1 p.2.length),(10,AI (p.2.length:Nat))],[]⟩,[.rows 1 (rowsH p.2), .row 1 p.1 (msL 1 (rowsH p.2))]))
  (fun p=>p.2.map Prod.snd=s.take p.2.length∧p.2.length≤s.length) (fun p=>s.length-p.2.length) (z0,[]) ⟨rfl,Nat.zero_le _⟩ rfl fun p hi ih=>?_
 obtain ⟨z,hs⟩:=p
 simp only at hi
 refine y_ ?_
 refine k_ (fun hc=>?_) fun hc=>?_
 ·simp at hc
  refine Exists.elim (at_exN (l:=s) (i:=hs.length) hc) fun r hr=>?_
  have hrl:=h2 r (List.mem_of_getElem? hr)
  have eNx:=len_inc hs
  refine y_ ?_
  refine i_ rfl (map_at hr) rfl ?_
  refine A.appendNewW rfl rfl rfl rfl rfl rfl rfl rfl rfl rfl rfl rfl rfl (by show (List.map AI32 _).length*1≤_;rw [List.length_map];omega) (by show (List.map AI32 _).length*1*4≤_;rw [List.length_map];omega) (fun x hx=>by cases hx) (row_one _) fun z2=>?_
  refine t_ fun bl=>?_
  have hm:=rowsH_len hs
  refine A.appendRowE rfl rfl rfl rfl rfl rfl rfl rfl rfl rfl rfl rfl rfl rfl (by show ((msL 1 (rowsH hs)).length+1)*1≤_;rw [hm];omega) (by show ((msL 1 (rowsH hs)).length+1)*1*24≤_;rw [hm];omega) fun z3=>?_
  refine A.rowsIn ((List.Perm.swap _ _ _).trans ((List.Perm.swap _ _ _).cons _)) ?_
  refine y_ ?_
  refine A.valE 9 rfl (x':= .ms z3 1 (hs++[(z2,r)]).length) ?_ ?_
  ·simp [msL,rowsH];rfl
  refine A.valE 10 rfl (x':=AI (((hs++[(z2,r)]).length:Nat):Int)) (eNx (z2,r) (by omega)) ?_
  refine A.entsEq (Λ':=[.rows 1 (rowsH (hs++[(z2,r)])), .row 1 z3 (msL 1 (rowsH (hs++[(z2,r)])))]) (by rw [rows_snoc,msL_snoc];rfl) ?_
  refine u_ (ih (z3,hs++[(z2,r)]) ⟨?_,by simp;omega⟩ (by simp;omega))
  simp [hi.1,List.take_add_one,hr]
 ·simp at hc
  have hlen:hs.length=s.length:=by omega
  have hsnd:hs.map Prod.snd=s:=by rw [hi.1,hlen,List.take_length]
  cases hv:atM s v i with
  |none=>
   rw [hv] at hat
   refine y_ ?_;refine c_ (hat) ?_
   refine A.valE 8 rfl (x':= .ms z 1 s.length) (by rw [←hlen]) ?_
   refine A.ret1 (Λ':=[.rows 1 (rowsH hs), .row 1 z (msL 1 (rowsH hs))]) rfl rfl rfl sl_ ⟨(z,hs), .refl,rfl,?_⟩
   show hs.map Prod.snd=_
   rw [hsnd,putM,hv];rfl
  |some y=>
   rw [hv] at hat
   have hneg: ¬(v<0∨i<0):=fun hh=>by rw [atM,if_pos hh] at hv;cases hv
   rw [atM,if_neg hneg] at hv
   refine Exists.elim (Option.bind_eq_some_iff.1 hv) fun r hr=>?_
   have hv2:(hs.map Prod.snd)[v.toNat]? =some r:=by rw [hsnd];exact hr.1
   rw [List.getElem?_map] at hv2
   refine Exists.elim (Option.map_eq_some_iff.1 hv2) fun p hp=>?_
   have hpl:(rowsH hs)[v.toNat]? =some (p.1,r.map AI32):=by rw [rowsH,List.getElem?_map,hp.1,←hp.2];rfl
   have hvl:v.toNat<hs.length:=(List.getElem?_eq_some_iff.1 hp.1).1
   have hrl:i.toNat<r.length:=(List.getElem?_eq_some_iff.1 hr.2).1
   refine y_ ?_;refine c_ (hat) ?_
   refine A.indexRow rfl rfl rfl rfl rfl rfl rfl rfl (by omega) (by rw [rowsH_len];show v<(hs.length:Int);omega) rfl ?_
   refine A.loadRow rfl rfl rfl rfl rfl rfl (y':= .ms p.1 1 (r.map AI32).length) rfl (by rw [msL,List.getElem?_map,hpl];rfl) rfl rfl ?_
   refine A.rowsOut v.toNat hpl (.refl _) ?_
   refine y_ ?_
   refine A.indexRow rfl rfl rfl rfl rfl rfl rfl rfl (by omega) (by rw [List.length_map];omega) rfl ?_
   refine A.storeRow rfl rfl rfl rfl rfl rfl rfl rfl rfl (by rw [List.length_map];omega) (xs':=(r.set i.toNat x).map AI32) List.map_set.symm ?_
   refine A.rowsBack (.refl _) ?_
   have hp2:p.2=r:=hp.2
   refine A.entsEq (Λ':=[.rows 1 (rowsH (hs.set v.toNat (p.1,r.set i.toNat x))), .row 1 z (msL 1 (rowsH (hs.set v.toNat (p.1,r.set i.toNat x))))]) (by rw [set_ms hp.1 _ (by rw [List.length_set,hp2]),set_rows hvl]) ?_
   refine y_ ?_
   refine A.valE 8 rfl (x':= .ms z 1 s.length) (by rw [←hlen]) ?_
   refine A.ret1 (Λ':=[.rows 1 (rowsH (hs.set v.toNat (p.1,r.set i.toNat x))), .row 1 z _]) rfl rfl rfl sl_ ⟨(z,hs.set v.toNat (p.1,r.set i.toNat x)), .refl,rfl,?_⟩
   show (hs.set v.toNat (p.1,r.set i.toNat x)).map Prod.snd=putM s v i x
   rw [List.map_set,hsnd,putM,atM,if_neg hneg,hv,hr.1];rfl
theorem rPut_p(s:List (List Int))(v i x:Int)(h1:s.length≤1073741823)(h2: ∀r,r∈s→r.length≤35184372088832):Pure Tryz.prog gs0 101 [rowsA s,AI v,AI i,AI32 x] (rowsA (putM s v i x)):=
 rows_pure (rput_p s v i x h1 h2)
abbrev encW(w:WD)(z:Value):AV:= .ag [rowsA w.store,rowA w.inn, .sl 1 (w.out.map AI32) (some z),AI (w.steps:Nat)]
def putW(w:WD)(t:PL)(x:Int):WD:=match placeM w.store t.v t.ix with
 |none=>w
 |some (v,i)=>⟨putM w.store v i x,w.inn,w.out,w.steps⟩
theorem Small.rput{st:List (List Int)}(h:Small st)(v i x:Int):Pure Tryz.prog gs0 101 [rowsA st,AI v,AI i,AI32 x] (rowsA (putM st v i x)):=rPut_p st v i x (by have:=h.1;omega) fun r hr=>by have:=h.2 r hr;omega
theorem wput_p{V:List KV}(b:Nat)(w:WD)(z:Value)(h:WOk V w)(t:PL)(x:Int)(hw:wfPl t)(hn:t.ix.length≤281474976710656):
 FunE Tryz.prog gs0 103 [ptrA b,encPl t,AI32 x] [.box b (encW w z)] (fun _:Unit=>AB (placeM w.store t.v t.ix).isSome) (fun _=>[.box b (encW (putW w t x) z)]) (fun _=>True):=by
 have hp:=rPlace_p w.store h.ws t.v t.ix hw hn
 unfold FunE putW
 cases hq:placeM w.store t.v t.ix with
 |none=>
  rw [hq] at hp
  refine Fun.of (S:=tt) (fn:=Tryz.f103) (n:=33) tt_ok Tryz.func103 rfl rfl rfl rfl fun w0 h0 F hgs=>?_
  (refine b_ fun bx=>?_;refine y_ ?_)
  refine d_ 12 [0,1,2,3,4,5,6,7,8,9,10,11] [(5,optP none)] ?_
  refine cw_ hp ?_
  refine z_ ?_
  refine A.ret1 (Λ':=[.box b _]) rfl rfl rfl sl_ ⟨(), .refl,rfl,trivial⟩
 |some vi=>
  obtain ⟨v,i⟩:=vi
  rw [hq] at hp
  have hpp:=h.sm.rput v i x
  refine Fun.of (S:=tt) (fn:=Tryz.f103) (n:=33) tt_ok Tryz.func103 rfl rfl rfl rfl fun w0 h0 F hgs=>?_
  (refine b_ fun bx=>?_;refine y_ ?_)
  refine d_ 12 [0,1,2,3,4,5,6,7,8,9,10,11] [(5,optP (some (v,i)))] ?_
  refine cw_ hp ?_
  refine z_ ?_
  refine c_ hpp ?_
  refine A.ret1 (Λ':=[.box b _]) rfl rfl rfl sl_ ⟨(), .refl,rfl,trivial⟩
abbrev simE(b:Nat)(w:WD)(z:Value)(p:PR)(R:Int×WD):Prop:=
 FunE Tryz.prog gs0 53 [ptrA b,cellsR p] [.box b (encW w z), .tail 1 z] (fun _:Value=>AI R.1) (fun z'=>[.box b (encW R.2 z'), .tail 1 z']) (fun _=>True)
theorem sim_7{V:List KV}(b:Nat)(w:WD)(z:Value)(h:WOk V w)(p:PR)(hk:p.kind=7)(t:PL)(r:List PL)(ht:p.to=t::r)(hw:wfPl t)(hn:t.ix.length≤281474976710656):simE b w z p (simpleTime w t):=by
 have hp:=wput_p b w z h t 0 hw hn
 have hat:(p.to.map encPl)[(0:Int).toNat]? =some (encPl t):=by rw [ht];rfl
 unfold simpleTime
 unfold putW at hp
 unfold FunE at hp
 cases hq:placeM w.store t.v t.ix with
 |none=>
  rw [hq] at hp
  unfold simE FunE
  refine Fun.of (S:=tt) (fn:=Tryz.f53) (n:=144) tt_ok Tryz.func53 rfl rfl rfl rfl fun w0 h0 F hgs=>?_
  refine y_ ?_
  refine A.b rfl fun b3=>?_
  refine A.perm (Λ':=[.box b (encW w z), .tail 1 z, .box b3 (cellsR p)]) (List.perm_append_comm (l₁:=[_]) (l₂:=[_,_])) ?_
  refine y_ ?_
  refine F_ rfl (by rw [hk];rfl) ?_
  refine F_ rfl (by rw [hk];rfl) ?_
  refine T_ rfl (by rw [hk];rfl) ?_
  refine i_ rfl hat rfl ?_
  refine A.e rfl hp .refl (.refl _) fun _ _=>?_
  refine y_ ?_
  refine A.ret1 (Λ':=[.box b _, .tail 1 z]) rfl rfl rfl sl_ ⟨z, .refl,rfl,trivial⟩
 |some vi=>
  rw [hq] at hp
  unfold simE FunE
  refine Fun.of (S:=tt) (fn:=Tryz.f53) (n:=144) tt_ok Tryz.func53 rfl rfl rfl rfl fun w0 h0 F hgs=>?_
  refine y_ ?_
  refine A.b rfl fun b3=>?_
  refine A.perm (Λ':=[.box b (encW w z), .tail 1 z, .box b3 (cellsR p)]) (List.perm_append_comm (l₁:=[_]) (l₂:=[_,_])) ?_
  refine y_ ?_
  refine F_ rfl (by rw [hk];rfl) ?_
  refine F_ rfl (by rw [hk];rfl) ?_
  refine T_ rfl (by rw [hk];rfl) ?_
  refine i_ rfl hat rfl ?_
  refine A.e rfl hp .refl (.refl _) fun _ _=>?_
  refine y_ ?_
  refine A.ret1 (Λ':=[.box b _, .tail 1 z]) rfl rfl rfl sl_ ⟨z, .refl,rfl,trivial⟩
theorem put_row{st:List (List Int)}{v i x:Int}{a:Nat}{r:List Int}(hr:st[a]? =some r): ∃r',(putM st v i x)[a]? =some r'∧r'.length=r.length:=by
 unfold putM
 split
 ·split
  ·rename_i q hq
   rw [List.getElem?_set]
   by_cases h:v.toNat=a
   ·subst h
    rw [hr] at hq;injection hq with hq;subst hq
    rw [if_pos rfl,if_pos (at_lt hr)]
    exact ⟨_,rfl,List.length_set⟩
   ·rw [if_neg h];exact ⟨r,hr,rfl⟩
  ·exact ⟨r,hr,rfl⟩
 ·exact ⟨r,hr,rfl⟩
theorem clear_row{st:List (List Int)}{v:Int}{a:Nat}{r:List Int}(hr:st[a]? =some r): ∀n,∃r',(clearM st v n)[a]? =some r'∧r'.length=r.length
 |0=>⟨r,hr,rfl⟩
 |n+1=>by
  obtain ⟨r1,h1,h2⟩:=clear_row hr n
  rw [clearM_succ]
  obtain ⟨r2,h3,h4⟩:=put_row (v:=v) (i:=(n:Nat)) (x:=0) h1
  exact ⟨r2,h3,by omega⟩
abbrev clrW(w:WD)(v:Int)(n:Nat):WD:=⟨clearM w.store v n,w.inn,w.out,w.steps⟩
theorem sim_3{V:List KV}(b:Nat)(w:WD)(z:Value)(h:WOk V w)(p:PR)(hk:p.kind=3)(r:List Int)(hr:w.store[p.v.toNat]? =some r)(hv0:0≤p.v):simE b w z p (0,clrW w p.v r.length):=by
 have hr64:=h.sm.2 r (List.mem_of_getElem? hr)
 unfold simE FunE
 refine Fun.of (S:=tt) (fn:=Tryz.f53) (n:=144) tt_ok Tryz.func53 rfl rfl rfl rfl fun w0 h0 F hgs=>?_
 refine y_ ?_
 refine A.b rfl fun b3=>?_
 refine A.perm (Λ':=[.box b (encW w z), .tail 1 z, .box b3 (cellsR p)]) (List.perm_append_comm (l₁:=[_]) (l₂:=[_,_])) ?_
 refine y_ ?_
 refine T_ rfl (by rw [hk];rfl) ?_
 refine A.keep [0,3,4,5] rfl ?_
 refine A.loopP (ι:=Nat) (fun i=>(⟨[(0,ptrA b),(3,ptrA b3),(4,AI 0),(5,AI (i:Nat))],[]⟩,[.box b (encW (clrW w p.v i) z), .tail 1 z, .box b3 (cellsR p)])) (fun i=>i≤r.length) (fun i=>r.length-i) 0 (Nat.zero_le _) rfl fun i hi ih=>?_
 refine Exists.elim (clear_row (v:=p.v) hr i) fun r1 hr1=>?_
 have hrl:((r1.map AI32).length:Int)=r.length:=by rw [List.length_map,hr1.2]
 have hr0:=hr1.1
 refine y_ ?_
 refine d_ 10 [0,1,2,3,4,5,6,7,8,9] [] ?_
 refine WA.x rfl hv0 (map_at hr0) rfl rfl ?_
 refine w_ ?_
 refine WA.nil (l:=[]) rfl ?_
 refine A.entsEq (Λ':=[.box b (encW (clrW w p.v i) z), .tail 1 z, .box b3 (cellsR p)]) rfl ?_
 refine y_ ?_
 refine A.valE 25 rfl (x':=AB (decide (i<r.length))) (ab_eq (by rw [hrl,Bool.eq_iff_iff];simp)) ?_
 refine k_ (fun hc=>?_) fun hc=>?_
 ·have hci:i<r.length:=by simpa using hc
  clear hc
  have hpp:=(clear_small h.sm p.v i).rput p.v (i:Nat) 0
  rw [←clearM_succ] at hpp
  refine y_ ?_
  refine d_ 9 [0,1,2,3,4,5,6,7,8] [(8,rowsA (clearM w.store p.v (i+1)))] ?_
  refine WA.c rfl rfl hpp (.sub .refl) ?_
  refine WA.nil (l:=[]) rfl ?_
  refine A.entsEq (Λ':=[.box b (encW (clrW w p.v i) z), .tail 1 z, .box b3 (cellsR p)]) rfl ?_
  refine y_ ?_
  refine A.valE 5 rfl (x':=AI ((i+1:Nat):Int)) (inc_eq i (by omega)) ?_
  refine u_ (ih (i+1) (by omega) (by omega))
 have hci: ¬i<r.length:=by simpa using hc
 clear hc ih
 have hil:i=r.length:=by omega
 refine y_ ?_
 rw [←hil]
 refine A.ret1 (Λ':=[.box b _, .tail 1 z]) rfl rfl rfl sl_ ⟨z, .refl,rfl,trivial⟩
theorem sim_5{V:List KV}(b:Nat)(w:WD)(z:Value)(h:WOk V w)(hs1:1≤w.steps)(p:PR)(hk:p.kind=5)(t:PL)(r:List PL)(ht:p.to=t::r)(hw:wfPl t)(hn:t.ix.length≤281474976710656):simE b w z p (simpleIn w p.c t):=by
 have hp:=wput_p b w z h t (w.inn.headD 0) hw hn
 have hpl:=rPlace_p w.store h.ws t.v t.ix hw hn
 have hat:(p.to.map encPl)[(0:Int).toNat]? =some (encPl t):=by rw [ht];rfl
 have n1:((w.inn.map AI32).length:Int)=w.inn.length:=by rw [List.length_map]
 have hst:=h.steps
 have hil:=h.innl
 unfold simpleIn
 unfold putW at hp
 unfold FunE at hp
 have esub:IntKind.i64.wrap ((w.steps:Int)-1)=((w.steps-1:Nat):Int):=by rw [wr64 _ (by omega)];omega
 by_cases hc:p.c≠0∨w.inn.length=0
 ·rw [if_pos hc]
  cases hq:placeM w.store t.v t.ix with
  |none=>
   rw [hq] at hpl
   unfold simE FunE
   refine Fun.of (S:=tt) (fn:=Tryz.f53) (n:=144) tt_ok Tryz.func53 rfl rfl rfl rfl fun w0 h0 F hgs=>?_
   refine y_ ?_
   refine A.b rfl fun b3=>?_
   refine A.perm (Λ':=[.box b (encW w z), .tail 1 z, .box b3 (cellsR p)]) (List.perm_append_comm (l₁:=[_]) (l₂:=[_,_])) ?_
   refine y_ ?_
   refine F_ rfl (by rw [hk];rfl) ?_
   refine F_ rfl (by rw [hk];rfl) ?_
   refine F_ rfl (by rw [hk];rfl) ?_
   refine T_ rfl (by rw [hk];rfl) ?_
   refine (Decidable.em (p.c=0)).elim (fun hc0=>?c0) (fun hc0=>?c1)
   case' c0=>
    refine F_ rfl (by rw [hc0];rfl) ?_
    refine A.gT rfl (by rw [n1];show (((w.inn.length:Nat):Int)==0)=true;rw [beq_iff_eq];omega) ?_
   case' c1=>refine A.gT rfl (by rw [bne_iff_ne];exact hc0) ?_
   all_goals
    refine y_ ?_
    refine d_ 15 [0,1,2,3,4,5,6,7,8,9,10,11,12,13,14] [(8,optP none)] ?_
    refine iw_ rfl hat rfl ?_
    refine cw_ hpl ?_
    refine WA.nil (l:=[]) rfl ?_
    refine A.entsEq (Λ':=[.box b (encW w z), .tail 1 z, .box b3 (cellsR p)]) rfl ?_
    refine y_ ?_
    refine A.ret1 (Λ':=[.box b _, .tail 1 z]) rfl rfl rfl sl_ ⟨z, .refl,rfl,trivial⟩
  |some vi=>
   rw [hq] at hpl
   unfold simE FunE
   refine Fun.of (S:=tt) (fn:=Tryz.f53) (n:=144) tt_ok Tryz.func53 rfl rfl rfl rfl fun w0 h0 F hgs=>?_
   refine y_ ?_
   refine A.b rfl fun b3=>?_
   refine A.perm (Λ':=[.box b (encW w z), .tail 1 z, .box b3 (cellsR p)]) (List.perm_append_comm (l₁:=[_]) (l₂:=[_,_])) ?_
   refine y_ ?_
   refine F_ rfl (by rw [hk];rfl) ?_
   refine F_ rfl (by rw [hk];rfl) ?_
   refine F_ rfl (by rw [hk];rfl) ?_
   refine T_ rfl (by rw [hk];rfl) ?_
   refine (Decidable.em (p.c=0)).elim (fun hc0=>?d0) (fun hc0=>?d1)
   case' d0=>
    refine F_ rfl (by rw [hc0];rfl) ?_
    refine A.gT rfl (by rw [n1];show (((w.inn.length:Nat):Int)==0)=true;rw [beq_iff_eq];omega) ?_
   case' d1=>refine A.gT rfl (by rw [bne_iff_ne];exact hc0) ?_
   all_goals
    refine y_ ?_
    refine d_ 15 [0,1,2,3,4,5,6,7,8,9,10,11,12,13,14] [(8,optP (some vi))] ?_
    refine iw_ rfl hat rfl ?_
    refine cw_ hpl ?_
    refine WA.nil (l:=[]) rfl ?_
    refine A.entsEq (Λ':=[.box b (encW w z), .tail 1 z, .box b3 (cellsR p)]) rfl ?_
    refine y_ ?_
    refine A.entsEq (Λ':=[.box b (encW ⟨w.store,w.inn,w.out,w.steps-1⟩ z), .tail 1 z, .box b3 (cellsR p)]) (by rw [esub]) ?_
    refine A.ret1 (Λ':=[.box b _, .tail 1 z]) rfl rfl rfl sl_ ⟨z, .refl,rfl,trivial⟩
 ·rw [if_neg hc]
  have hc0:p.c=0:=by omega
  have hin:0<w.inn.length:=by omega
  cases hq:placeM w.store t.v t.ix with
  |none=>
   rw [hq] at hp
   unfold simE FunE
   refine Fun.of (S:=tt) (fn:=Tryz.f53) (n:=144) tt_ok Tryz.func53 rfl rfl rfl rfl fun w0 h0 F hgs=>?_
   refine y_ ?_
   refine A.b rfl fun b3=>?_
   refine A.perm (Λ':=[.box b (encW w z), .tail 1 z, .box b3 (cellsR p)]) (List.perm_append_comm (l₁:=[_]) (l₂:=[_,_])) ?_
   refine y_ ?_
   refine F_ rfl (by rw [hk];rfl) ?_
   refine F_ rfl (by rw [hk];rfl) ?_
   refine F_ rfl (by rw [hk];rfl) ?_
   refine T_ rfl (by rw [hk];rfl) ?_
   refine F_ rfl (by rw [hc0];rfl) ?_
   refine F_ rfl (by rw [n1];show (((w.inn.length:Nat):Int)==0)=false;rw [beq_eq_false_iff_ne];omega) ?_
   refine d_ 11 [0,1,2,3,4,5,6,7,8,9,10] [] ?_
   refine iw_ rfl hat rfl ?_
   refine iw_ rfl (head_at hin) rfl ?_
   refine WA.nil (l:=[]) rfl ?_
   refine A.entsEq (Λ':=[.box b (encW w z), .tail 1 z, .box b3 (cellsR p)]) rfl ?_
   refine A.e rfl hp .refl (.refl _) fun _ _=>?_
   refine y_ ?_
   refine A.ret1 (Λ':=[.box b _, .tail 1 z]) rfl rfl rfl sl_ ⟨z, .refl,rfl,trivial⟩
  |some vi=>
   obtain ⟨v,i⟩:=vi
   rw [hq] at hp
   unfold simE FunE
   refine Fun.of (S:=tt) (fn:=Tryz.f53) (n:=144) tt_ok Tryz.func53 rfl rfl rfl rfl fun w0 h0 F hgs=>?_
   refine y_ ?_
   refine A.b rfl fun b3=>?_
   refine A.perm (Λ':=[.box b (encW w z), .tail 1 z, .box b3 (cellsR p)]) (List.perm_append_comm (l₁:=[_]) (l₂:=[_,_])) ?_
   refine y_ ?_
   refine F_ rfl (by rw [hk];rfl) ?_
   refine F_ rfl (by rw [hk];rfl) ?_
   refine F_ rfl (by rw [hk];rfl) ?_
   refine T_ rfl (by rw [hk];rfl) ?_
   refine F_ rfl (by rw [hc0];rfl) ?_
   refine F_ rfl (by rw [n1];show (((w.inn.length:Nat):Int)==0)=false;rw [beq_eq_false_iff_ne];omega) ?_
   refine d_ 11 [0,1,2,3,4,5,6,7,8,9,10] [] ?_
   refine iw_ rfl hat rfl ?_
   refine iw_ rfl (head_at hin) rfl ?_
   refine WA.nil (l:=[]) rfl ?_
   refine A.entsEq (Λ':=[.box b (encW w z), .tail 1 z, .box b3 (cellsR p)]) rfl ?_
   refine A.e rfl hp .refl (.refl _) fun _ _=>?_
   refine y_ ?_
   refine A.slice (ys:=w.inn.tail.map AI32) rfl rfl rfl rfl rfl rfl rfl rfl rfl (by decide) (by rw [n1];omega) (Int.le_refl _) (tail_at _) rfl ?_
   refine y_ ?_
   refine A.ret1 (Λ':=[.box b _, .tail 1 z]) rfl rfl rfl sl_ ⟨z, .refl,rfl,trivial⟩
theorem sim_6{V:List KV}(b:Nat)(w:WD)(z:Value)(h:WOk V w)(hs1:1≤w.steps)(p:PR)(hk:p.kind=6)(e:KE)(r:List KE)(he:p.e=e::r)(hw:wfK e):simE b w z p (simpleOut w p.c e):=by
 have hv:=rValue_p w.store h.ws e hw
 rw [encK_eq] at hv
 have hat:(encKl p.e)[(0:Int).toNat]? =some (encK e):=by rw [he,encKl];rfl
 have hst:=h.steps
 have hol:=h.out
 have esub:IntKind.i64.wrap ((w.steps:Int)-1)=((w.steps-1:Nat):Int):=by rw [wr64 _ (by omega)];omega
 unfold simpleOut
 cases hx:valueM w.store e with
 |none=>
  rw [hx] at hv
  unfold simE FunE
  refine Fun.of (S:=tt) (fn:=Tryz.f53) (n:=144) tt_ok Tryz.func53 rfl rfl rfl rfl fun w0 h0 F hgs=>?_
  refine y_ ?_
  refine A.b rfl fun b3=>?_
  refine A.perm (Λ':=[.box b (encW w z), .tail 1 z, .box b3 (cellsR p)]) (List.perm_append_comm (l₁:=[_]) (l₂:=[_,_])) ?_
  refine y_ ?_
  refine F_ rfl (by rw [hk];rfl) ?_
  refine F_ rfl (by rw [hk];rfl) ?_
  refine F_ rfl (by rw [hk];rfl) ?_
  refine F_ rfl (by rw [hk];rfl) ?_
  refine T_ rfl (by rw [hk];rfl) ?_
  refine d_ 13 [0,1,2,3,4,5,6,7,8,9,10,11,12] [(8,optA none)] ?_
  refine iw_ rfl hat (encK_eq e) ?_
  refine cw_ hv ?_
  refine WA.nil (l:=[]) rfl ?_
  refine A.entsEq (Λ':=[.box b (encW w z), .tail 1 z, .box b3 (cellsR p)]) rfl ?_
  refine y_ ?_
  refine A.ret1 (Λ':=[.box b _, .tail 1 z]) rfl rfl rfl sl_ ⟨z, .refl,rfl,trivial⟩
 |some x=>
  rw [hx] at hv
  simp only
  by_cases hc:p.c≠1
  ·rw [if_pos hc]
   unfold simE FunE
   refine Fun.of (S:=tt) (fn:=Tryz.f53) (n:=144) tt_ok Tryz.func53 rfl rfl rfl rfl fun w0 h0 F hgs=>?_
   refine y_ ?_
   refine A.b rfl fun b3=>?_
   refine A.perm (Λ':=[.box b (encW w z), .tail 1 z, .box b3 (cellsR p)]) (List.perm_append_comm (l₁:=[_]) (l₂:=[_,_])) ?_
   refine y_ ?_
   refine F_ rfl (by rw [hk];rfl) ?_
   refine F_ rfl (by rw [hk];rfl) ?_
   refine F_ rfl (by rw [hk];rfl) ?_
   refine F_ rfl (by rw [hk];rfl) ?_
   refine T_ rfl (by rw [hk];rfl) ?_
   refine d_ 13 [0,1,2,3,4,5,6,7,8,9,10,11,12] [(8,optA (some x))] ?_
   refine iw_ rfl hat (encK_eq e) ?_
   refine cw_ hv ?_
   refine WA.nil (l:=[]) rfl ?_
   refine A.entsEq (Λ':=[.box b (encW w z), .tail 1 z, .box b3 (cellsR p)]) rfl ?_
   refine y_ ?_
   refine T_ rfl (by rw [bne_iff_ne];exact hc) ?_
   refine A.entsEq (Λ':=[.box b (encW ⟨w.store,w.inn,w.out,w.steps-1⟩ z), .tail 1 z, .box b3 (cellsR p)]) (by rw [esub]) ?_
   refine A.ret1 (Λ':=[.box b _, .tail 1 z]) rfl rfl rfl sl_ ⟨z, .refl,rfl,trivial⟩
  ·rw [if_neg hc]
   have hc1:p.c=1:=by omega
   unfold simE FunE
   refine Fun.of (S:=tt) (fn:=Tryz.f53) (n:=144) tt_ok Tryz.func53 rfl rfl rfl rfl fun w0 h0 F hgs=>?_
   refine y_ ?_
   refine A.b rfl fun b3=>?_
   refine A.perm (Λ':=[.box b (encW w z), .tail 1 z, .box b3 (cellsR p)]) (List.perm_append_comm (l₁:=[_]) (l₂:=[_,_])) ?_
   refine y_ ?_
   refine F_ rfl (by rw [hk];rfl) ?_
   refine F_ rfl (by rw [hk];rfl) ?_
   refine F_ rfl (by rw [hk];rfl) ?_
   refine F_ rfl (by rw [hk];rfl) ?_
   refine T_ rfl (by rw [hk];rfl) ?_
   refine d_ 13 [0,1,2,3,4,5,6,7,8,9,10,11,12] [(8,optA (some x))] ?_
   refine iw_ rfl hat (encK_eq e) ?_
   refine cw_ hv ?_
   refine WA.nil (l:=[]) rfl ?_
   refine A.entsEq (Λ':=[.box b (encW w z), .tail ty21.size z, .box b3 (cellsR p)]) rfl ?_
   refine y_ ?_
   refine A.gF rfl (by rw [hc1];rfl) ?_
   refine t_ fun bl=>?_
   refine A.append rfl rfl rfl rfl rfl rfl rfl rfl rfl rfl rfl rfl rfl rfl (by show ((w.out.map AI32).length+1)*1≤_;rw [List.length_map];omega) fun z'=>?_
   refine e_ 141 rfl (x':= .sl 1 ((w.out++[x]).map AI32) (some z')) (by rw [List.map_append];rfl) ?_
   refine A.perm (Λ':=[.box b (encW ⟨w.store,w.inn,w.out++[x],w.steps⟩ z'), .tail 1 z', .box b3 (cellsR p)]) ?_ ?_
   ·exact List.Perm.swap _ _ _
   refine A.ret1 (Λ':=[.box b _, .tail 1 z']) rfl rfl rfl sl_ ⟨z', .refl,rfl,trivial⟩
def placesM(st:List (List Int)):List PL→Option (List (Int×Int))
 | []=>some []
 |t::r=>match placeM st t.v t.ix with
  |none=>none
  |some q=>(placesM st r).map (q:: ·)
def allP(st:List (List Int))(l:List ((Int×Int)×Int)):List (List Int):=l.foldl (fun st q=>putM st q.1.1 q.1.2 q.2) st
theorem puts_places(st0:List (List Int)): ∀(tos:List PL) (xs:List Int) (st:List (List Int)),tos.length=xs.length→putsM st0 tos xs st=(placesM st0 tos).map fun ps=>allP st (ps.zip xs)
 | [],xs,st,h=>by
   cases xs with
   |nil=>rfl
   |cons x r=>cases h
 |t::r,xs,st,h=>by
  cases xs with
  |nil=>cases h
  |cons x xr=>
   unfold putsM placesM
   cases hq:placeM st0 t.v t.ix with
   |none=>rfl
   |some q=>
    obtain ⟨v,j⟩:=q
    simp only
    rw [puts_places st0 r xr _ (by simpa using h)]
    cases placesM st0 r with
    |none=>rfl
    |some ps=>rfl
abbrev prA(q:Int×Int):AV:= .ag [AI q.1,AI q.2]
abbrev aSt(w:WD)(l:List ((Int×Int)×Int)):WD:=⟨allP w.store l,w.inn,w.out,w.steps⟩
theorem allP_snoc(st:List (List Int))(l:List ((Int×Int)×Int))(q:(Int×Int)×Int):allP st (l++[q])=putM (allP st l) q.1.1 q.1.2 q.2:=by
 unfold allP
 rw [List.foldl_append];rfl
theorem allP_small{st:List (List Int)}(h:Small st): ∀l,Small (allP st l):=fun l=>by
 induction l generalizing st with
 |nil=>exact h
 |cons q r ih=>exact ih (h.put _ _ _)
theorem assign_w{V:List KV}(b:Nat)(w:WD)(z:Value)(h:WOk V w)(p:PR)(he: ∀x,x∈p.e→wfK x)(ht: ∀t,t∈p.to→wfPl t∧t.ix.length≤281474976710656)(hl:p.to.length=p.e.length)(hb:p.e.length≤8):
 FunE Tryz.prog gs0 102 [ptrA b,cellsR p] [.box b (encW w z), .tail 1 z] (fun _:Unit=>AI (simpleAssign w p).1) (fun _=>[.box b (encW (simpleAssign w p).2 z), .tail 1 z]) (fun _=>True):=by
 have n1:((encKl p.e).length:Int)=p.e.length:=by rw [encKl_len]
 have n2:((p.to.map encPl).length:Int)=p.to.length:=by rw [List.length_map]
 unfold FunE
 refine Exists.elim (show∃R,R=simpleAssign w p from ⟨_,rfl⟩) fun R hR=>?_
 rw [←hR]
 unfold simpleAssign at hR
 refine Fun.of (S:=tt) (fn:=Tryz.f102) (n:=98) tt_ok Tryz.func102 rfl rfl rfl rfl fun w0 h0 F hgs=>?_
 refine y_ ?_
 refine A.b rfl fun b3=>?_
 refine A.perm (Λ':=[.box b (encW w z), .tail 1 z, .box b3 (cellsR p)]) (List.perm_append_comm (l₁:=[_]) (l₂:=[_,_])) ?_
 refine y_ ?_
 refine A.nilTail 5 1 rfl ?_
 refine A.nilTail 6 2 rfl ?_
 refine A.perm (Λ':=[.box b (encW w z), .tail 1 z, .box b3 (cellsR p), .tail 2 (.slice none 0 0), .tail 1 (.slice none 0 0)]) ((List.perm_append_comm (l₁:=[_,_]) (l₂:=[_,_,_]))) ?_
 refine A.keep [0,3,4,5,6,7] rfl ?_
 refine A.loopP (ι:=List Int×Value) (fun u=>(⟨[(0,ptrA b),(3,ptrA b3),(4,AI 0),(5, .sl 1 (u.1.map AI32) (some u.2)),(6, .sl 2 [] (some (.slice none 0 0))),(7,AI (u.1.length:Nat))],[]⟩,[.box b (encW w z), .tail 1 z, .box b3 (cellsR p), .tail 2 (.slice none 0 0), .tail 1 u.2]))
  (fun u=>u.1.length≤p.e.length∧valsM w.store p.e=(valsM w.store (p.e.drop u.1.length)).map (u.1++ ·)) (fun u=>p.e.length-u.1.length) ([], .slice none 0 0) ⟨Nat.zero_le _,by rw [List.length_nil,List.drop_zero];cases valsM w.store p.e<;>rfl⟩ rfl fun u hu ih=>?_
 obtain ⟨vs,z5⟩:=u
 obtain ⟨hv1,hv2⟩:=hu
 simp only at hv1 hv2
 refine y_ ?_
 refine A.valE 18 rfl (x':=AI (p.e.length:Nat)) (ai_eq n1) ?_
 refine k_ (fun hc=>?_) fun hc=>?_
 ·have hci:vs.length<p.e.length:=by have:=hc;rw [encKl_len] at this;simpa using this
  clear hc
  refine Exists.elim (at_exN (l:=p.e) (i:=vs.length) hci) fun e hei=>?_
  have hvp:=rValue_p w.store h.ws e (he e (List.mem_of_getElem? hei))
  rw [encK_eq] at hvp
  rw [drop_at hei,valsM_cons] at hv2
  refine y_ ?_
  cases hx:valueM w.store e with
  |none=>
   rw [hx] at hvp hv2
   have hv3:valsM w.store p.e=none:=hv2
   rw [hv3] at hR
   refine d_ 14 [0,1,2,3,4,5,6,7,8,9,10,11,12,13] [(9,optA none)] ?_
   refine iw_ rfl (encKl_at hei) (encK_eq e) ?_
   refine cw_ hvp ?_
   refine z_ ?_
   rw [hR]
   refine A.ret1 (Λ':=[.box b (encW w z), .tail 1 z]) rfl rfl rfl sl_ ⟨(), .refl,rfl,trivial⟩
  |some x=>
   rw [hx] at hvp hv2
   have hv3:valsM w.store p.e=(valsM w.store (p.e.drop (vs++[x]).length)).map ((vs++[x])++ ·):=by
    rw [hv2,List.length_append,List.length_singleton]
    show ((valsM w.store (p.e.drop (vs.length+1))).map (x:: ·)).map (vs++ ·)=_
    cases valsM w.store (p.e.drop (vs.length+1)) with
    |none=>rfl
    |some l=>simp
   refine d_ 14 [0,1,2,3,4,5,6,7,8,9,10,11,12,13] [(9,optA (some x))] ?_
   refine iw_ rfl (encKl_at hei) (encK_eq e) ?_
   refine cw_ hvp ?_
   refine WA.nil (l:=[]) rfl ?_
   refine A.entsEq (Λ':=[.box b (encW w z), .tail 1 z, .box b3 (cellsR p), .tail 2 (.slice none 0 0), .tail ty21.size z5]) rfl ?_
   refine t_ fun bl=>?_
   refine A.append rfl rfl rfl rfl rfl rfl rfl rfl rfl rfl rfl rfl rfl rfl (by show ((vs.map AI32).length+1)*1≤_;rw [List.length_map];omega) fun z'=>?_
   refine e_ 40 rfl (x':= .sl 1 ((vs++[x]).map AI32) (some z')) (by rw [List.map_append];rfl) ?_
   refine A.valE 7 rfl (x':=AI ((vs++[x]).length:Nat)) (by rw [List.length_append];exact inc_eq vs.length (by omega)) ?_
   refine A.perm (Λ':=[.box b (encW w z), .tail 1 z, .box b3 (cellsR p), .tail 2 (.slice none 0 0), .tail 1 z']) (List.perm_append_comm (l₁:=[_]) (l₂:=[_,_,_,_])) ?_
   refine u_ (ih (vs++[x],z') ⟨by show (vs++[x]).length≤_;rw [List.length_append];show vs.length+1≤_;omega,hv3⟩ (by show _-(vs++[x]).length<_-vs.length;rw [List.length_append];show _-(vs.length+1)<_;omega))
 have hci: ¬vs.length<p.e.length:=by have:=hc;rw [encKl_len] at this;simpa using this
 clear hc ih
 have hvl:vs.length=p.e.length:=by omega
 have hvs:valsM w.store p.e=some vs:=by rw [hv2,hvl,List.drop_length];show some (vs++[])=_;rw [List.append_nil]
 rw [hvs] at hR
 simp only at hR
 rw [puts_places w.store p.to vs w.store (by omega)] at hR
 refine y_ ?_
 refine A.keep [0,3,4,5,6,10] rfl ?_
 refine A.loopP (ι:=List (Int×Int)×Value) (fun u=>(⟨[(0,ptrA b),(3,ptrA b3),(4,AI 0),(5, .sl 1 (vs.map AI32) (some z5)),(6, .sl 2 (u.1.map prA) (some u.2)),(10,AI (u.1.length:Nat))],[]⟩,[.box b (encW w z), .tail 1 z, .box b3 (cellsR p), .tail 2 u.2, .tail 1 z5]))
  (fun u=>u.1.length≤p.to.length∧placesM w.store p.to=(placesM w.store (p.to.drop u.1.length)).map (u.1++ ·)) (fun u=>p.to.length-u.1.length) ([], .slice none 0 0) ⟨Nat.zero_le _,by rw [List.length_nil,List.drop_zero];cases placesM w.store p.to<;>rfl⟩ rfl fun u hu ih=>?_
 obtain ⟨ps,z6⟩:=u
 obtain ⟨hp1,hp2⟩:=hu
 simp only at hp1 hp2
 refine y_ ?_
 refine k_ (fun hc=>?_) fun hc=>?_
 ·have hci2:ps.length<p.to.length:=by have:=hc;rw [List.length_map] at this;simpa using this
  clear hc
  refine Exists.elim (at_exN (l:=p.to) (i:=ps.length) hci2) fun t hti=>?_
  have htw:=ht t (List.mem_of_getElem? hti)
  have hpp:=rPlace_p w.store h.ws t.v t.ix htw.1 htw.2
  have hpc:placesM w.store (t::p.to.drop (ps.length+1))=match placeM w.store t.v t.ix with
   |none=>none
   |some q=>(placesM w.store (p.to.drop (ps.length+1))).map (q:: ·):=rfl
  rw [drop_at hti,hpc] at hp2
  refine y_ ?_
  cases hq:placeM w.store t.v t.ix with
  |none=>
   rw [hq] at hpp hp2
   have hp3:placesM w.store p.to=none:=hp2
   rw [hp3] at hR
   refine d_ 16 [0,1,2,3,4,5,6,7,8,9,10,11,12,13,14,15] [(9,optP none)] ?_
   refine iw_ rfl (map_at hti) rfl ?_
   refine cw_ hpp ?_
   refine z_ ?_
   rw [hR]
   refine A.ret1 (Λ':=[.box b (encW w z), .tail 1 z]) rfl rfl rfl sl_ ⟨(), .refl,rfl,trivial⟩
  |some q=>
   obtain ⟨v,j⟩:=q
   rw [hq] at hpp hp2
   have hp3:placesM w.store p.to=(placesM w.store (p.to.drop (ps++[(v,j)]).length)).map ((ps++[(v,j)])++ ·):=by
    rw [hp2,List.length_append,List.length_singleton]
    show ((placesM w.store (p.to.drop (ps.length+1))).map ((v,j):: ·)).map (ps++ ·)=_
    cases placesM w.store (p.to.drop (ps.length+1)) with
    |none=>rfl
    |some l=>simp
   refine d_ 16 [0,1,2,3,4,5,6,7,8,9,10,11,12,13,14,15] [(9,optP (some (v,j)))] ?_
   refine iw_ rfl (map_at hti) rfl ?_
   refine cw_ hpp ?_
   refine WA.nil (l:=[]) rfl ?_
   refine A.entsEq (Λ':=[.box b (encW w z), .tail 1 z, .box b3 (cellsR p), .tail ty172.size z6, .tail 1 z5]) rfl ?_
   refine t_ fun bl=>?_
   refine A.append rfl rfl rfl rfl rfl rfl rfl rfl rfl rfl rfl rfl rfl rfl (by show ((ps.map prA).length+1)*2≤_;rw [List.length_map];omega) fun z'=>?_
   refine e_ 69 rfl (x':= .sl 2 ((ps++[(v,j)]).map prA) (some z')) (by rw [List.map_append];rfl) ?_
   refine A.valE 10 rfl (x':=AI ((ps++[(v,j)]).length:Nat)) (by rw [List.length_append];exact inc_eq ps.length (by omega)) ?_
   refine A.perm (Λ':=[.box b (encW w z), .tail 1 z, .box b3 (cellsR p), .tail 2 z', .tail 1 z5]) (List.Perm.symm (List.perm_middle (l₁:=[_,_,_]))) ?_
   refine u_ (ih (ps++[(v,j)],z') ⟨by show (ps++[(v,j)]).length≤_;rw [List.length_append];show ps.length+1≤_;omega,hp3⟩ (by show _-(ps++[(v,j)]).length<_-ps.length;rw [List.length_append];show _-(ps.length+1)<_;omega))
 have hci2: ¬ps.length<p.to.length:=by have:=hc;rw [List.length_map] at this;simpa using this
 clear hc ih
 have hpl:ps.length=p.to.length:=by omega
 have hps:placesM w.store p.to=some ps:=by rw [hp2,hpl,List.drop_length];show some (ps++[])=_;rw [List.append_nil]
 rw [hps] at hR
 have hR2:R=(0,aSt w (ps.zip vs)):=hR
 have nv:((vs.map AI32).length:Int)=vs.length:=by rw [List.length_map]
 have hzl:(ps.zip vs).length=vs.length:=by rw [List.length_zip];omega
 refine y_ ?_
 refine A.keep [0,3,4,5,6,14] rfl ?_
 refine A.loopP (ι:=Nat) (fun i=>(⟨[(0,ptrA b),(3,ptrA b3),(4,AI 0),(5, .sl 1 (vs.map AI32) (some z5)),(6, .sl 2 (ps.map prA) (some z6)),(14,AI (i:Nat))],[]⟩,[.box b (encW (aSt w ((ps.zip vs).take i)) z), .tail 1 z, .box b3 (cellsR p), .tail 2 z6, .tail 1 z5]))
  (fun i=>i≤vs.length) (fun i=>vs.length-i) 0 (Nat.zero_le _) rfl fun i hi ih=>?_
 refine y_ ?_
 refine k_ (fun hc=>?_) fun hc=>?_
 ·have hci3:i<vs.length:=by have:=hc;rw [List.length_map] at this;simpa using this
  clear hc
  refine Exists.elim (at_exN (l:=vs) (i:=i) hci3) fun x hxi=>?_
  refine Exists.elim (at_exN (l:=ps) (i:=i) (by omega)) fun q hqi=>?_
  have hzi:(ps.zip vs)[i]? =some (q,x):=by rw [List.getElem?_zip_eq_some];exact ⟨hqi,hxi⟩
  have hpp:=(allP_small h.sm ((ps.zip vs).take i)).rput q.1 q.2 x
  have est:allP w.store ((ps.zip vs).take (i+1))=putM (allP w.store ((ps.zip vs).take i)) q.1 q.2 x:=by
   rw [List.take_add_one,hzi]
   exact allP_snoc _ _ _
  rw [←est] at hpp
  refine y_ ?_
  refine d_ 20 [0,1,2,3,4,5,6,7,8,9,10,11,12,13,14,15,16,17,18,19] [(19,rowsA (allP w.store ((ps.zip vs).take (i+1))))] ?_
  refine WA.x rfl (by omega) (map_at hqi) rfl rfl ?_
  refine WA.indexPe rfl rfl rfl rfl rfl rfl rfl rfl rfl (by decide) (by decide) rfl rfl rfl ?_
  refine w_ ?_
  refine WA.x rfl (by omega) (map_at hqi) rfl rfl ?_
  refine WA.indexPe rfl rfl rfl rfl rfl rfl rfl rfl rfl (by decide) (by decide) rfl rfl rfl ?_
  refine w_ ?_
  refine iw_ rfl (map_at hxi) rfl ?_
  refine WA.c rfl rfl hpp (.sub .refl) ?_
  refine z_ ?_
  refine A.entsEq (Λ':=[.box b (encW (aSt w ((ps.zip vs).take (i+1))) z), .tail 1 z, .box b3 (cellsR p), .tail 2 z6, .tail 1 z5]) rfl ?_
  refine A.valE 14 rfl (x':=AI ((i+1:Nat):Int)) (inc_eq i (by omega)) ?_
  refine u_ (ih (i+1) (by omega) (by omega))
 have hci3: ¬i<vs.length:=by have:=hc;rw [List.length_map] at this;simpa using this
 clear hc ih
 have hil:(ps.zip vs).take i=ps.zip vs:=List.take_of_length_le (by omega)
 rw [hil]
 rw [hR2]
 refine y_ ?_
 refine A.ret1 (Λ':=[.box b _, .tail 1 z]) rfl rfl rfl sl_ ⟨(), .refl,rfl,trivial⟩
theorem sim_4{V:List KV}(b:Nat)(w:WD)(z:Value)(h:WOk V w)(p:PR)(hk:p.kind=4)(he: ∀x,x∈p.e→wfK x)(ht: ∀t,t∈p.to→wfPl t∧t.ix.length≤281474976710656)(hl:p.to.length=p.e.length)(hb:p.e.length≤8):simE b w z p (simpleAssign w p):=by
 have ha:=assign_w b w z h p he ht hl hb
 unfold FunE at ha
 unfold simE FunE
 refine Fun.of (S:=tt) (fn:=Tryz.f53) (n:=144) tt_ok Tryz.func53 rfl rfl rfl rfl fun w0 h0 F hgs=>?_
 refine y_ ?_
 refine A.b rfl fun b3=>?_
 refine A.perm (Λ':=[.box b (encW w z), .tail 1 z, .box b3 (cellsR p)]) (List.perm_append_comm (l₁:=[_]) (l₂:=[_,_])) ?_
 refine y_ ?_
 refine F_ rfl (by rw [hk];rfl) ?_
 refine T_ rfl (by rw [hk];rfl) ?_
 refine A.e rfl ha .refl (.refl _) fun _ _=>?_
 refine y_ ?_
 refine A.ret1 (Λ':=[.box b _, .tail 1 z]) rfl rfl rfl sl_ ⟨z, .refl,rfl,trivial⟩
section
variable{V:List KV}{n:Nat}{p:PR}
theorem RunOk.k3(h:RunOk V n p)(hk:p.kind=3):0≤p.v∧p.v<V.length:=by
 have h1:=h.pl.kind
 unfold kindB at h1
 rw [if_neg (by omega),if_pos hk] at h1
 simp only [Bool.and_eq_true,decide_eq_true_eq] at h1
 exact ⟨h1.1.2,h1.2⟩
theorem RunOk.k4(h:RunOk V n p)(hk:p.kind=4):p.to.length=p.e.length∧p.e.length≤8:=by
 have h1:=h.pl.kind
 unfold kindB at h1
 rw [if_neg (by omega),if_neg (by omega),if_pos hk] at h1
 simp only [shapeR,inB,Bool.and_eq_true,decide_eq_true_eq,beq_iff_eq] at h1
 exact ⟨h1.1.2,by have:=h1.1.1.1.1.2.2;omega⟩
theorem RunOk.k5(h:RunOk V n p)(hk:p.kind=5): ∃t,p.to=[t]:=by
 have h1:=h.pl.kind
 unfold kindB at h1
 rw [if_neg (by omega),if_neg (by omega),if_neg (by omega),if_pos hk] at h1
 simp only [shapeR,Bool.and_eq_true] at h1
 exact len1 h1.1.1.1.1.2
theorem RunOk.k6(h:RunOk V n p)(hk:p.kind=6): ∃t,p.e=[t]:=by
 have h1:=h.pl.kind
 unfold kindB at h1
 rw [if_neg (by omega),if_neg (by omega),if_neg (by omega),if_neg (by omega),if_pos hk] at h1
 simp only [shapeR,Bool.and_eq_true] at h1
 exact len1 h1.1.1.1.1.2
theorem RunOk.k7(h:RunOk V n p)(hk:p.kind=7): ∃t,p.to=[t]:=by
 have h1:=h.pl.kind
 unfold kindB at h1
 rw [if_neg (by omega),if_neg (by omega),if_neg (by omega),if_neg (by omega),if_neg (by omega),if_pos hk] at h1
 simp only [shapeR,Bool.and_eq_true] at h1
 exact len1 h1.1.1.1.1.2
theorem RunOk.k13(h:RunOk V n p)(hk:p.kind=13): ∃e,p.e=[e]:=by
 have h1:=h.pl.kind
 unfold kindB at h1
 rw [if_neg (by omega),if_neg (by omega),if_neg (by omega),if_neg (by omega),if_neg (by omega),if_neg (by omega),if_neg (by omega),if_neg (by omega),if_neg (by omega),if_neg (by omega),if_neg (by omega),if_pos hk] at h1
 simp only [shapeR,Bool.and_eq_true] at h1
 exact len1 h1.1.1.1.2
theorem RunOk.e(h:RunOk V n p): ∀x,x∈p.e→wfK x:=(wfR_all h.wf).e
theorem RunOk.to(h:RunOk V n p): ∀t,t∈p.to→wfPl t∧t.ix.length≤281474976710656:=fun t ht=>⟨(wfR_all h.wf).to t ht,smP_l ((smR_all h.sm).to t ht)⟩
theorem sim_p(b:Nat)(w:WD)(z:Value)(h:WOk V w)(hs1:1≤w.steps)(hr:RunOk V n p)(h1:p.kind≠1)(h2:p.kind≠2)(h9:p.kind≠9)(h12:p.kind≠12)(h13:p.kind≠13):simE b w z p (simpleM w p):=by
 obtain ⟨kk,k10,k11,k14,k15,k8⟩:=hr.pl.kinds
 unfold simpleM
 by_cases k3:p.kind=3
 ·rw [if_pos k3]
  obtain ⟨v0,v1⟩:=hr.k3 k3
  obtain ⟨r,hrow⟩:=at_exN (l:=w.store) (i:=p.v.toNat) (by rw [h.len];omega)
  have e:rowOf w.store p.v=r:=by unfold rowOf;rw [hrow]
  rw [e]
  exact sim_3 b w z h p k3 r hrow v0
 rw [if_neg k3]
 by_cases k4:p.kind=4
 ·rw [if_pos k4]
  obtain ⟨a1,a2⟩:=hr.k4 k4
  exact sim_4 b w z h p k4 hr.e hr.to a1 a2
 rw [if_neg k4]
 by_cases k7:p.kind=7
 ·rw [if_pos k7]
  obtain ⟨t,ht⟩:=hr.k7 k7
  have:=hr.to t (by rw [ht];exact .head _)
  have h1:=sim_7 b w z h p k7 t [] ht this.1 this.2
  rw [show headP p.to=t by rw [ht];rfl];exact h1
 rw [if_neg k7]
 by_cases k5:p.kind=5
 ·rw [if_pos k5]
  obtain ⟨t,ht⟩:=hr.k5 k5
  have:=hr.to t (by rw [ht];exact .head _)
  have h1:=sim_5 b w z h hs1 p k5 t [] ht this.1 this.2
  rw [show headP p.to=t by rw [ht];rfl];exact h1
 rw [if_neg k5]
 by_cases k6:p.kind=6
 ·rw [if_pos k6]
  obtain ⟨t,ht⟩:=hr.k6 k6
  have h1:=sim_6 b w z h hs1 p k6 t [] ht (hr.e t (by rw [ht];exact .head _))
  rw [show headE p.e=t by rw [ht];rfl];exact h1
 omega
end
abbrev runE(b:Nat)(w:WD)(z:Value)(p:PR)(R:Int×WD):Prop:=
 FunE Tryz.prog gs0 24 [ptrA b,cellsR p] [.box b (encW w z), .tail 1 z] (fun _:Value=>AI R.1) (fun z'=>[.box b (encW R.2 z'), .tail 1 z']) (fun _=>True)
section
variable{V:List KV}{n:Nat}
theorem run_late(b:Nat)(w:WD)(z:Value)(p:PR)(hs:150<w.steps):runE b w z p (2,w):=by
 unfold runE FunE
 refine Fun.of (S:=tt) (fn:=Tryz.f24) (n:=122) tt_ok Tryz.func24 rfl rfl rfl rfl fun w0 h0 F hgs=>?_
 refine y_ ?_
 refine A.b rfl fun b3=>?_
 refine A.perm (Λ':=[.box b (encW w z), .tail 1 z, .box b3 (cellsR p)]) (List.perm_append_comm (l₁:=[_]) (l₂:=[_,_])) ?_
 refine y_ ?_
 refine T_ rfl (by rw [decide_eq_true_eq];omega) ?_
 refine A.ret1 (Λ':=[.box b _, .tail 1 z]) rfl rfl rfl sl_ ⟨z, .refl,rfl,trivial⟩
theorem run_1(b:Nat)(w:WD)(z:Value)(p:PR)(hs: ¬150<w.steps)(hk:p.kind=1):runE b w z p (0,w):=by
 unfold runE FunE
 refine Fun.of (S:=tt) (fn:=Tryz.f24) (n:=122) tt_ok Tryz.func24 rfl rfl rfl rfl fun w0 h0 F hgs=>?_
 refine y_ ?_
 refine A.b rfl fun b3=>?_
 refine A.perm (Λ':=[.box b (encW w z), .tail 1 z, .box b3 (cellsR p)]) (List.perm_append_comm (l₁:=[_]) (l₂:=[_,_])) ?_
 refine y_ ?_
 refine F_ rfl (by rw [decide_eq_false_iff_not];omega) ?_
 refine T_ rfl (by rw [hk];rfl) ?_
 refine A.ret1 (Λ':=[.box b _, .tail 1 z]) rfl rfl rfl sl_ ⟨z, .refl,rfl,trivial⟩
theorem run_2(b:Nat)(w:WD)(z:Value)(p:PR)(hs: ¬150<w.steps)(hk:p.kind=2):runE b w z p (1,w):=by
 unfold runE FunE
 refine Fun.of (S:=tt) (fn:=Tryz.f24) (n:=122) tt_ok Tryz.func24 rfl rfl rfl rfl fun w0 h0 F hgs=>?_
 refine y_ ?_
 refine A.b rfl fun b3=>?_
 refine A.perm (Λ':=[.box b (encW w z), .tail 1 z, .box b3 (cellsR p)]) (List.perm_append_comm (l₁:=[_]) (l₂:=[_,_])) ?_
 refine y_ ?_
 refine F_ rfl (by rw [decide_eq_false_iff_not];omega) ?_
 refine F_ rfl (by rw [hk];rfl) ?_
 refine T_ rfl (by rw [hk];rfl) ?_
 refine A.ret1 (Λ':=[.box b _, .tail 1 z]) rfl rfl rfl sl_ ⟨z, .refl,rfl,trivial⟩
theorem run_9(fu b:Nat)(w:WD)(z:Value)(p:PR)(hs: ¬150<w.steps)(hk:p.kind=9)(hp:RunOk V n p)(hw:WOk V w)
 (ih: ∀x,x∈p.l→ ∀(w':WD) (z':Value),WOk V w'→w.steps≤w'.steps→runE b w' z' x (runM fu w' x)):runE b w z p (runL (runM fu) w p.l):=by
 have n1:((encRl p.l).length:Int)=p.l.length:=by rw [encRl_len]
 have hll:=(wfR_all hp.wf).ll
 refine Exists.elim (show∃R,R=runL (runM fu) w p.l from ⟨_,rfl⟩) fun R hR=>?_
 rw [←hR]
 unfold runE FunE
 refine Fun.of (S:=tt) (fn:=Tryz.f24) (n:=122) tt_ok Tryz.func24 rfl rfl rfl rfl fun w0 h0 F hgs=>?_
 refine y_ ?_
 refine A.b rfl fun b3=>?_
 refine A.perm (Λ':=[.box b (encW w z), .tail 1 z, .box b3 (cellsR p)]) (List.perm_append_comm (l₁:=[_]) (l₂:=[_,_])) ?_
 refine y_ ?_
 refine F_ rfl (by rw [decide_eq_false_iff_not];omega) ?_
 refine F_ rfl (by rw [hk];rfl) ?_
 refine F_ rfl (by rw [hk];rfl) ?_
 refine T_ rfl (by rw [hk];rfl) ?_
 refine A.keep [0,3,4,5] rfl ?_
 refine A.loopP (ι:=Nat×WD×Value) (fun u=>(⟨[(0,ptrA b),(3,ptrA b3),(4,AI 0),(5,AI (u.1:Nat))],[]⟩,[.box b (encW u.2.1 u.2.2), .tail 1 u.2.2, .box b3 (cellsR p)]))
  (fun u=>u.1≤p.l.length∧WOk V u.2.1∧w.steps≤u.2.1.steps∧R=runL (runM fu) u.2.1 (p.l.drop u.1)) (fun u=>p.l.length-u.1) (0,w,z) ⟨Nat.zero_le _,hw,Nat.le_refl _,by rw [List.drop_zero];exact hR⟩ rfl fun u hu jh=>?_
 obtain ⟨i,wi,zi⟩:=u
 obtain ⟨hi,hwi,hsi,hRi⟩:=hu
 simp only at hi hwi hsi hRi
 refine y_ ?_
 refine k_ (fun hc=>?_) fun hc=>?_
 ·have hci:i<p.l.length:=by have:=hc;simp only [n1,decide_eq_true_eq] at this;omega
  clear hc
  refine Exists.elim (at_exN (l:=p.l) (i:=i) hci) fun x hx=>?_
  have hxm:=List.mem_of_getElem? hx
  have hxr:=ih x hxm wi zi hwi hsi
  rw [drop_at hx,runL] at hRi
  have hkp:=run_keep fu x wi (hp.l x hxm) hwi
  refine Exists.elim (show∃R',R'=runM fu wi x from ⟨_,rfl⟩) fun R' hR'=>?_
  rw [←hR'] at hxr hRi hkp
  unfold runE FunE at hxr
  refine y_ ?_
  refine i_ rfl (by rw [Int.toNat_natCast];exact encRl_at hx) (encR_eq x) ?_
  refine A.e rfl hxr .refl (.refl _) fun z' _=>?_
  refine y_ ?_
  by_cases h0:R'.1≠0
  ·rw [if_pos h0] at hRi
   refine T_ rfl (by rw [bne_iff_ne];exact h0) ?_
   rw [hRi]
   refine A.ret1 (Λ':=[.box b _, .tail 1 z']) rfl rfl rfl sl_ ⟨z', .refl,rfl,trivial⟩
  ·rw [if_neg h0] at hRi
   have h0':R'.1=0:=by omega
   obtain ⟨k1,k2⟩:=hkp h0'
   refine F_ rfl (by rw [h0'];rfl) ?_
   refine A.valE 5 rfl (x':=AI ((i+1:Nat):Int)) (inc_eq i (by omega)) ?_
   refine u_ (jh (i+1,R'.2,z') ⟨by show i+1≤_;omega,k1,by show w.steps≤R'.2.steps;omega,hRi⟩ (by show _-(i+1)<_-i;omega))
 have hci: ¬i<p.l.length:=by have:=hc;simp only [n1,decide_eq_false_iff_not] at this;omega
 clear hc jh
 rw [List.drop_of_length_le (by omega),runL] at hRi
 rw [hRi]
 refine y_ ?_
 refine A.ret1 (Λ':=[.box b _, .tail 1 zi]) rfl rfl rfl sl_ ⟨zi, .refl,rfl,trivial⟩
theorem tick_eq{w:WD}(hs: ¬150<w.steps)(z:Value):(AV.ag [rowsA w.store,rowA w.inn, .sl 1 (w.out.map AI32) (some z), .v (.int .i64 (IntKind.i64.wrap ((w.steps:Int)+1)))])=encW (tickW w) z:=by
 rw [inc_eq w.steps (by omega)]
theorem run_12(fu b:Nat)(w:WD)(z:Value)(p:PR)(hs: ¬150<w.steps)(hk:p.kind=12)(hp:RunOk V n p)(hw:WOk V w)
 (ih: ∀g,g∈p.gs→ ∀x,x∈g.body→ ∀(z':Value),runE b (tickW w) z' x (runM fu (tickW w) x)):runE b w z p (runG (runM fu) (tickW w) p.gs):=by
 have n1:((encGl p.gs).length:Int)=p.gs.length:=by rw [encGl_len]
 have hgl:=(wfR_all hp.wf).gl
 have hbd:=(kind_bodies hp.pl.kind).2.2
 refine Exists.elim (show∃R,R=runG (runM fu) (tickW w) p.gs from ⟨_,rfl⟩) fun R hR=>?_
 rw [←hR]
 unfold runE FunE
 refine Fun.of (S:=tt) (fn:=Tryz.f24) (n:=122) tt_ok Tryz.func24 rfl rfl rfl rfl fun w0 h0 F hgs=>?_
 refine y_ ?_
 refine A.b rfl fun b3=>?_
 refine A.perm (Λ':=[.box b (encW w z), .tail 1 z, .box b3 (cellsR p)]) (List.perm_append_comm (l₁:=[_]) (l₂:=[_,_])) ?_
 refine y_ ?_
 (refine F_ rfl (by rw [decide_eq_false_iff_not];omega) ?_;refine F_ rfl (by rw [beq_eq_false_iff_ne];omega) ?_;refine F_ rfl (by rw [beq_eq_false_iff_ne];omega) ?_;refine F_ rfl (by rw [beq_eq_false_iff_ne];omega) ?_)
 refine A.entsEq (Λ':=[.box b (encW (tickW w) z), .tail 1 z, .box b3 (cellsR p)]) (by rw [←tick_eq hs z]) ?_
 refine T_ rfl (by rw [hk];rfl) ?_
 refine A.keep [0,3,4,7] rfl ?_
 refine A.loopP (ι:=Nat) (fun i=>(⟨[(0,ptrA b),(3,ptrA b3),(4,AI 0),(7,AI (i:Nat))],[]⟩,[.box b (encW (tickW w) z), .tail 1 z, .box b3 (cellsR p)]))
  (fun i=>i≤p.gs.length∧R=runG (runM fu) (tickW w) (p.gs.drop i)) (fun i=>p.gs.length-i) 0 ⟨Nat.zero_le _,by rw [List.drop_zero];exact hR⟩ rfl fun i hu jh=>?_
 obtain ⟨hi,hRi⟩:=hu
 refine y_ ?_
 refine k_ (fun hc=>?_) fun hc=>?_
 ·have hci:i<p.gs.length:=by have:=hc;simp only [n1,decide_eq_true_eq] at this;omega
  clear hc
  refine Exists.elim (at_exN (l:=p.gs) (i:=i) hci) fun g hg=>?_
  have hgm:=List.mem_of_getElem? hg
  refine Exists.elim (hbd g hgm) fun y hy=>?_
  have hgw:=wfG_all ((wfR_all hp.wf).g g hgm)
  have hvp:=rValue_p w.store hw.ws g.cond hgw.cond
  rw [encK_eq] at hvp
  rw [drop_at hg,runG] at hRi
  have hgi:=encG_eq g
  cases hx:valueM w.store g.cond with
  |none=>
   have hx2:valueM (tickW w).store g.cond=none:=hx
   rw [hx] at hvp
   rw [hx2] at hRi
   have hR1:R=(1,tickW w):=hRi
   refine y_ ?_
   refine d_ 15 [0,1,2,3,4,5,6,7,8,9,10,11,12,13,14] [(10,optA none)] ?_
   refine iw_ rfl (by rw [Int.toNat_natCast];exact encGl_at hg) hgi ?_
   refine cw_ hvp ?_
   refine z_ ?_
   rw [hR1]
   refine A.ret1 (Λ':=[.box b _, .tail 1 z]) rfl rfl rfl sl_ ⟨z, .refl,rfl,trivial⟩
  |some x=>
   have hx2:valueM (tickW w).store g.cond=some x:=hx
   rw [hx] at hvp
   rw [hx2] at hRi
   simp only at hRi
   refine y_ ?_
   refine d_ 15 [0,1,2,3,4,5,6,7,8,9,10,11,12,13,14] [(10,optA (some x))] ?_
   refine iw_ rfl (by rw [Int.toNat_natCast];exact encGl_at hg) hgi ?_
   refine cw_ hvp ?_
   refine WA.nil (l:=[]) rfl ?_
   refine A.entsEq (Λ':=[.box b (encW (tickW w) z), .tail 1 z, .box b3 (cellsR p)]) rfl ?_
   refine y_ ?_
   by_cases h1:x=1
   ·rw [if_pos h1,show headR g.body=y by rw [hy];rfl] at hRi
    have hyr:=ih g hgm y (by rw [hy];exact .head _) z
    unfold runE FunE at hyr
    rw [←hRi] at hyr
    refine T_ rfl (by rw [h1];rfl) ?_
    refine i_ rfl (by rw [Int.toNat_natCast];exact encGl_at hg) hgi ?_
    refine i_ rfl (show (encRl g.body)[(0:Int).toNat]? =some (encR y) from encRl_at (by rw [hy];rfl)) (encR_eq y) ?_
    refine A.e rfl hyr .refl (.refl _) fun z' _=>?_
    refine y_ ?_
    refine A.ret1 (Λ':=[.box b _, .tail 1 z']) rfl rfl rfl sl_ ⟨z', .refl,rfl,trivial⟩
   ·rw [if_neg h1] at hRi
    refine F_ rfl (by rw [beq_eq_false_iff_ne];exact h1) ?_
    refine A.valE 7 rfl (x':=AI ((i+1:Nat):Int)) (inc_eq i (by omega)) ?_
    refine u_ (jh (i+1) ⟨by omega,hRi⟩ (by omega))
 have hci: ¬i<p.gs.length:=by have:=hc;simp only [n1,decide_eq_false_iff_not] at this;omega
 clear hc jh
 rw [List.drop_of_length_le (by omega),runG] at hRi
 rw [hRi]
 refine y_ ?_
 refine A.ret1 (Λ':=[.box b _, .tail 1 z]) rfl rfl rfl sl_ ⟨z, .refl,rfl,trivial⟩
theorem run_13(fu b:Nat)(w:WD)(z:Value)(p:PR)(hs: ¬150<w.steps)(hk:p.kind=13)(hp:RunOk V n p)(hw:WOk V w)
 (ih: ∀x,(x∈p.l∨x=p)→ ∀(w':WD) (z':Value),WOk V w'→w.steps+1≤w'.steps→runE b w' z' x (runM fu w' x)) (R:Int×WD)
 (hR:R=match valueM w.store (headE p.e) with
   |none=>(1,tickW w)
   |some x=>if x=0 then (0,tickW w) else if (runM fu (tickW w) (headR p.l)).1≠0 then runM fu (tickW w) (headR p.l) else runM fu (runM fu (tickW w) (headR p.l)).2 p):runE b w z p R:=by
 obtain ⟨e,he⟩:=hp.k13 hk
 obtain ⟨bd,hb⟩:=hp.body13 hk
 have htk:=hw.tick (by omega)
 rw [show headE p.e=e by rw [he];rfl,show headR p.l=bd by rw [hb];rfl] at hR
 have hat:(encKl p.e)[(0:Int).toNat]? =some (encK e):=by rw [he,encKl];rfl
 have hbt:(encRl p.l)[(0:Int).toNat]? =some (encR bd):=by rw [hb,encRl];rfl
 have hvp:=rValue_p w.store hw.ws e (hp.e e (by rw [he];exact .head _))
 rw [encK_eq] at hvp
 cases hx:valueM w.store e with
 |none=>
  rw [hx] at hvp hR
  have hR1:R=(1,tickW w):=hR
  unfold runE FunE
  refine Fun.of (S:=tt) (fn:=Tryz.f24) (n:=122) tt_ok Tryz.func24 rfl rfl rfl rfl fun w0 h0 F hgs=>?_
  refine y_ ?_
  refine A.b rfl fun b3=>?_
  refine A.perm (Λ':=[.box b (encW w z), .tail 1 z, .box b3 (cellsR p)]) (List.perm_append_comm (l₁:=[_]) (l₂:=[_,_])) ?_
  refine y_ ?_
  (refine F_ rfl (by rw [decide_eq_false_iff_not];omega) ?_;refine F_ rfl (by rw [beq_eq_false_iff_ne];omega) ?_;refine F_ rfl (by rw [beq_eq_false_iff_ne];omega) ?_;refine F_ rfl (by rw [beq_eq_false_iff_ne];omega) ?_)
  refine A.entsEq (Λ':=[.box b (encW (tickW w) z), .tail 1 z, .box b3 (cellsR p)]) (by rw [←tick_eq hs z]) ?_
  refine F_ rfl (by rw [beq_eq_false_iff_ne];omega) ?_
  refine T_ rfl (by rw [hk];rfl) ?_
  refine d_ 13 [0,1,2,3,4,5,6,7,8,9,10,11,12] [(8,optA none)] ?_
  refine iw_ rfl hat (encK_eq e) ?_
  refine cw_ hvp ?_
  refine WA.nil (l:=[]) rfl ?_
  refine A.entsEq (Λ':=[.box b (encW (tickW w) z), .tail 1 z, .box b3 (cellsR p)]) rfl ?_
  refine y_ ?_
  rw [hR1]
  refine A.ret1 (Λ':=[.box b _, .tail 1 z]) rfl rfl rfl sl_ ⟨z, .refl,rfl,trivial⟩
 |some x=>
  rw [hx] at hvp hR
  simp only at hR
  unfold runE FunE
  refine Fun.of (S:=tt) (fn:=Tryz.f24) (n:=122) tt_ok Tryz.func24 rfl rfl rfl rfl fun w0 h0 F hgs=>?_
  refine y_ ?_
  refine A.b rfl fun b3=>?_
  refine A.perm (Λ':=[.box b (encW w z), .tail 1 z, .box b3 (cellsR p)]) (List.perm_append_comm (l₁:=[_]) (l₂:=[_,_])) ?_
  refine y_ ?_
  (refine F_ rfl (by rw [decide_eq_false_iff_not];omega) ?_;refine F_ rfl (by rw [beq_eq_false_iff_ne];omega) ?_;refine F_ rfl (by rw [beq_eq_false_iff_ne];omega) ?_;refine F_ rfl (by rw [beq_eq_false_iff_ne];omega) ?_)
  refine A.entsEq (Λ':=[.box b (encW (tickW w) z), .tail 1 z, .box b3 (cellsR p)]) (by rw [←tick_eq hs z]) ?_
  refine F_ rfl (by rw [beq_eq_false_iff_ne];omega) ?_
  refine T_ rfl (by rw [hk];rfl) ?_
  refine d_ 13 [0,1,2,3,4,5,6,7,8,9,10,11,12] [(8,optA (some x))] ?_
  refine iw_ rfl hat (encK_eq e) ?_
  refine cw_ hvp ?_
  refine WA.nil (l:=[]) rfl ?_
  refine A.entsEq (Λ':=[.box b (encW (tickW w) z), .tail 1 z, .box b3 (cellsR p)]) rfl ?_
  refine y_ ?_
  by_cases h0:x=0
  ·rw [if_pos h0] at hR
   refine T_ rfl (by rw [h0];rfl) ?_
   rw [hR]
   refine A.ret1 (Λ':=[.box b _, .tail 1 z]) rfl rfl rfl sl_ ⟨z, .refl,rfl,trivial⟩
  ·rw [if_neg h0] at hR
   have hbr:=ih bd (.inl (by rw [hb];exact .head _)) (tickW w) z htk (Nat.le_refl _)
   have hkp:=run_keep fu bd (tickW w) (hp.l bd (by rw [hb];exact .head _)) htk
   have est:(tickW w).steps=w.steps+1:=rfl
   refine Exists.elim (show∃R',R'=runM fu (tickW w) bd from ⟨_,rfl⟩) fun R' hR'=>?_
   rw [←hR'] at hbr hR hkp
   unfold runE FunE at hbr
   refine F_ rfl (by rw [beq_eq_false_iff_ne];exact h0) ?_
   refine i_ rfl hbt (encR_eq bd) ?_
   refine A.e rfl hbr .refl (.refl _) fun z' _=>?_
   refine y_ ?_
   by_cases h1:R'.1≠0
   ·rw [if_pos h1] at hR
    refine T_ rfl (by rw [bne_iff_ne];exact h1) ?_
    rw [hR]
    refine A.ret1 (Λ':=[.box b _, .tail 1 z']) rfl rfl rfl sl_ ⟨z', .refl,rfl,trivial⟩
   ·rw [if_neg h1] at hR
    have h1':R'.1=0:=by omega
    have k1:=(hkp h1').1
    have k2:=(hkp h1').2
    have hpr:=ih p (.inr rfl) R'.2 z' k1 k2
    rw [←hR] at hpr
    unfold runE FunE at hpr
    refine F_ rfl (by rw [h1'];rfl) ?_
    refine A.e rfl hpr .refl (.refl _) fun z2 _=>?_
    refine y_ ?_
    refine A.ret1 (Λ':=[.box b _, .tail 1 z2]) rfl rfl rfl sl_ ⟨z2, .refl,rfl,trivial⟩
theorem run_s(b:Nat)(w:WD)(z:Value)(p:PR)(hs: ¬150<w.steps)(hp:RunOk V n p)(hw:WOk V w)(h1:p.kind≠1)(h2:p.kind≠2)(h9:p.kind≠9)(h12:p.kind≠12)(h13:p.kind≠13):runE b w z p (simpleM (tickW w) p):=by
 have hsm:=sim_p b (tickW w) z (hw.tick (by omega)) (by show 1≤w.steps+1;omega) hp h1 h2 h9 h12 h13
 unfold simE FunE at hsm
 unfold runE FunE
 refine Fun.of (S:=tt) (fn:=Tryz.f24) (n:=122) tt_ok Tryz.func24 rfl rfl rfl rfl fun w0 h0 F hgs=>?_
 refine y_ ?_
 refine A.b rfl fun b3=>?_
 refine A.perm (Λ':=[.box b (encW w z), .tail 1 z, .box b3 (cellsR p)]) (List.perm_append_comm (l₁:=[_]) (l₂:=[_,_])) ?_
 refine y_ ?_
 (refine F_ rfl (by rw [decide_eq_false_iff_not];omega) ?_;refine F_ rfl (by rw [beq_eq_false_iff_ne];omega) ?_;refine F_ rfl (by rw [beq_eq_false_iff_ne];omega) ?_;refine F_ rfl (by rw [beq_eq_false_iff_ne];omega) ?_)
 refine A.entsEq (Λ':=[.box b (encW (tickW w) z), .tail 1 z, .box b3 (cellsR p)]) (by rw [←tick_eq hs z]) ?_
 refine F_ rfl (by rw [beq_eq_false_iff_ne];exact h12) ?_
 refine F_ rfl (by rw [beq_eq_false_iff_ne];exact h13) ?_
 refine A.e rfl hsm .refl (.refl _) fun z' _=>?_
 refine y_ ?_
 refine A.ret1 (Λ':=[.box b _, .tail 1 z']) rfl rfl rfl sl_ ⟨z', .refl,rfl,trivial⟩
theorem run_n(S b:Nat): ∀(fu:Nat) (p:PR) (w:WD) (z:Value),RunOk V n p→WOk V w→szR p≤S→(152-w.steps)*(S+1)+szR p≤fu→runE b w z p (runM fu w p)
 |0,p,w,z,_,_,_,h=>by have:=szR_pos p;omega
 |fu+1,p,w,z,hp,hw,hS,h=>by
  have ih:=run_n S b fu
  have hse:=szR_eq p
  rw [runM]
  by_cases hst:150<w.steps
  ·rw [if_pos hst];exact run_late b w z p hst
  rw [if_neg hst]
  by_cases k1:p.kind=1
  ·rw [if_pos k1];exact run_1 b w z p hst k1
  rw [if_neg k1]
  by_cases k2:p.kind=2
  ·rw [if_pos k2];exact run_2 b w z p hst k2
  rw [if_neg k2]
  by_cases k9:p.kind=9
  ·rw [if_pos k9]
   refine run_9 fu b w z p hst k9 hp hw fun x hx w' z' hw' hs'=>ih x w' z' (hp.l x hx) hw' ?_ ?_
   ·have:=szL_le hx;omega
   ·have h1:=szL_le hx
    have h2:(152-w'.steps)*(S+1)≤(152-w.steps)*(S+1):=Nat.mul_le_mul_right _ (by omega)
    omega
  rw [if_neg k9]
  have hstep: ∀{t:Nat},w.steps+1≤t→ ∀{q:Nat},q≤S→(152-t)*(S+1)+q≤fu:=fun {t} ht {q} hq=>by
   have h2:(152-t)*(S+1)≤(152-(w.steps+1))*(S+1):=Nat.mul_le_mul_right _ (by omega)
   have h3:(152-w.steps)*(S+1)=(152-(w.steps+1))*(S+1)+(S+1):=by
    rw [show 152-w.steps=(152-(w.steps+1))+1 by omega,Nat.succ_mul]
   omega
  by_cases k12:p.kind=12
  ·rw [if_pos k12]
   refine run_12 fu b w z p hst k12 hp hw fun g hg x hx z'=>ih x (tickW w) z' (hp.g g hg x hx) (hw.tick (by omega)) ?_ (hstep (Nat.le_refl _) ?_)
   all_goals
    have h1:=szGs_le hg
    rw [szG_eq] at h1
    have h2:=szL_le hx
    omega
  rw [if_neg k12]
  by_cases k13:p.kind=13
  ·rw [if_pos k13]
   refine run_13 fu b w z p hst k13 hp hw (fun x hx w' z' hw' hs'=>?_) _ rfl
   rcases hx with hx|rfl
   ·have h1:=szL_le hx
    exact ih x w' z' (hp.l x hx) hw' (by omega) (hstep hs' (by omega))
   ·exact ih x w' z' hp hw' hS (hstep hs' hS)
  rw [if_neg k13]
  exact run_s b w z p hst hp hw k1 k2 k9 k12 k13
end
structure KerOk(V:List KV)(n:Nat)(p:PR):Prop where
 ok: ∃h,okR V n h p=true
 wf:wfR p
 sm:smR p
section
variable{V:List KV}{n:Nat}{p:PR}
theorem KerOk.kind(h:KerOk V n p):kindB V n p=true:=by
 obtain ⟨hi,ho⟩:=h.ok
 rw [okR_eq,Bool.and_eq_true,Bool.and_eq_true,Bool.and_eq_true] at ho
 exact ho.1.1.1
theorem KerOk.l(h:KerOk V n p): ∀x,x∈p.l→KerOk V n x:=fun x hx=>by
 obtain ⟨hi,ho⟩:=h.ok
 rw [okR_eq,Bool.and_eq_true,Bool.and_eq_true] at ho
 exact ⟨okL_in ho.1.2 x hx,(wfR_all h.wf).l x hx,(smR_all h.sm).l x hx⟩
theorem KerOk.g(h:KerOk V n p): ∀g,g∈p.gs→ ∀x,x∈g.body→KerOk V n x:=fun g hg x hx=>by
 obtain ⟨hi,ho⟩:=h.ok
 rw [okR_eq,Bool.and_eq_true,Bool.and_eq_true] at ho
 exact ⟨okGs_in ho.2 g hg x hx,(wfG_all ((wfR_all h.wf).g g hg)).body x hx,(smG_all ((smR_all h.sm).g g hg)).body x hx⟩
end
theorem plain_no(p:PR)(h:plainI p.kind=false):Pure Tryz.prog gs0 22 [cellsR p] (AB false):=by
 simp only [plainI,Bool.not_eq_false',Bool.or_eq_true,beq_iff_eq] at h
 by_cases h1:p.kind=10
 ·refine p_ tt_ok Tryz.func22 59 fun w0 h0 F hgs=>?_;(refine b_ fun bx=>?_;refine y_ ?_);refine T_ rfl (beq_iff_eq.2 (by omega)) ?_;exact r_
 by_cases h2:p.kind=11
 ·refine p_ tt_ok Tryz.func22 59 fun w0 h0 F hgs=>?_;(refine b_ fun bx=>?_;refine y_ ?_);refine F_ rfl (beq_eq_false_iff_ne.2 (by omega)) ?_;refine T_ rfl (beq_iff_eq.2 (by omega)) ?_;exact r_
 by_cases h3:p.kind=14
 ·refine p_ tt_ok Tryz.func22 59 fun w0 h0 F hgs=>?_;(refine b_ fun bx=>?_;refine y_ ?_);refine F_ rfl (beq_eq_false_iff_ne.2 (by omega)) ?_;refine F_ rfl (beq_eq_false_iff_ne.2 (by omega)) ?_;refine T_ rfl (beq_iff_eq.2 (by omega)) ?_;exact r_
 by_cases h4:p.kind=15
 ·refine p_ tt_ok Tryz.func22 59 fun w0 h0 F hgs=>?_;(refine b_ fun bx=>?_;refine y_ ?_);refine F_ rfl (beq_eq_false_iff_ne.2 (by omega)) ?_;refine F_ rfl (beq_eq_false_iff_ne.2 (by omega)) ?_;refine F_ rfl (beq_eq_false_iff_ne.2 (by omega)) ?_;refine T_ rfl (beq_iff_eq.2 (by omega)) ?_;exact r_
 have h5:p.kind=8:=by omega
 refine p_ tt_ok Tryz.func22 59 fun w0 h0 F hgs=>?_;(refine b_ fun bx=>?_;refine y_ ?_);refine F_ rfl (beq_eq_false_iff_ne.2 (by omega)) ?_;refine F_ rfl (beq_eq_false_iff_ne.2 (by omega)) ?_;refine F_ rfl (beq_eq_false_iff_ne.2 (by omega)) ?_;refine F_ rfl (beq_eq_false_iff_ne.2 (by omega)) ?_;refine T_ rfl (beq_iff_eq.2 (by omega)) ?_;exact r_
theorem plainRl_c(x:PR)(r:List PR):plainRl (x::r)=(plainR x&&plainRl r):=by rw [plainRl]
theorem plainGl_c(g:GD)(r:List GD):plainGl (g::r)=(plainRl g.body&&plainGl r):=by obtain ⟨k,e,c,i,to,t,b⟩:=g;rw [plainGl,plainG]
theorem plain_yes{V:List KV}{n:Nat}(p:PR)(hp:KerOk V n p)(h:plainI p.kind=true)(hl: ∀x,x∈p.l→Pure Tryz.prog gs0 22 [cellsR x] (AB (plainR x)))(hg: ∀g,g∈p.gs→ ∀x,x∈g.body→Pure Tryz.prog gs0 22 [cellsR x] (AB (plainR x))):
 Pure Tryz.prog gs0 22 [cellsR p] (AB (plainR p)):=by
 simp only [plainI,Bool.not_eq_true',Bool.or_eq_false_iff,beq_eq_false_iff_ne] at h
 have hpI:plainI p.kind=true:=by simp only [plainI,Bool.not_eq_true',Bool.or_eq_false_iff,beq_eq_false_iff_ne];exact h
 obtain ⟨h1,h2,h3,h4,h5⟩:=h
 have n1:((encRl p.l).length:Int)=p.l.length:=by rw [encRl_len]
 have n2:((encGl p.gs).length:Int)=p.gs.length:=by rw [encGl_len]
 have hll:=(wfR_all hp.wf).ll
 have hgl:=(wfR_all hp.wf).gl
 have hbd:=(kind_bodies hp.kind).2.2
 rw [plainR_eq,hpI,Bool.true_and]
 refine Exists.elim (show∃R,R=(plainRl p.l&&plainGl p.gs) from ⟨_,rfl⟩) fun R hR=>?_
 rw [←hR]
 refine p_ tt_ok Tryz.func22 59 fun w0 h0 F hgs=>?_
 (refine b_ fun bx=>?_;refine y_ ?_);refine F_ rfl (beq_eq_false_iff_ne.2 (by omega)) ?_;refine F_ rfl (beq_eq_false_iff_ne.2 (by omega)) ?_;refine F_ rfl (beq_eq_false_iff_ne.2 (by omega)) ?_;refine F_ rfl (beq_eq_false_iff_ne.2 (by omega)) ?_;refine F_ rfl (beq_eq_false_iff_ne.2 (by omega)) ?_
 refine A.keep [1,2,3] rfl ?_
 refine A.loopP (ι:=Nat) (fun i=>(⟨[(1,_),(2,AB false),(3,AI (i:Nat))],[]⟩,_)) (fun i=>i≤p.l.length∧R=(plainRl (p.l.drop i)&&plainGl p.gs)) (fun i=>p.l.length-i) 0 ⟨Nat.zero_le _,by rw [List.drop_zero];exact hR⟩ rfl fun i hi ih=>?_
 obtain ⟨hi,hRi⟩:=hi
 refine y_ ?_
 refine k_ (fun hc=>?_) fun hc=>?_
 ·have hci:i<p.l.length:=by have:=hc;simp only [n1,decide_eq_true_eq] at this;omega
  clear hc
  refine Exists.elim (at_exN (l:=p.l) (i:=i) hci) fun x hx=>?_
  have hxp:=hl x (List.mem_of_getElem? hx)
  rw [drop_at hx,plainRl_c] at hRi
  refine Exists.elim (show∃q,q=plainR x from ⟨_,rfl⟩) fun q hq=>?_
  rw [←hq] at hxp hRi
  refine y_ ?_
  refine i_ rfl (by rw [Int.toNat_natCast];exact encRl_at hx) (encR_eq x) ?_
  refine n_ hxp ?_
  cases q with
  |false=>
   have hR0:R=false:=hRi
   refine y_ ?_
   rw [hR0]
   exact r_
  |true=>
   rw [Bool.true_and] at hRi
   refine y_ ?_
   refine A.valE 3 rfl (x':=AI ((i+1:Nat):Int)) (inc_eq i (by omega)) ?_
   refine u_ (ih (i+1) ⟨by omega,hRi⟩ (by omega))
 have hci: ¬i<p.l.length:=by have:=hc;simp only [n1,decide_eq_false_iff_not] at this;omega
 clear hc ih
 rw [List.drop_of_length_le (by omega),plainRl,Bool.true_and] at hRi
 refine y_ ?_
 refine A.keep [1,2,4] rfl ?_
 refine A.loopP (ι:=Nat) (fun i=>(⟨[(1,_),(2,AB false),(4,AI (i:Nat))],[]⟩,_)) (fun i=>i≤p.gs.length∧R=plainGl (p.gs.drop i)) (fun i=>p.gs.length-i) 0 ⟨Nat.zero_le _,by rw [List.drop_zero];exact hRi⟩ rfl fun j hj jh=>?_
 obtain ⟨hj,hRj⟩:=hj
 refine y_ ?_
 refine k_ (fun hc=>?_) fun hc=>?_
 ·have hcj:j<p.gs.length:=by have:=hc;simp only [n2,decide_eq_true_eq] at this;omega
  clear hc
  refine Exists.elim (at_exN (l:=p.gs) (i:=j) hcj) fun g hgj=>?_
  have hgm:=List.mem_of_getElem? hgj
  refine Exists.elim (hbd g hgm) fun y hy=>?_
  have hyp:=hg g hgm y (by rw [hy];exact .head _)
  rw [drop_at hgj,plainGl_c,hy,plainRl_c,plainRl,Bool.and_true] at hRj
  refine Exists.elim (show∃q,q=plainR y from ⟨_,rfl⟩) fun q hq=>?_
  rw [←hq] at hyp hRj
  refine y_ ?_
  refine i_ rfl (by rw [Int.toNat_natCast];exact encGl_at hgj) (encG_eq g) ?_
  refine i_ rfl (show (encRl g.body)[(0:Int).toNat]? =some (encR y) from encRl_at (by rw [hy];rfl)) (encR_eq y) ?_
  refine n_ hyp ?_
  cases q with
  |false=>
   have hR0:R=false:=hRj
   refine y_ ?_
   rw [hR0]
   exact r_
  |true=>
   rw [Bool.true_and] at hRj
   refine y_ ?_
   refine A.valE 4 rfl (x':=AI ((j+1:Nat):Int)) (inc_eq j (by omega)) ?_
   refine u_ (jh (j+1) ⟨by omega,hRj⟩ (by omega))
 have hcj: ¬j<p.gs.length:=by have:=hc;simp only [n2,decide_eq_false_iff_not] at this;omega
 clear hc jh
 rw [List.drop_of_length_le (by omega),plainGl] at hRj
 rw [hRj]
 exact yr_
theorem plain_n{V:List KV}{n:Nat}: ∀(m:Nat) (p:PR),SizeOf.sizeOf p≤m→KerOk V n p→Pure Tryz.prog gs0 22 [cellsR p] (AB (plainR p))
 |0,p,h,_=>by
  obtain ⟨k,c,v,i,to,e,gs,l⟩:=p
  simp only [PR.mk.sizeOf_spec] at h;omega
 |m+1,p,h,hp=>by
  cases hI:plainI p.kind with
  |false=>rw [plainR_eq,hI,Bool.false_and,Bool.false_and];exact plain_no p hI
  |true=>exact plain_yes p hp hI (fun x hx=>plain_n m x (by have:=pr_lt hx;omega) (hp.l x hx)) (fun g hg x hx=>plain_n m x (by have:=bl_lt hg hx;omega) (hp.g g hg x hx))
theorem Goes.inv{s s':ST}{n:Nat}{o:List Int}(h:Goes s (n+1) o s'): ∃m o',movesM s=[m,tickM s]∧m.kind≠3∧o=toldO m++o'∧Goes m.next n o' s':=by
 cases h with
 |step hm hk h=>exact ⟨_,_,hm,hk,rfl,h⟩
theorem Goes.none{s s':ST}{o:List Int}(h:Goes s 0 o s'):o=[]∧s'=s:=by
 cases h with
 |zero=>exact ⟨rfl,rfl⟩
theorem simple_steps(w:WD)(p:PR):(simpleM w p).2.steps≤w.steps:=by
 unfold simpleM simpleAssign simpleTime simpleIn simpleOut
 repeat' split
 all_goals first|exact Nat.le_refl _|exact Nat.sub_le _ _
theorem runL_steps{B:Nat}{f:WD→PR→Int×WD}(ih: ∀w p,w.steps≤B→(f w p).2.steps≤B): ∀(l:List PR) (w:WD),w.steps≤B→(runL f w l).2.steps≤B
 | [],w,h=>h
 |x::r,w,h=>by
  rw [runL]
  split
  ·exact ih w x h
  ·exact runL_steps ih r _ (ih w x h)
theorem runG_steps{B:Nat}{f:WD→PR→Int×WD}(ih: ∀w p,w.steps≤B→(f w p).2.steps≤B)(w:WD)(h:w.steps≤B): ∀(l:List GD),(runG f w l).2.steps≤B
 | []=>h
 |g::r=>by
  rw [runG]
  split
  ·exact h
  ·split
   ·exact ih w _ h
   ·exact runG_steps ih w h r
theorem run_steps: ∀(fu:Nat) (w:WD) (p:PR),w.steps≤151→(runM fu w p).2.steps≤151
 |0,w,p,h=>h
 |fu+1,w,p,h=>by
  have ih:=run_steps fu
  rw [runM]
  split
  ·exact h
  ·rename_i hs
   have ht:(tickW w).steps≤151:=by show w.steps+1≤151;omega
   split
   ·exact h
   split
   ·exact h
   split
   ·exact runL_steps ih p.l w h
   split
   ·exact runG_steps ih _ ht p.gs
   split
   ·split
    ·exact ht
    ·split
     ·exact ht
     ·split
      ·exact ih _ _ ht
      ·exact ih _ _ (ih _ _ ht)
   ·exact Nat.le_trans (simple_steps _ _) ht
theorem wordsS{a b:List Int}(h:a=b)(hb:b.length≤281474976710656):Pure Tryz.prog gs0 26 [rowA a,rowA b] (AB true):=by
 subst h
 have:=lwords_p a a hb
 rw [show wordsB a a=true from alike_self (fun x=>by simp) _] at this
 exact this
theorem ran_ends{w:WD}{p:PR}{r:Int×WD}(h:Ran [] w p r)(h2:r.1≠2): ∃n o s',r.2.steps=w.steps+n∧r.2.out=w.out++o∧Goes (stW w p) n o s'∧movesM s'=[tickM s']∧(doneR s'.root==(r.1==0))=true∧s'.store=r.2.store∧s'.inn=r.2.inn:=by
 rcases h with ⟨h1,n,o,e1,e2,e3⟩|⟨h1,n,o,s',e1,e2,e3,e4,e5,e6,e7⟩|h
 ·have hd:doneR (stW r.2 (plug [] skipR)).root=true:=by
   show doneR (normR skipR)=true
   rw [skip_nf];exact (done_iff _).2 rfl
  exact ⟨n,o,_,e1,e2,e3,moves_done hd,by rw [hd,h1];rfl,rfl,rfl⟩
 ·exact ⟨n,o,s',e1,e2,e3,e4,by rw [e5,h1];rfl,e6,e7⟩
 ·exact absurd h h2
abbrev nilO:AV:= .v (.slice none 0 0)
theorem sequence_law(k:KN)(hk:SmN k)(inn:List Int)(hi: ∀x,x∈inn→i32 x)(hil:inn.length≤35184372088832):Pure Tryz.prog gs0 6 [encN k,rowA inn] (AB true):=by
 obtain ⟨b0,hf,hg⟩:=first_p k hk inn hil
 cases b0 with
 |false=>
  refine p_ tt_ok Tryz.func6 118 fun w0 h0 F hgs=>?_
  (refine b_ fun bx=>?_;refine y_ ?_)
  refine n_ hf ?_
  ((refine b_ fun bx=>?_;refine y_ ?_);exact cr_ head_p)
 |true=>
 have hg1:=hg rfl
 have hw:=hg1.walk hk hi
 have hmf:=may_fits hg1.may
 have hin60:inn.length≤60:=hg1.fit.inn
 have hker:KerOk k.vars k.chans.length k.root:=⟨⟨false,hmf.1⟩,hk.wf.root,hk.root⟩
 have hpl:=plain_n _ k.root (Nat.le_refl _) hker
 cases hpk:plainR k.root with
 |false=>
  rw [hpk] at hpl
  refine p_ tt_ok Tryz.func6 118 fun w0 h0 F hgs=>?_
  (refine b_ fun bx=>?_;refine y_ ?_)
  refine n_ hf ?_
  (refine b_ fun bx=>?_;refine y_ ?_)
  refine n_ hpl ?_
  (refine y_ ?_;exact cr_ head_p)
 |true=>
 rw [hpk] at hpl
 have hplo:PlO k.vars k.chans.length k.root:=⟨hpk,⟨false,hmf.1⟩⟩
 have hrun:RunOk k.vars k.chans.length k.root:=⟨hplo,hk.wf.root,hk.root⟩
 have hsto:=store_ok (may_sounds hg1.may)
 have hst:=rStore_pN k.vars k.chans k.root k.procs hk.wf.vars
 refine Exists.elim (show∃wd0:WD,wd0=⟨storeS k.vars,inn,[],0⟩ from ⟨_,rfl⟩) fun wd0 hwd0=>?_
 have hwo:WOk k.vars wd0:=by
  rw [hwd0]
  refine ⟨?_,?_,?_,hi,by show inn.length≤1000;omega,Nat.zero_le _,by show 0≤151;omega⟩
  ·show wfS (storeS k.vars);rw [storeS_eq hg1.may];exact hsto.ws
  ·show Small (storeS k.vars);rw [storeS_eq hg1.may];exact hsto.small
  ·show (storeS k.vars).length=_;rw [storeS_eq hg1.may];unfold storeM;rw [List.length_map]
 refine Exists.elim (show∃fu,fu=(152-wd0.steps)*(szR k.root+1)+szR k.root from ⟨_,rfl⟩) fun fu hfu=>?_
 have hrn:=fun b z=>run_n (szR k.root) b fu k.root wd0 z hrun hwo (Nat.le_refl _) (by omega)
 have hs0:startS k inn=stW wd0 k.root:=by rw [hwd0];rfl
 have hran:Ran [] wd0 k.root (runM fu wd0 k.root):=ran k fu k.root wd0 [] hplo (by show GoodK k (stW wd0 k.root);rw [←hs0];exact hw.good)
 have hsb:=run_steps fu wd0 k.root (by rw [hwd0];show 0≤151;omega)
 refine Exists.elim (show∃R,R=runM fu wd0 k.root from ⟨_,rfl⟩) fun R hR=>?_
 rw [←hR] at hrn hran hsb
 have e0:encST (startS k inn)=encST (stW wd0 k.root):=by rw [hs0]
 have ebox: ∀h y,Rp h (.ag [rowsA (storeS k.vars),rowA inn,nilO, .v (.int .i64 0)]) y→Rp h (encW wd0 (.slice none 0 0)) y:=fun h y r=>by
  rw [hwd0]
  exact Rp_ag_imp (RpC_imp (fun _ r=>r) (RpC_imp (fun _ r=>r) (RpC_imp (fun _ r=>nil_own 1 r) (RpC_imp (fun _ r=>r) (fun _ r=>r))))) y r
 unfold runE FunE at hrn
 refine p_ tt_ok Tryz.func6 118 fun w0 h0 F hgs=>?_
 refine y_ ?_
 refine A.b rfl fun b2=>?_
 refine y_ ?_
 refine c_ hf ?_
 refine A.b rfl fun b5=>?_
 refine y_ ?_
 refine c_ hpl ?_
 refine c_ hst ?_
 refine A.b rfl fun b7=>?_
 refine A.w rfl rfl ?_
 refine A.fullTail 1 0 none (fun _=>rfl) (fun x h=>by cases h) ?_
 refine A.boxAs (b:=b7) (x':=encW wd0 (.slice none 0 0)) (List.Perm.swap _ _ _) ebox ?_
 refine A.entsEq (Λ':=[.box b7 (encW wd0 (.slice none 0 0)), .tail 1 (.slice none 0 0), .box b5 (encST (stW wd0 k.root)), .box b2 (encN k)]) (by rw [←e0];rfl) ?_
 refine y_ ?_
 refine A.e rfl (hrn b7 (.slice none 0 0)) .refl (.refl _) fun z' _=>?_
 refine y_ ?_
 by_cases h2:R.1=2
 ·refine A.gT rfl (by rw [h2];rfl) ?_
  (refine y_ ?_;exact cr_ head_p)
 refine A.gF rfl (by rw [beq_eq_false_iff_ne];exact h2) ?_
 refine Exists.elim (ran_ends hran h2) fun n hh=>Exists.elim hh fun o hh=>Exists.elim hh fun s' hh=>?_
 have e1:R.2.steps=n:=by rw [hh.1,hwd0];exact Nat.zero_add _
 have e2:R.2.out=o:=by rw [hh.2.1,hwd0];exact List.nil_append _
 have e3:=hh.2.2.1
 have e4:=hh.2.2.2.1
 have e5:=hh.2.2.2.2.1
 have e6:=hh.2.2.2.2.2.1
 have e7:=hh.2.2.2.2.2.2
 clear hh
 have hw1:Walk k (stW wd0 k.root):=by rw [←hs0];exact hw
 refine y_ ?_
 refine A.nilTail 9 1 rfl ?_
 refine A.keep [2,5,7,8,9,10] rfl ?_
 refine A.loopP (ι:=Nat×ST×List Int×Value) (fun u=>(⟨[(2,ptrA b2),(5,ptrA b5),(7,ptrA b7),(8,AI R.1),(9, .sl 1 (u.2.2.1.map AI32) (some u.2.2.2)),(10,AI (u.1:Nat))],[]⟩,[.tail 1 u.2.2.2, .box b7 (encW R.2 z'), .tail 1 z', .box b5 (encST u.2.1), .box b2 (encN k)]))
  (fun u=>u.1≤n∧Walk k u.2.1∧u.2.2.1.length≤u.1∧ ∃o',Goes u.2.1 (n-u.1) o' s'∧o=u.2.2.1++o') (fun u=>n-u.1) (0,stW wd0 k.root,[], .slice none 0 0) ⟨Nat.zero_le _,hw1,Nat.zero_le _,o,e3,rfl⟩ rfl fun u hu ih=>?_
 obtain ⟨i,s,acc,z9⟩:=u
 obtain ⟨hi1,hws,hal,hex⟩:=hu
 simp only at hi1 hws hal hex
 refine Exists.elim hex fun o' ho=>?_
 have hgo:=ho.1
 have hoa:=ho.2
 clear ho hex
 have hmv:=hws.moves
 have hsm:=hws.good.sms
 refine y_ ?_
 refine A.valE 41 rfl (x':=AB (decide (i<n))) (ab_eq (by rw [e1,Bool.eq_iff_iff];simp)) ?_
 refine k_ (fun hc=>?_) fun hc=>?_
 ·have hci:i<n:=by simpa using hc
  clear hc
  rw [show n-i=(n-(i+1))+1 by omega] at hgo
  refine Exists.elim hgo.inv fun m hh=>Exists.elim hh fun o2 hh=>?_
  have hm1:=hh.1
  have hm3:=hh.2.1
  have hm4:=hh.2.2.1
  have hm5:=hh.2.2.2
  clear hh
  rw [hm1] at hmv
  have hws':=hws.step (m:=m) (by rw [hm1];exact .head _)
  refine y_ ?_
  refine c_ hmv ?_
  refine i_ rfl rfl rfl ?_
  refine F_ rfl (beq_eq_false_iff_ne.2 hm3) ?_
  refine i_ rfl rfl rfl ?_
  by_cases hk2:m.kind=2
  case neg=>
   have hto:toldO m=[]:=if_neg fun h=>hk2 h.1
   rw [hto,List.nil_append] at hm4
   refine F_ rfl (beq_eq_false_iff_ne.2 hk2) ?_
   refine i_ rfl rfl rfl ?_
   refine A.valE 10 rfl (x':=AI ((i+1:Nat):Int)) (inc_eq i (by omega)) ?_
   refine u_ (ih (i+1,m.next,acc,z9) ⟨by show i+1≤_;omega,hws',by show acc.length≤i+1;omega,o2,hm5,by rw [hoa,hm4]⟩ (by show _-(i+1)<_-i;omega))
  refine T_ rfl (beq_iff_eq.2 hk2) ?_
  refine i_ rfl rfl rfl ?_
  by_cases hc1:m.ec=1
  case neg=>
   have hto:toldO m=[]:=if_neg fun h=>hc1 h.2
   rw [hto,List.nil_append] at hm4
   refine F_ rfl (beq_eq_false_iff_ne.2 hc1) ?_
   refine i_ rfl rfl rfl ?_
   refine A.valE 10 rfl (x':=AI ((i+1:Nat):Int)) (inc_eq i (by omega)) ?_
   refine u_ (ih (i+1,m.next,acc,z9) ⟨by show i+1≤_;omega,hws',by show acc.length≤i+1;omega,o2,hm5,by rw [hoa,hm4]⟩ (by show _-(i+1)<_-i;omega))
  have hto:toldO m=[m.ev]:=if_pos ⟨hk2,hc1⟩
  rw [hto] at hm4
  refine T_ rfl (beq_iff_eq.2 hc1) ?_
  refine j_ rfl rfl rfl ?_
  refine A.entsEq (Λ':=[.tail ty21.size z9, .box b7 (encW R.2 z'), .tail 1 z', .box b5 (encST s), .box b2 (encN k)]) rfl ?_
  refine t_ fun bl=>?_
  refine A.append rfl rfl rfl rfl rfl rfl rfl rfl rfl rfl rfl rfl rfl rfl (by show ((acc.map AI32).length+1)*1≤_;rw [List.length_map];omega) fun z2=>?_
  refine e_ 77 rfl (x':= .sl 1 ((acc++[m.ev]).map AI32) (some z2)) (by rw [List.map_append];rfl) ?_
  refine i_ rfl rfl rfl ?_
  refine A.valE 10 rfl (x':=AI ((i+1:Nat):Int)) (inc_eq i (by omega)) ?_
  refine u_ (ih (i+1,m.next,acc++[m.ev],z2) ⟨by show i+1≤_;omega,hws',by show (acc++[m.ev]).length≤i+1;rw [List.length_append];show acc.length+1≤_;omega,o2,hm5,by rw [hoa,hm4,List.append_assoc]⟩ (by show _-(i+1)<_-i;omega))
 have hci: ¬i<n:=by simpa using hc
 clear hc ih
 rw [show n-i=0 by omega] at hgo
 have hss:=hgo.none.2
 have ho0:=hgo.none.1
 rw [ho0,List.append_nil] at hoa
 rw [hss] at e4 e5 e6 e7
 rw [e4] at hmv
 have hdn:=sdone_p s hsm.root
 refine Exists.elim (show∃d,d=doneR s.root from ⟨_,rfl⟩) fun d hd=>?_
 rw [←hd] at hdn e5
 have hsame:Pure Tryz.prog gs0 25 [rowsA s.store,rowsA R.2.store] (AB true):=by
  have:=rSame_p s.store s.store hsm.store
  rw [show sameB s.store s.store=true from alike_self (fun x=>alike_self (fun x=>by simp) _) _] at this
  rw [←e6];exact this
 have hwi:=wordsS e7 (by rw [←e7];exact hsm.inn)
 have hwo2:=wordsS (show acc=R.2.out by rw [e2,hoa]) (by rw [e2,hoa];omega)
 refine y_ ?_
 refine c_ hmv ?_
 refine c_ hdn ?_
 refine T_ rfl e5 ?_
 refine c_ hsame ?_
 refine c_ hwi ?_
 refine n_ hwo2 ?_
 (refine y_ ?_;exact cr_ head_p)
end Go.Proofs.YthdgpbgjmbkleaaGreat
