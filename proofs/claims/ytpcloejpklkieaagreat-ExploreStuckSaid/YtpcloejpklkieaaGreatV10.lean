/-
  Texts Q20m. Conditions: as each theorem says.
-/
import Derived.Test.YtpcloejpklkieaaGreatV3
import Derived.Test.YtpcloejpklkieaaGreatV9
set_option linter.unusedVariables false
set_option linter.unusedSimpArgs false
set_option maxRecDepth 100000
set_option maxHeartbeats 4000000
namespace Go.Proofs.YtpcloejpklkieaaGreat
open Go Go.Tp
theorem cut_min{pk:List Int}(npk:((pk.map AU8).length:Int)=pk.length):(if (40:Int)<((pk.map AU8).length:Int) then 40 else ((pk.map AU8).length:Int))=((min pk.length 40:Nat):Int):=by
 rw [npk]
 split<;>omega
theorem cut_take(pk:List Int):((pk.map AU8).drop 0).take ((((min pk.length 40:Nat):Int)).toNat-0)=(pk.take 40).map AU8:=by
 rw [List.drop_zero,Int.toNat_natCast,Nat.sub_zero,←List.map_take]
 congr 1
 rcases Nat.le_total pk.length 40 with h|h
 ·rw [Nat.min_eq_left h,List.take_length,List.take_of_length_le h]
 ·rw [Nat.min_eq_right h]
theorem walk_len: ∀(r:List Nat) (t:TR) (s:ST),(walkM t s r).1.length≤t.length+r.length
 | [],t,s=>by rw [walkM];simp
 |p::r,t,s=>by
  rw [walkM]
  split
  ·rw [List.length_cons];show t.length≤_;omega
  ·rename_i m hm
   have h1:=walk_len r (withM t (evM m,m.next)) m.next
   have h2:=with_len t (evM m,m.next)
   rw [List.length_cons];omega
theorem walk_good{k:KN}: ∀(r:List Nat) (t:TR) (s:ST),GoodK k s→GoodK k (walkM t s r).2
 | [],t,s,h=>by rw [walkM];exact h
 |p::r,t,s,h=>by
  rw [walkM]
  split
  ·exact h
  ·rename_i m hm
   exact walk_good r _ _ (moves_good h m (List.mem_of_getElem? hm)).1
structure WkOk(k:KN)(inn:List Int)(t:TR)(s:ST):Prop where
 sk:SrchK k s
 wk:Wlk stepsM (startS k inn) t (tmS 0 s)
theorem wk_ok{k:KN}(hm:mayK k=true)(hk:SmN k)(hu:untR k.root=true){inn:List Int}(hi: ∀x,x∈inn→i32 x)(hil:inn.length≤35184372088832)(r:List Nat):WkOk k inn (walkM [] (startS k inn) r).1 (walkM [] (startS k inn) r).2:=by
 obtain ⟨h1,h2⟩:=walk_wlk r [] (startS k inn) (unt_start hm hk hu hi hil) (show Wlk stepsM (startS k inn) [] (tmS 0 (startS k inn)) from .nil)
 exact ⟨h1,h2⟩
theorem bad_tm{k:KN}{s:ST}(h:SrchK k s):badS (tmS 0 s)=badS s:=by
 unfold badS
 rw [real_time h.good h.unt 0]
 cases realM s<;>rfl
theorem WkOk.found{k:KN}{inn:List Int}{t:TR}{s:ST}(h:WkOk k inn t s){n most:Nat}(hmo:1≤most){l:List (TR×ST)}(hl:closX k inn n most=some l)(hn:t.length≤n):t∈canT (l.map (·.1)):=by
 obtain ⟨_,_,h3⟩:=clos_all hmo hl
 exact mem_canT.2 (List.mem_map.2 ⟨(t,tmS 0 s),(h3 _).2 ⟨h.wk,hn⟩,rfl⟩)
theorem WkOk.stuck{k:KN}{inn:List Int}{t:TR}{s:ST}(h:WkOk k inn t s){most:Nat}{l:List (ND ST)}(hl:reachM k inn most=some l)(hb:badS s=true): ∃b,stuckM badS l=some b∧leB b t:=
 (stuck_plain badS hl).2 t (tmS 0 s) h.wk (by rw [bad_tm h.sk];exact hb)
theorem chk_val{k:KN}(hm:mayK k=true)(n:Nat):checkX k (n:Nat) 60=if untR k.root=false then 8 else 0:=by
 unfold checkX
 rw [if_neg (by rw [hm];simp),if_neg (by decide)]
theorem can_len{k:KN}{inn:List Int}{n most:Nat}(hmo:1≤most){l:List (TR×ST)}(hl:closX k inn n most=some l): ∀t,t∈canT (l.map (·.1))→t.length≤n:=fun t ht=>by
 obtain ⟨_,_,h3⟩:=clos_all hmo hl
 obtain ⟨y,hy,rfl⟩:=List.mem_map.1 (mem_canT.1 ht)
 exact ((h3 y).1 hy).2
theorem ins_len{α:Type} [DecidableEq α]{lt:α→α→Bool}: ∀(l:List α) (x:α),(insS lt l x).length≤l.length+1
 | [],x=>by simp [insS]
 |y::r,x=>by
  have:=ins_len (lt:=lt) r x
  unfold insS
  split
  ·simp only [List.length_cons];omega
  ·split<;>simp only [List.length_cons]<;>omega
theorem insAll_len{α:Type} [DecidableEq α]{lt:α→α→Bool}: ∀(m l:List α),(insAll lt l m).length≤l.length+m.length
 | [],l=>Nat.le_refl _
 |x::m,l=>by
  have h1:=insAll_len (lt:=lt) m (insS lt l x)
  have h2:=ins_len (lt:=lt) l x
  show (insAll lt (insS lt l x) m).length≤_
  rw [List.length_cons];omega
theorem can_short{k:KN}{inn:List Int}{n most:Nat}(hmo:1≤most){l:List (TR×ST)}(hl:closX k inn n most=some l):(canT (l.map (·.1))).length≤most:=by
 obtain ⟨_,h2,_⟩:=clos_all hmo hl
 have:=insAll_len (lt:=ltL) (l.map (·.1)) []
 rw [List.length_map,List.length_nil] at this
 unfold canT
 omega
theorem contains_law(k:KN)(hk:SmN k)(inn:List Int)(hi: ∀x,x∈inn→i32 x)(hil:inn.length≤35184372088832)(pk:List Int)(hp: ∀x,x∈pk→Go.Tp.u8 x)(hpl:pk.length≤281474976710656):Pure Tryz.prog gs0 3 [encN k,rowA inn,bytsA pk] (AB true):=by
 have hw:=works_p
 have npk:((pk.map AU8).length:Int)=pk.length:=by rw [List.length_map]
 have hpl':(pk.take 40).length≤40:=by rw [List.length_take];omega
 have hp': ∀x,x∈pk.take 40→Go.Tp.u8 x:=fun x h=>hp x (List.mem_of_mem_take h)
 by_cases hm:mayK k=true
 case neg=>
  have h1:=walk_no k hk (by simpa using hm) inn (pk.take 40)
  refine p_ tt_ok Tryz.func3 115 fun w0 h0 F hgs=>?_
  (repeat refine A.s rfl ?_)
  refine A.b rfl fun b3=>?_
  refine y_ ?_
  refine A.valE 21 rfl (x':=AI ((min pk.length 40:Nat):Int)) (ai_eq (cut_min npk)) ?_
  refine A.slice (ys:=(pk.take 40).map AU8) rfl rfl rfl rfl rfl rfl rfl rfl rfl (Int.le_refl 0) (by show (0:Int)≤((min pk.length 40:Nat):Int);omega) (by show ((min pk.length 40:Nat):Int)≤_;rw [npk];omega) (cut_take pk) rfl ?_
  refine y_ ?_
  refine n_ h1 ?_
  (refine b_ fun bx=>?_;refine y_ ?_)
  exact cr_ hw
 have h1:=walk_yes k hk hm inn hi hil (pk.take 40) hp' (by omega)
 have hwl:=walk_len ((pk.take 40).map Int.toNat) [] (startS k inn)
 rw [List.length_map,List.length_nil] at hwl
 have hgd:=walk_good ((pk.take 40).map Int.toNat) [] (startS k inn) (start_good hm hk.wf hk.root hi hil)
 have hok:=fun hu=>wk_ok hm hk hu hi hil ((pk.take 40).map Int.toNat)
 generalize (walkM [] (startS k inn) ((pk.take 40).map Int.toNat)).1=t at h1 hwl hok
 generalize (walkM [] (startS k inn) ((pk.take 40).map Int.toNat)).2=s at h1 hgd hok
 have nt:=trA_len t
 have ck1:=chk_val hm t.length
 have ck0:checkX k 0 60=if untR k.root=false then 8 else 0:=chk_val hm 0
 by_cases hu:untR k.root=true
 case neg=>
  have hu:untR k.root=false:=by simpa using hu
  rw [if_pos hu] at ck1 ck0
  have h2:=traces_no k hk inn (t.length:Nat) 60 (by rw [ck1];decide)
  rw [ck1] at h2
  have h3:=stuck_no k hk inn 60 (by rw [ck0];decide)
  rw [ck0] at h3
  refine p_ tt_ok Tryz.func3 115 fun w0 h0 F hgs=>?_
  (repeat refine A.s rfl ?_)
  refine A.b rfl fun b3=>?_
  refine y_ ?_
  refine A.valE 21 rfl (x':=AI ((min pk.length 40:Nat):Int)) (ai_eq (cut_min npk)) ?_
  refine A.slice (ys:=(pk.take 40).map AU8) rfl rfl rfl rfl rfl rfl rfl rfl rfl (Int.le_refl 0) (by show (0:Int)≤((min pk.length 40:Nat):Int);omega) (by show ((min pk.length 40:Nat):Int)≤_;rw [npk];omega) (cut_take pk) rfl ?_
  refine y_ ?_
  refine n_ h1 ?_
  (refine b_ fun bx=>?_;refine y_ ?_)
  refine A.valE 47 rfl (x':=AI (t.length:Nat)) (ai_eq nt) ?_
  refine c_ h2 ?_
  refine c_ h3 ?_
  exact cr_ hw
 rw [if_neg (by rw [hu];decide)] at ck1 ck0
 have hwk:=hok hu
 have h2:=traces_yes k hk t.length 60 (by omega) ck1 inn hi hil
 have hrc:reachM k inn 60=none∨ ∃l2,reachM k inn 60=some l2:=by
  cases reachM k inn 60 with
  |none=>exact .inl rfl
  |some l=>exact .inr ⟨l,rfl⟩
 cases hcl:closX k inn t.length 60 with
 |none=>
  rw [hcl] at h2
  refine p_ tt_ok Tryz.func3 115 fun w0 h0 F hgs=>?_
  (repeat refine A.s rfl ?_)
  refine A.b rfl fun b3=>?_
  refine y_ ?_
  refine A.valE 21 rfl (x':=AI ((min pk.length 40:Nat):Int)) (ai_eq (cut_min npk)) ?_
  refine A.slice (ys:=(pk.take 40).map AU8) rfl rfl rfl rfl rfl rfl rfl rfl rfl (Int.le_refl 0) (by show (0:Int)≤((min pk.length 40:Nat):Int);omega) (by show ((min pk.length 40:Nat):Int)≤_;rw [npk];omega) (cut_take pk) rfl ?_
  refine y_ ?_
  refine n_ h1 ?_
  (refine b_ fun bx=>?_;refine y_ ?_)
  refine A.valE 47 rfl (x':=AI (t.length:Nat)) (ai_eq nt) ?_
  refine c_ h2 ?_
  rcases hrc with hr|hr
  ·have h3:=stuck_full k hk 60 ck0 inn hi hil hr
   refine c_ h3 ?_
   exact cr_ hw
  ·refine Exists.elim hr fun l2 hr=>?_
   have h3:=stuck_yes k hk 60 ck0 inn hi hil l2 hr
   have hd:=sdone_p s hgd.sms.root
   have hmv:=movesG_p k s hgd
   have nm:((movsA (movesM s)).length:Int)=(realM s).length+1:=by rw [List.length_map,moves_pos];omega
   have hml:=steps_len hgd
   refine c_ h3 ?_
   refine n_ hd ?_
   by_cases hdo:doneR s.root=true
   ·refine e_ 81 rfl (x':=AB true) (by rw [hdo]) ?_
    exact cr_ hw
   ·refine e_ 81 rfl (x':=AB false) (ab_eq (by simpa using hdo)) ?_
    refine n_ hmv ?_
    refine A.s rfl ?_
    refine A.s rfl ?_
    by_cases hemp:realM s=[]
    ·refine A.valE 88 rfl (x':=AB true) (ab_eq (by rw [nm,hemp];rfl)) ?_
     have hb:badS s=true:=by unfold badS;rw [hemp];simpa using hdo
     refine Exists.elim (hwk.stuck hr hb) fun b hb'=>?_
     obtain ⟨hb1,hb2⟩:=hb'
     have hbl:=leB_len hb2
     have nb:=trA_len b
     have hls:=rless_p t b (by omega)
     have hlt:b.length=t.length→ltL t b=false:=fun he=>by
      unfold leB at hb2
      cases hx:ltL t b with
      |false=>rfl
      |true=>rw [ltB_iff.2 (.inr ⟨he.symm,hx⟩)] at hb2;cases hb2
     refine A.valE 15 rfl (x':=AB true) (by rw [hb1];rfl) ?_
     refine e_ 14 rfl (x':=trA b) (by rw [hb1];rfl) ?_
     refine e_ 101 rfl (x':=AB false) (ab_eq (by show decide (((t.map evA).length:Int)<((b.map evA).length:Int))=false;rw [nb,nt,decide_eq_false_iff_not];omega)) ?_
     by_cases he:b.length=t.length
     ·rw [hlt he] at hls
      refine e_ 107 rfl (x':=AB true) (ab_eq (by rw [nb,nt,he];simp)) ?_
      refine c_ hls ?_
      exact cr_ hw
     ·refine e_ 107 rfl (x':=AB false) (ab_eq (by rw [nb,nt,beq_eq_false_iff_ne];omega)) ?_
      exact cr_ hw
    ·have hpos:=List.length_pos_iff.2 hemp
     refine e_ 88 rfl (x':=AB false) (ab_eq (by rw [nm,beq_eq_false_iff_ne];omega)) ?_
     exact cr_ hw
 |some l=>
  rw [hcl] at h2
  have htin:=hwk.found (by decide) hcl (Nat.le_refl _)
  have htl:=can_len (by decide) hcl
  have hts:=can_short (by decide) hcl
  dsimp only at h2
  generalize canT (l.map (·.1))=ts at h2 htin htl hts
  have nts:((ts.map trA).length:Int)=ts.length:=by rw [List.length_map]
  refine p_ tt_ok Tryz.func3 115 fun w0 h0 F hgs=>?_
  (repeat refine A.s rfl ?_)
  refine A.b rfl fun b3=>?_
  refine y_ ?_
  refine A.valE 21 rfl (x':=AI ((min pk.length 40:Nat):Int)) (ai_eq (cut_min npk)) ?_
  refine A.slice (ys:=(pk.take 40).map AU8) rfl rfl rfl rfl rfl rfl rfl rfl rfl (Int.le_refl 0) (by show (0:Int)≤((min pk.length 40:Nat):Int);omega) (by show ((min pk.length 40:Nat):Int)≤_;rw [npk];omega) (cut_take pk) rfl ?_
  refine y_ ?_
  refine n_ h1 ?_
  (repeat refine A.s rfl ?_)
  refine A.b rfl fun b8=>?_
  refine y_ ?_
  refine A.valE 47 rfl (x':=AI (t.length:Nat)) (ai_eq nt) ?_
  refine c_ h2 ?_
  refine A.valE 54 rfl (x':=AI (ts.length:Nat)) (ai_eq nts) ?_
  refine A.keep [1,3,7,8,10,12,54,55] rfl ?_
  refine A.loopP (ι:=Nat) (fun i=>(⟨[(1,rowA inn),(3,ptrA b3),(7,trA t),(8,ptrA b8),(10,tsA ts),(12,AB (decide (t∈ts.take i))),(54,AI (ts.length:Nat)),(55,AI (i:Nat))],[]⟩,[.box b8 (encST s), .box b3 (encN k)])) (fun i=>i≤ts.length) (fun i=>ts.length-i) 0 (Nat.zero_le _) rfl fun i hi1 ih=>?_
  refine y_ ?_
  refine k_ (fun hc=>?_) fun hc=>?_
  ·have hci:i<ts.length:=by simpa using hc
   clear hc
   refine Exists.elim (at_exN (l:=ts) (i:=i) hci) fun x hx=>?_
   have hxl:=htl x (List.mem_of_getElem? hx)
   have hs:=rtsame_p x t (by omega) (by omega)
   have htk:ts.take (i+1)=ts.take i++[x]:=by rw [List.take_add_one,hx];rfl
   by_cases hf:t∈ts.take i
   ·refine e_ 12 rfl (x':=AB true) (by rw [decide_eq_true hf]) ?_
    refine A.valE 55 rfl (x':=AI ((i+1:Nat):Int)) (inc_eq i (by omega)) ?_
    refine A.valE 12 rfl (x':=AB (decide (t∈ts.take (i+1)))) (by rw [decide_eq_true (show t∈ts.take (i+1) by rw [htk];exact List.mem_append_left _ hf)]) ?_
    refine u_ (ih (i+1) (by omega) (by omega))
   ·refine e_ 12 rfl (x':=AB false) (by rw [decide_eq_false hf]) ?_
    refine i_ rfl (map_at hx) rfl ?_
    refine c_ hs ?_
    refine A.valE 55 rfl (x':=AI ((i+1:Nat):Int)) (inc_eq i (by omega)) ?_
    refine A.valE 12 rfl (x':=AB (decide (t∈ts.take (i+1)))) (ab_eq (show decide (x=t)=_ from by rw [htk,Bool.eq_iff_iff,decide_eq_true_eq,decide_eq_true_eq,List.mem_append,List.mem_singleton];exact ⟨fun e=> .inr e.symm,fun e=>e.elim (fun h=>absurd h hf) fun e=>e.symm⟩)) ?_
    refine u_ (ih (i+1) (by omega) (by omega))
  have hci: ¬i<ts.length:=by simpa using hc
  clear hc ih
  refine e_ 12 rfl (x':=AB true) (by rw [List.take_of_length_le (by omega),decide_eq_true htin]) ?_
  rcases hrc with hr|hr
  ·have h3:=stuck_full k hk 60 ck0 inn hi hil hr
   refine c_ h3 ?_
   exact cr_ hw
  ·refine Exists.elim hr fun l2 hr=>?_
   have h3:=stuck_yes k hk 60 ck0 inn hi hil l2 hr
   have hd:=sdone_p s hgd.sms.root
   have hmv:=movesG_p k s hgd
   have nm:((movsA (movesM s)).length:Int)=(realM s).length+1:=by rw [List.length_map,moves_pos];omega
   have hml:=steps_len hgd
   refine c_ h3 ?_
   refine n_ hd ?_
   by_cases hdo:doneR s.root=true
   ·refine e_ 81 rfl (x':=AB true) (by rw [hdo]) ?_
    exact cr_ hw
   ·refine e_ 81 rfl (x':=AB false) (ab_eq (by simpa using hdo)) ?_
    refine n_ hmv ?_
    refine A.s rfl ?_
    refine A.s rfl ?_
    by_cases hemp:realM s=[]
    ·refine A.valE 88 rfl (x':=AB true) (ab_eq (by rw [nm,hemp];rfl)) ?_
     have hb:badS s=true:=by unfold badS;rw [hemp];simpa using hdo
     refine Exists.elim (hwk.stuck hr hb) fun b hb'=>?_
     obtain ⟨hb1,hb2⟩:=hb'
     have hbl:=leB_len hb2
     have nb:=trA_len b
     have hls:=rless_p t b (by omega)
     have hlt:b.length=t.length→ltL t b=false:=fun he=>by
      unfold leB at hb2
      cases hx:ltL t b with
      |false=>rfl
      |true=>rw [ltB_iff.2 (.inr ⟨he.symm,hx⟩)] at hb2;cases hb2
     refine A.valE 15 rfl (x':=AB true) (by rw [hb1];rfl) ?_
     refine e_ 14 rfl (x':=trA b) (by rw [hb1];rfl) ?_
     refine e_ 101 rfl (x':=AB false) (ab_eq (by show decide (((t.map evA).length:Int)<((b.map evA).length:Int))=false;rw [nb,nt,decide_eq_false_iff_not];omega)) ?_
     by_cases he:b.length=t.length
     ·rw [hlt he] at hls
      refine e_ 107 rfl (x':=AB true) (ab_eq (by rw [nb,nt,he];simp)) ?_
      refine c_ hls ?_
      exact cr_ hw
     ·refine e_ 107 rfl (x':=AB false) (ab_eq (by rw [nb,nt,beq_eq_false_iff_ne];omega)) ?_
      exact cr_ hw
    ·have hpos:=List.length_pos_iff.2 hemp
     refine e_ 88 rfl (x':=AB false) (ab_eq (by rw [nm,beq_eq_false_iff_ne];omega)) ?_
     exact cr_ hw
end Go.Proofs.YtpcloejpklkieaaGreat
