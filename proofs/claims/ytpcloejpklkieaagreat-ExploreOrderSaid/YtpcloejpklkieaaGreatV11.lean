/-
  Texts Q20n. Conditions: as each theorem says.
-/
import Derived.Test.YtpcloejpklkieaaGreatV3
import Derived.Test.YtpcloejpklkieaaGreatV10
set_option linter.unusedVariables false
set_option linter.unusedSimpArgs false
set_option maxRecDepth 100000
set_option maxHeartbeats 4000000
namespace Go.Proofs.YtpcloejpklkieaaGreat
open Go Go.Tp
theorem stuck_law(k:KN)(hk:SmN k)(inn:List Int)(hi: ∀x,x∈inn→i32 x)(hil:inn.length≤35184372088832)(pk:List Int)(hp: ∀x,x∈pk→Go.Tp.u8 x)(hpl:pk.length≤281474976710656):Pure Tryz.prog gs0 5 [encN k,rowA inn,bytsA pk] (AB true):=by
 have hw:=works_p
 have npk:((pk.map AU8).length:Int)=pk.length:=by rw [List.length_map]
 have hpl':(pk.take 40).length≤40:=by rw [List.length_take];omega
 have hp': ∀x,x∈pk.take 40→Go.Tp.u8 x:=fun x h=>hp x (List.mem_of_mem_take h)
 by_cases hc0:checkX k 0 60=0
 case neg=>
  have h1:=stuck_no k hk inn 60 hc0
  generalize checkX k 0 60=e at h1 hc0
  refine p_ tt_ok Tryz.func5 100 fun w0 h0 F hgs=>?_
  (repeat refine A.s rfl ?_)
  refine A.b rfl fun b3=>?_
  refine y_ ?_
  refine A.valE 20 rfl (x':=AI ((min pk.length 40:Nat):Int)) (ai_eq (cut_min npk)) ?_
  refine A.slice (ys:=(pk.take 40).map AU8) rfl rfl rfl rfl rfl rfl rfl rfl rfl (Int.le_refl 0) (by show (0:Int)≤((min pk.length 40:Nat):Int);omega) (by show ((min pk.length 40:Nat):Int)≤_;rw [npk];omega) (cut_take pk) rfl ?_
  refine y_ ?_
  refine c_ h1 ?_
  refine T_ rfl (bne_iff_ne.2 hc0) ?_
  exact cr_ hw
 obtain ⟨⟨hm,_,_,hu⟩,_⟩:=chk0 hc0
 cases hr:reachM k inn 60 with
 |none=>
  have h1:=stuck_full k hk 60 hc0 inn hi hil hr
  refine p_ tt_ok Tryz.func5 100 fun w0 h0 F hgs=>?_
  (repeat refine A.s rfl ?_)
  refine A.b rfl fun b3=>?_
  refine y_ ?_
  refine A.valE 20 rfl (x':=AI ((min pk.length 40:Nat):Int)) (ai_eq (cut_min npk)) ?_
  refine A.slice (ys:=(pk.take 40).map AU8) rfl rfl rfl rfl rfl rfl rfl rfl rfl (Int.le_refl 0) (by show (0:Int)≤((min pk.length 40:Nat):Int);omega) (by show ((min pk.length 40:Nat):Int)≤_;rw [npk];omega) (cut_take pk) rfl ?_
  refine y_ ?_
  refine c_ h1 ?_
  exact cr_ hw
 |some l2=>
  have h1:=stuck_yes k hk 60 hc0 inn hi hil l2 hr
  obtain ⟨hb1,hb2⟩:=stuck_plain badS hr
  cases hs:stuckM badS l2 with
  |none=>
   rw [hs] at h1
   have h2:=walk_yes k hk hm inn hi hil (pk.take 40) hp' (by omega)
   have hok:=wk_ok hm hk hu hi hil ((pk.take 40).map Int.toNat)
   have hgd:=hok.sk.good
   have hnb:badS (walkM [] (startS k inn) ((pk.take 40).map Int.toNat)).2=true→False:=fun hb=>by
    obtain ⟨b,e,_⟩:=hok.stuck hr hb
    rw [hs] at e;cases e
   clear hok
   generalize (walkM [] (startS k inn) ((pk.take 40).map Int.toNat)).1=t at h2
   generalize (walkM [] (startS k inn) ((pk.take 40).map Int.toNat)).2=s at h2 hgd hnb
   have hd:=sdone_p s hgd.sms.root
   have hmv:=movesG_p k s hgd
   have nm:((movsA (movesM s)).length:Int)=(realM s).length+1:=by rw [List.length_map,moves_pos];omega
   by_cases hdo:doneR s.root=true
   ·rw [hdo] at hd
    refine p_ tt_ok Tryz.func5 100 fun w0 h0 F hgs=>?_
    (repeat refine A.s rfl ?_)
    refine A.b rfl fun b3=>?_
    refine y_ ?_
    refine A.valE 20 rfl (x':=AI ((min pk.length 40:Nat):Int)) (ai_eq (cut_min npk)) ?_
    refine A.slice (ys:=(pk.take 40).map AU8) rfl rfl rfl rfl rfl rfl rfl rfl rfl (Int.le_refl 0) (by show (0:Int)≤((min pk.length 40:Nat):Int);omega) (by show ((min pk.length 40:Nat):Int)≤_;rw [npk];omega) (cut_take pk) rfl ?_
    refine y_ ?_
    refine c_ h1 ?_
    refine n_ h2 ?_
    (refine b_ fun bx=>?_;refine y_ ?_)
    refine c_ hd ?_
    exact cr_ hw
   ·have hdo:doneR s.root=false:=by simpa using hdo
    rw [hdo] at hd
    have hpos:0<(realM s).length:=by
     rcases Nat.eq_zero_or_pos (realM s).length with h|h
     ·exact (hnb (by unfold badS;rw [List.eq_nil_of_length_eq_zero h,hdo];rfl)).elim
     ·exact h
    refine p_ tt_ok Tryz.func5 100 fun w0 h0 F hgs=>?_
    (repeat refine A.s rfl ?_)
    refine A.b rfl fun b3=>?_
    refine y_ ?_
    refine A.valE 20 rfl (x':=AI ((min pk.length 40:Nat):Int)) (ai_eq (cut_min npk)) ?_
    refine A.slice (ys:=(pk.take 40).map AU8) rfl rfl rfl rfl rfl rfl rfl rfl rfl (Int.le_refl 0) (by show (0:Int)≤((min pk.length 40:Nat):Int);omega) (by show ((min pk.length 40:Nat):Int)≤_;rw [npk];omega) (cut_take pk) rfl ?_
    refine y_ ?_
    refine c_ h1 ?_
    refine n_ h2 ?_
    (refine b_ fun bx=>?_;refine y_ ?_)
    refine c_ hd ?_
    refine n_ hmv ?_
    refine A.s rfl ?_
    refine A.s rfl ?_
    refine e_ 94 rfl (x':=AB true) (ab_eq (by rw [nm,decide_eq_true_eq];omega)) ?_
    exact cr_ hw
  |some b=>
   rw [hs] at h1
   obtain ⟨sb,hwb,_⟩:=hb1 b hs
   have hbl:b.length≤61:=by
    obtain ⟨n,hn,_,rfl⟩:=(stuck_spec badS l2).1 b hs
    exact reach_tr hr n hn
   have nb:=trA_len b
   have ck1:=chk_val hm b.length
   rw [if_neg (by rw [hu];decide)] at ck1
   have h2:=traces_yes k hk b.length 60 (by omega) ck1 inn hi hil
   cases hcl:closX k inn b.length 60 with
   |none=>
    rw [hcl] at h2
    dsimp only at h2
    refine p_ tt_ok Tryz.func5 100 fun w0 h0 F hgs=>?_
    (repeat refine A.s rfl ?_)
    refine A.b rfl fun b3=>?_
    refine y_ ?_
    refine A.valE 20 rfl (x':=AI ((min pk.length 40:Nat):Int)) (ai_eq (cut_min npk)) ?_
    refine A.slice (ys:=(pk.take 40).map AU8) rfl rfl rfl rfl rfl rfl rfl rfl rfl (Int.le_refl 0) (by show (0:Int)≤((min pk.length 40:Nat):Int);omega) (by show ((min pk.length 40:Nat):Int)≤_;rw [npk];omega) (cut_take pk) rfl ?_
    refine y_ ?_
    refine c_ h1 ?_
    refine A.valE 46 rfl (x':=AI (b.length:Nat)) (ai_eq nb) ?_
    refine c_ h2 ?_
    refine A.loop1 ?_
    refine y_ ?_
    exact cr_ hw
   |some l=>
    rw [hcl] at h2
    dsimp only at h2
    have htin:b∈canT (l.map (·.1)):=by
     obtain ⟨_,_,h3⟩:=clos_all (by decide) hcl
     exact mem_canT.2 (List.mem_map.2 ⟨(b,sb),(h3 _).2 ⟨hwb,Nat.le_refl _⟩,rfl⟩)
    have htl:=can_len (by decide) hcl
    have hts:=can_short (by decide) hcl
    generalize canT (l.map (·.1))=ts at h2 htin htl hts
    have nts:((ts.map trA).length:Int)=ts.length:=by rw [List.length_map]
    refine p_ tt_ok Tryz.func5 100 fun w0 h0 F hgs=>?_
    (repeat refine A.s rfl ?_)
    refine A.b rfl fun b3=>?_
    refine y_ ?_
    refine A.valE 20 rfl (x':=AI ((min pk.length 40:Nat):Int)) (ai_eq (cut_min npk)) ?_
    refine A.slice (ys:=(pk.take 40).map AU8) rfl rfl rfl rfl rfl rfl rfl rfl rfl (Int.le_refl 0) (by show (0:Int)≤((min pk.length 40:Nat):Int);omega) (by show ((min pk.length 40:Nat):Int)≤_;rw [npk];omega) (cut_take pk) rfl ?_
    refine y_ ?_
    refine c_ h1 ?_
    refine A.valE 46 rfl (x':=AI (b.length:Nat)) (ai_eq nb) ?_
    refine c_ h2 ?_
    refine A.valE 53 rfl (x':=AI (ts.length:Nat)) (ai_eq nts) ?_
    refine A.keep [7,10,12,53,54] rfl ?_
    refine l_ (Λ':=[]) ?_
    refine A.loopP (ι:=Nat) (fun i=>(⟨[(7,trA b),(10,tsA ts),(12,AB (decide (b∈ts.take i))),(53,AI (ts.length:Nat)),(54,AI (i:Nat))],[]⟩,[])) (fun i=>i≤ts.length) (fun i=>ts.length-i) 0 (Nat.zero_le _) rfl fun i hi1 ih=>?_
    refine y_ ?_
    refine k_ (fun hc=>?_) fun hc=>?_
    ·have hci:i<ts.length:=by simpa using hc
     clear hc
     refine Exists.elim (at_exN (l:=ts) (i:=i) hci) fun x hx=>?_
     have hxl:=htl x (List.mem_of_getElem? hx)
     have hs:=rtsame_p x b (by omega) (by omega)
     have htk:ts.take (i+1)=ts.take i++[x]:=by rw [List.take_add_one,hx];rfl
     by_cases hf:b∈ts.take i
     ·refine e_ 12 rfl (x':=AB true) (by rw [decide_eq_true hf]) ?_
      refine A.valE 54 rfl (x':=AI ((i+1:Nat):Int)) (inc_eq i (by omega)) ?_
      refine A.valE 12 rfl (x':=AB (decide (b∈ts.take (i+1)))) (by rw [decide_eq_true (show b∈ts.take (i+1) by rw [htk];exact List.mem_append_left _ hf)]) ?_
      refine u_ (ih (i+1) (by omega) (by omega))
     ·refine e_ 12 rfl (x':=AB false) (by rw [decide_eq_false hf]) ?_
      refine i_ rfl (map_at hx) rfl ?_
      refine c_ hs ?_
      refine A.valE 54 rfl (x':=AI ((i+1:Nat):Int)) (inc_eq i (by omega)) ?_
      refine A.valE 12 rfl (x':=AB (decide (b∈ts.take (i+1)))) (ab_eq (show decide (x=b)=_ from by rw [htk,Bool.eq_iff_iff,decide_eq_true_eq,decide_eq_true_eq,List.mem_append,List.mem_singleton];exact ⟨fun e=> .inr e.symm,fun e=>e.elim (fun h=>absurd h hf) fun e=>e.symm⟩)) ?_
      refine u_ (ih (i+1) (by omega) (by omega))
    have hci: ¬i<ts.length:=by simpa using hc
    clear hc ih
    refine e_ 12 rfl (x':=AB true) (by rw [List.take_of_length_le (by omega),decide_eq_true htin]) ?_
    exact cr_ hw
end Go.Proofs.YtpcloejpklkieaaGreat
