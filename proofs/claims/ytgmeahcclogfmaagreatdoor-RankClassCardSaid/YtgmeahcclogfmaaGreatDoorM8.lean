/-
  Texts R23i R23g Q23g Q23h Q23i R23j, in one. Conditions: as each theorem says.
-/
import Derived.Test.YtgmeahcclogfmaaGreatDoorM7
import Derived.Test.YtgmeahcclogfmaaGreatDoorM4
import Derived.Test.YtgmeahcclogfmaaGreatDoorM6
/-!
  Chapter 23: Class, by the reference.
-/
namespace Go.Proofs.YtgmeahcclogfmaaGreatDoor
open Go Go.Tp
set_option linter.unusedVariables false
set_option linter.unusedSimpArgs false
set_option maxRecDepth 100000
set_option maxHeartbeats 4000000
def cycOk (k : KN) (p : PR) : Bool := (lastR p).kind == 13 && (oneW (lastR p) && (stepsW (lastR p)).all (goodS k))
theorem cyc_ok {k : KN} {p : PR} (h : cycOk k p = true) : cycP k p = (stepsW (lastR p)).map singleP := by
  simp only [cycOk, Bool.and_eq_true, beq_iff_eq] at h
  rw [cycP, cycW, if_pos h]
theorem cyc_not {k : KN} {p : PR} (h : cycOk k p = false) : cycP k p = [] := by
  rw [cycP, cycW, if_neg]
  intro hh
  rw [cycOk, hh.1, hh.2.1, hh.2.2] at h; cases h
def allOk (k : KN) (q : PR) : Bool := q.l.all (cycOk k)
def refB (k : KN) (q : PR) : Bool := allOk k q && (pairedB (restE k 0 q.l) && nmayB k.chans.length (netC k q))
def preE (k : KN) (i : Nat) (S : List PR) (j : Nat) : List EN := ((S.take j).map fun s => (singleP s).map (endOf i)).flatten
theorem preE_next {k : KN} {i : Nat} {S : List PR} {j : Nat} {s : PR} (hs : S[j]? = some s) : preE k i S (j + 1) = preE k i S j ++ (singleP s).map (endOf i) := by
  unfold preE
  rw [List.take_add_one, hs]
  simp
theorem preE_len {k : KN} {i : Nat} {S : List PR} (hS : ∀ s, s ∈ S → Good k s) (j : Nat) (hj : j ≤ 2048) : (preE k i S j).length ≤ 32768 := by
  have := flat_len (n := 16) (l := (S.take j).map fun s => (singleP s).map (endOf i)) fun x hx => by
    obtain ⟨s, hs, rfl⟩ := List.mem_map.1 hx
    rw [List.length_map]; exact single_16 (hS s (List.mem_of_mem_take hs))
  rw [List.length_map, List.length_take] at this
  unfold preE; omega
theorem rclass_no (k : KN) (q : PR) (m t : Bool) (hmt : (m && t) = false) (hlast : Pure Tryz.prog gsQ 17 [cellsR k.root, AU8 10] (.tp [cellsR q, AB t])) (hmay : Pure Tryz.prog gsQ 18 [encN k] (AB m)) :
    Pure Tryz.prog gsQ 7 [encN k] (classR k.chans.length (netC k q) false) := by
  cases m with
  | false =>
    refine Pure.of (S := tt) (fn := Tryz.f7) (n := 169) tt_ok Tryz.func7 rfl rfl rfl rfl fun w0 h0 F hgs => ?_
    (repeat first|refine A.s rfl ?_|refine A.r rfl rfl ?_|refine A.w rfl rfl ?_|refine A.b rfl fun bx=>?_)
    refine A.c rfl hlast .refl ?_
    (repeat first|refine A.s rfl ?_|refine A.r rfl rfl ?_|refine A.w rfl rfl ?_|refine A.b rfl fun bx=>?_)
    refine A.c rfl hmay .refl ?_
    (repeat first|refine A.s rfl ?_|refine A.r rfl rfl ?_|refine A.w rfl rfl ?_); refine A.retN (Λ' := []) rfl rfl (ResA.cell rfl rfl rfl (ResA.tmp rfl ResA.nil)) (List.nil_sublist _) ⟨?_, rfl⟩; exact Sb.tp (.cons (.ag (.cons .refl (.cons .nil .refl))) .refl)
  | true =>
    rw [Bool.true_and] at hmt
    subst hmt
    refine Pure.of (S := tt) (fn := Tryz.f7) (n := 169) tt_ok Tryz.func7 rfl rfl rfl rfl fun w0 h0 F hgs => ?_
    (repeat first|refine A.s rfl ?_|refine A.r rfl rfl ?_|refine A.w rfl rfl ?_|refine A.b rfl fun bx=>?_)
    refine A.c rfl hlast .refl ?_
    (repeat first|refine A.s rfl ?_|refine A.r rfl rfl ?_|refine A.w rfl rfl ?_|refine A.b rfl fun bx=>?_)
    refine A.c rfl hmay .refl ?_
    (repeat first|refine A.s rfl ?_|refine A.r rfl rfl ?_|refine A.w rfl rfl ?_); refine A.retN (Λ' := []) rfl rfl (ResA.cell rfl rfl rfl (ResA.tmp rfl ResA.nil)) (List.nil_sublist _) ⟨?_, rfl⟩; exact Sb.tp (.cons (.ag (.cons .refl (.cons .nil .refl))) .refl)
theorem rclass_yes (k : KN) (q : PR) (g : Good k q) (h10 : q.kind = 10) (h64 : k.chans.length ≤ 64) (hlast : Pure Tryz.prog gsQ 17 [cellsR k.root, AU8 10] (.tp [cellsR q, AB true])) (hmay : Pure Tryz.prog gsQ 18 [encN k] (AB true))
    (hsz : allOk k q = true → pairedB (restE k 0 q.l) = true → sizeN (netC k q) ≤ 1000)
    (R : AV) (hR : R = classR k.chans.length (netC k q) (refB k q)) : Pure Tryz.prog gsQ 7 [encN k] R := by
  have h16 := g.ten h10
  have hTl := rest_len (k := k) (l := q.l) 0 fun p hp => g.l hp
  have hbad : allOk k q = false → R = classR k.chans.length (netC k q) false := fun h => by rw [hR, refB, h, Bool.false_and]
  have hgood : allOk k q = true → R = classR k.chans.length (netC k q) (pairedB (restE k 0 q.l) && nmayB k.chans.length (netC k q)) := fun h => by rw [hR, refB, h, Bool.true_and]
  clear hR
  obtain ⟨T, hT⟩ : ∃ T, T = restE k 0 q.l := ⟨_, rfl⟩
  rw [← hT] at hgood hTl hsz
  have hpair := (paired_p T (by omega)).any (gs := gsQ)
  have hnet : (q.l.map fun p => procA (procC k p)) = (netC k q).map procA := by rw [netC, List.map_map]; rfl
  refine Pure.of (S := tt) (fn := Tryz.f7) (n := 169) tt_ok Tryz.func7 rfl rfl rfl rfl fun w0 h0 F hgs => ?_
  (repeat refine A.s rfl ?_)
  refine A.b rfl fun b1 => ?_
  refine A.b rfl fun b2 => ?_
  (repeat first|refine A.s rfl ?_|refine A.r rfl rfl ?_|refine A.w rfl rfl ?_|refine A.b rfl fun bx=>?_)
  refine A.c rfl hlast .refl ?_
  (repeat first|refine A.s rfl ?_|refine A.r rfl rfl ?_|refine A.w rfl rfl ?_|refine A.b rfl fun bx=>?_)
  refine A.c rfl hmay .refl ?_
  refine A.freeze 1 (sz := 11) rfl rfl rfl ?_
  refine A.freeze 4 (sz := 2) rfl rfl rfl ?_
  refine A.freeze 5 (sz := 8) rfl rfl rfl ?_
  (repeat refine A.s rfl ?_)
  refine A.b rfl fun b7 => ?_
  (repeat first|refine A.s rfl ?_|refine A.w rfl rfl ?_)
  refine A.boxAs (b := b7) (x' := .ag [AI (k.chans.length : Nat), .sl 1 [] (some (.slice none 0 0))]) (.refl _) (fun h y r => Rp_ag_imp (RpC_imp (fun _ r => by
    rwa [List.length_map] at r) (RpC_imp (fun _ r => nil_own 1 r) fun _ r => r)) y r) ?_
  refine hollow1 ty53.size ?_
  refine A.nilTail 8 ty75.size rfl ?_
  refine A.keep [1, 2, 4, 5, 7, 8, 9] rfl ?_
  refine A.loopP (ι := Nat × (List EN × (Value × Value))) (fun s => (⟨[(1, .pe 11 (encN k)), (2, .v (.pointer (some ⟨b2, 0, none⟩))), (4, .pe 2 (.ag [AI 0, .v (.slice none 0 0)])), (5, .pe 8 (cellsR q)), (7, .v (.pointer (some ⟨b7, 0, none⟩))), (8, .sl 4 (s.2.1.map endA) (some s.2.2.2)), (9, AI (s.1 : Nat))], []⟩, .tail ty75.size s.2.2.2 :: .tail ty53.size s.2.2.1 :: .box b7 (.ag [AI (k.chans.length : Nat), .sl 1 ((q.l.take s.1).map fun p => procA (procC k p)) (some s.2.2.1)]) :: .box b2 (.ag [AI 0, .v (.slice none 0 0)]) :: []))
    (fun s => s.1 ≤ q.l.length ∧ s.2.1 ++ restE k s.1 (q.l.drop s.1) = T ∧ (q.l.take s.1).all (cycOk k) = true) (fun s => q.l.length - s.1) (0, ([], (.slice none 0 0, .slice none 0 0))) ⟨Nat.zero_le _, hT.symm, rfl⟩ rfl fun s hi ih => ?_
  obtain ⟨i, E, zp, ze⟩ := s
  obtain ⟨hi1, hi2, hi3⟩ := hi
  simp only at hi1 hi2 hi3
  (repeat refine A.s rfl ?_)
  refine A.cond rfl (fun hc => ?_) (fun hc => ?_)
  · have hc : i < q.l.length := by have := hc; rw [encRl_len] at this; simpa using this
    refine Exists.elim (at_exN (l := q.l) (i := i) hc) fun p hp => ?_
    have gp : Good k p := g.l (List.mem_of_getElem? hp)
    have hl13 := (rlast_p p 13 (by decide) gp.len).any (gs := gsQ)
    have h1 : E ++ (endsP k i p ++ restE k (i + 1) (q.l.drop (i + 1))) = T := by have := hi2; rw [drop_at hp, restE] at this; exact this
    have hEl : E.length ≤ 524288 := by
      have := congrArg List.length h1
      rw [List.length_append] at this; omega
    have htk : q.l.take (i + 1) = q.l.take i ++ [p] := by rw [List.take_add_one, hp]; rfl
    have hno0 : cycOk k p = false → R = classR k.chans.length (netC k q) false := fun h => hbad (by
      cases ha : allOk k q with
      | false => rfl
      | true => rw [allOk, List.all_eq_true] at ha; rw [ha p (List.mem_of_getElem? hp)] at h; cases h)
    have hcok : cycOk k p = ((lastR p).kind == 13 && (oneW (lastR p) && (stepsW (lastR p)).all (goodS k))) := rfl
    have hcy := fun h => cyc_ok (k := k) (p := p) h
    have gl := gp.last
    refine Exists.elim (show ∃ pl, pl = lastR p from ⟨_, rfl⟩) fun pl hpl => ?_
    rw [← hpl] at hl13 hcok hcy gl
    refine Or.elim (Decidable.em (pl.kind = 13)) (fun h13 => ?_) (fun h13 => ?_)
    rotate_left
    · have hb : (pl.kind == 13) = false := beq_eq_false_iff_ne.2 h13
      rw [hno0 (by rw [hcok, hb]; rfl)]
      rw [hb] at hl13
      (repeat refine A.s rfl ?_)
      refine A.x rfl (by show (0 : Int) ≤ (i : Nat); omega) (encRl_at hp) (encR_eq p) rfl ?_
      (repeat refine A.s rfl ?_)
      refine A.c rfl hl13 .refl ?_
      (repeat first|refine A.s rfl ?_|refine A.w rfl rfl ?_|refine A.b rfl fun bx=>?_); refine A.retN (Λ' := []) rfl rfl (ResA.cell rfl rfl rfl (ResA.tmp rfl ResA.nil)) (List.nil_sublist _) ⟨?_, rfl⟩; exact Sb.tp (.cons (.ag (.cons .refl (.cons .nil .refl))) .refl)
    have hb : (pl.kind == 13) = true := beq_iff_eq.2 h13
    rw [hb] at hl13 hcok
    refine Exists.elim (kind_13 gl.kind h13) fun x h => Exists.elim h fun y h => ?_
    have gy : Good k y := gl.l (by rw [h.2]; exact List.mem_cons_self ..)
    have hx0 : (encKl pl.e)[(0 : Int).toNat]? = some (encK x) := encKl_at (by rw [h.1]; rfl)
    have hy0 : (encRl pl.l)[(0 : Int).toNat]? = some (encR y) := encRl_at (by rw [h.2]; rfl)
    have how : oneW pl = (x.kind == 1 && x.n == 1) := by unfold oneW; rw [h.1]
    have hsw : stepsW pl = if y.kind = 9 then y.l else pl.l := by unfold stepsW; rw [h.2]
    have hpl1 : pl.l = [y] := h.2
    have hsg := steps_good gl
    (repeat refine A.s rfl ?_)
    refine A.x rfl (by show (0 : Int) ≤ (i : Nat); omega) (encRl_at hp) (encR_eq p) rfl ?_
    (repeat refine A.s rfl ?_)
    refine A.c rfl hl13 .refl ?_
    (repeat first|refine A.s rfl ?_|refine A.r rfl rfl ?_|refine A.w rfl rfl ?_|refine A.b rfl fun bx=>?_)
    refine A.x rfl (by decide) hx0 (encK_eq x) rfl ?_
    (repeat refine A.s rfl ?_)
    ((fail_if_success (refine A.lit? rfl ?_)); refine A.gS rfl (fun hc => ?_) (fun hc => ?_))
    · have ha : (!(x.kind == 1)) = true := hc
      rw [hno0 (by rw [hcok, how, show (x.kind == 1) = false by simpa using ha]; rfl)]
      (repeat first|refine A.s rfl ?_|refine A.w rfl rfl ?_); refine A.retN (Λ' := []) rfl rfl (ResA.cell rfl rfl rfl (ResA.tmp rfl ResA.nil)) (List.nil_sublist _) ⟨?_, rfl⟩; exact Sb.tp (.cons (.ag (.cons .refl (.cons .nil .refl))) .refl)
    have ha : (x.kind == 1) = true := by have ha : (!(x.kind == 1)) = false := hc; simpa using ha
    (repeat first|refine A.s rfl ?_|refine A.r rfl rfl ?_)
    refine A.x rfl (by decide) hx0 (encK_eq x) rfl ?_
    (repeat refine A.s rfl ?_)
    refine A.cond rfl (fun hc => ?_) (fun hc => ?_)
    · have ha2 : (!(x.n == 1)) = true := hc
      rw [hno0 (by rw [hcok, how, ha, show (x.n == 1) = false by simpa using ha2]; rfl)]
      (repeat first|refine A.s rfl ?_|refine A.w rfl rfl ?_); refine A.retN (Λ' := []) rfl rfl (ResA.cell rfl rfl rfl (ResA.tmp rfl ResA.nil)) (List.nil_sublist _) ⟨?_, rfl⟩; exact Sb.tp (.cons (.ag (.cons .refl (.cons .nil .refl))) .refl)
    have ha2 : (x.n == 1) = true := by have ha2 : (!(x.n == 1)) = false := hc; simpa using ha2
    rw [ha, ha2, Bool.true_and] at how
    rw [how, Bool.true_and, Bool.true_and] at hcok
    have hno : (stepsW pl).all (goodS k) = false → R = classR k.chans.length (netC k q) false := fun h => hno0 (by rw [hcok, h])
    have hok : (stepsW pl).all (goodS k) = true → cycOk k p = true := fun h => by rw [hcok, h]
    have hyes : (stepsW pl).all (goodS k) = true → cycP k p = (stepsW pl).map singleP := fun h => hcy (hok h)
    have hS := hsg.1
    have hSl := hsg.2
    clear hcok hcy
    refine Exists.elim (show ∃ S, S = stepsW pl from ⟨_, rfl⟩) fun S hSS => ?_
    rw [← hSS] at hno hok hyes hS hSl hsw
    (repeat first|refine A.s rfl ?_|refine A.r rfl rfl ?_)
    refine A.x rfl (by decide) hy0 (encR_eq y) rfl ?_
    (repeat first|refine A.s rfl ?_|refine A.r rfl rfl ?_|refine A.t rfl fun bl=>?_)
    refine A.x rfl (by decide) hy0 (encR_eq y) rfl ?_
    (repeat refine A.s rfl ?_)
    refine A.cond rfl (fun hc => ?_) (fun hc => ?_)
    · have h9 : y.kind = 9 := by simpa using hc
      rw [if_pos h9] at hsw
      (repeat first|refine A.s rfl ?_|refine A.r rfl rfl ?_)
      refine A.x rfl (by decide) hy0 (encR_eq y) rfl ?_
      (repeat refine A.s rfl ?_)
      refine A.valE 12 rfl (x' := rsA S) (by rw [hsw]) ?_
      skip
      refine A.nilTail 13 ty32.size rfl ?_
      refine A.keep [1, 2, 4, 5, 7, 8, 9, 12, 13, 14] rfl ?_
      refine A.less (Λ' := .tail ty32.size (.slice none 0 0) :: .tail ty75.size ze :: .tail ty53.size zp :: .box b7 (.ag [AI (k.chans.length : Nat), .sl 1 ((q.l.take i).map fun p => procA (procC k p)) (some zp)]) :: .box b2 (.ag [AI 0, .v (.slice none 0 0)]) :: []) (by repeat (first | exact List.Sublist.refl _ | apply List.Sublist.cons_cons | apply List.Sublist.cons)) ?_
      refine A.loopP (ι := Nat × (Value × Value)) (fun s => (⟨[(1, .pe 11 (encN k)), (2, .v (.pointer (some ⟨b2, 0, none⟩))), (4, .pe 2 (.ag [AI 0, .v (.slice none 0 0)])), (5, .pe 8 (cellsR q)), (7, .v (.pointer (some ⟨b7, 0, none⟩))), (8, .sl 4 ((E ++ preE k i S s.1).map endA) (some s.2.2)), (9, AI (i : Nat)), (12, rsA S), (13, .sl 1 ((S.take s.1).map fun s => rowI ((singleP s).map (·.c))) (some s.2.1)), (14, AI (s.1 : Nat))], []⟩, .tail ty32.size s.2.1 :: .tail ty75.size s.2.2 :: .tail ty53.size zp :: .box b7 (.ag [AI (k.chans.length : Nat), .sl 1 ((q.l.take i).map fun p => procA (procC k p)) (some zp)]) :: .box b2 (.ag [AI 0, .v (.slice none 0 0)]) :: []))
        (fun s => s.1 ≤ S.length ∧ (S.take s.1).all (goodS k) = true) (fun s => S.length - s.1) (0, (.slice none 0 0, ze)) ⟨Nat.zero_le _, rfl⟩ (by rw [show preE k i S 0 = [] from rfl, List.append_nil]; rfl) fun s hj jh => ?_
      obtain ⟨j, z13, ze1⟩ := s
      obtain ⟨hj1, hj2⟩ := hj
      simp only at hj1 hj2
      (repeat refine A.s rfl ?_)
      refine A.cond rfl (fun hc => ?_) (fun hc => ?_)
      · have hc : j < S.length := by have := hc; rw [encRl_len] at this; simpa using this
        refine Exists.elim (at_exN (l := S) (i := j) hc) fun s hs => ?_
        have gs1 := hS s (List.mem_of_getElem? hs)
        have hsing := (rsingle_p s gs1.len).any (gs := gsQ)
        have h16 := single_16 gs1
        have hpn := preE_next (k := k) (i := i) hs
        have htk : S.take (j + 1) = S.take j ++ [s] := by rw [List.take_add_one, hs]; rfl
        have hpl := preE_len (i := i) hS j (by omega)
        have hbad : goodS k s = false → R = classR k.chans.length (netC k q) false := fun h => hno (by
          cases ha : S.all (goodS k) with
          | false => rfl
          | true => rw [List.all_eq_true] at ha; rw [ha s (List.mem_of_getElem? hs)] at h; cases h)
        have hgsm : ∀ x, x ∈ singleP s → Good k x ∧ (x.kind = 5 ∨ x.kind = 6) := fun x hx => ⟨stepL_good gs1 (single_mem hx).1, (badq_no (single_mem hx).2).1⟩
        have hgd : goodS k s = (!(singleP s).isEmpty && (singleP s).all (safeB k.vars)) := rfl
        refine Exists.elim (show ∃ sm, sm = singleP s from ⟨_, rfl⟩) fun sm hsm => ?_
        rw [← hsm] at hsing h16 hpn hgsm hgd
        refine Or.elim (Nat.eq_zero_or_pos sm.length) (fun h0 => ?_) (fun h0 => ?_)
        · rw [hbad (by rw [hgd, List.length_eq_zero_iff.1 h0]; rfl)]
          rw [decide_eq_false (by omega)] at hsing
          (repeat refine A.s rfl ?_)
          refine A.x rfl (by show (0 : Int) ≤ (j : Nat); omega) (encRl_at hs) (encR_eq s) rfl ?_
          (repeat refine A.s rfl ?_)
          refine A.c rfl hsing .refl ?_
          (repeat first|refine A.s rfl ?_|refine A.w rfl rfl ?_); refine A.retN (Λ' := []) rfl rfl (ResA.cell rfl rfl rfl (ResA.tmp rfl ResA.nil)) (List.nil_sublist _) ⟨?_, rfl⟩; exact Sb.tp (.cons (.ag (.cons .refl (.cons .nil .refl))) .refl)
        rw [decide_eq_true h0] at hsing
        have hne : sm.isEmpty = false := by cases sm with
          | nil => simp at h0
          | cons a b => rfl
        rw [hne] at hgd
        (repeat refine A.s rfl ?_)
        refine A.x rfl (by show (0 : Int) ≤ (j : Nat); omega) (encRl_at hs) (encR_eq s) rfl ?_
        (repeat refine A.s rfl ?_)
        refine A.c rfl hsing .refl ?_
        (repeat refine A.s rfl ?_)
        refine A.nilTail 17 ty3.size rfl ?_
        refine A.keep [1, 2, 4, 5, 7, 8, 9, 12, 13, 14, 15, 17, 18] rfl ?_
        refine A.loopP (ι := Nat × (Value × Value)) (fun s => (⟨[(1, .pe 11 (encN k)), (2, .v (.pointer (some ⟨b2, 0, none⟩))), (4, .pe 2 (.ag [AI 0, .v (.slice none 0 0)])), (5, .pe 8 (cellsR q)), (7, .v (.pointer (some ⟨b7, 0, none⟩))), (8, .sl 4 ((E ++ preE k i S j ++ (sm.take s.1).map (endOf i)).map endA) (some s.2.2)), (9, AI (i : Nat)), (12, rsA S), (13, .sl 1 ((S.take j).map fun s => rowI ((singleP s).map (·.c))) (some z13)), (14, AI (j : Nat)), (15, rsA sm), (17, .sl 1 ((sm.take s.1).map fun x => AI x.c) (some s.2.1)), (18, AI (s.1 : Nat))], []⟩, .tail ty3.size s.2.1 :: .tail ty32.size z13 :: .tail ty75.size s.2.2 :: .tail ty53.size zp :: .box b7 (.ag [AI (k.chans.length : Nat), .sl 1 ((q.l.take i).map fun p => procA (procC k p)) (some zp)]) :: .box b2 (.ag [AI 0, .v (.slice none 0 0)]) :: []))
          (fun s => s.1 ≤ sm.length ∧ (sm.take s.1).all (safeB k.vars) = true) (fun s => sm.length - s.1) (0, (.slice none 0 0, ze1)) ⟨Nat.zero_le _, rfl⟩ (by rw [show (sm.take 0).map (endOf i) = [] from rfl, List.append_nil]; rfl) fun s hk kh => ?_
        obtain ⟨t, z17, ze2⟩ := s
        obtain ⟨hk1, hk2⟩ := hk
        simp only at hk1 hk2
        (repeat refine A.s rfl ?_)
        refine A.cond rfl (fun hc => ?_) (fun hc => ?_)
        · have hc : t < sm.length := by have := hc; rw [encRl_len] at this; simpa using this
          refine Exists.elim (at_exN (l := sm) (i := t) hc) fun x hx => ?_
          have hgx := hgsm x (List.mem_of_getElem? hx)
          have hsafe := rsafe_p k x hgx.1.wf hgx.1.kind hgx.2
          have htk2 : sm.take (t + 1) = sm.take t ++ [x] := by rw [List.take_add_one, hx]; rfl
          have hbad2 : safeB k.vars x = false → goodS k s = false := fun h => by
            rw [hgd]
            cases ha : sm.all (safeB k.vars) with
            | false => rfl
            | true => rw [List.all_eq_true] at ha; rw [ha x (List.mem_of_getElem? hx)] at h; cases h
          refine Exists.elim (show ∃ sb, sb = safeB k.vars x from ⟨_, rfl⟩) fun sb hsb => ?_
          rw [← hsb] at hsafe hbad2
          (repeat refine A.s rfl ?_)
          refine A.draw 5 [0, 1, 2, 3, 4] noPubs [] (by kernel_rfl) (by kernel_rfl) ?_
          (repeat refine WA.s rfl ?_)
          refine WA.x rfl (by show (0 : Int) ≤ (t : Nat); omega) (encRl_at hx) (encR_eq x) rfl ?_
          (repeat refine WA.s rfl ?_)
          refine WA.nil (l := []) rfl ?_
          skip
          cases sb with
          | false =>
            rw [hbad (hbad2 rfl)]
            refine A.c rfl hsafe .refl ?_
            (repeat first|refine A.s rfl ?_|refine A.w rfl rfl ?_); refine A.retN (Λ' := []) rfl rfl (ResA.cell rfl rfl rfl (ResA.tmp rfl ResA.nil)) (List.nil_sublist _) ⟨?_, rfl⟩; exact Sb.tp (.cons (.ag (.cons .refl (.cons .nil .refl))) .refl)
          | true =>
          refine A.c rfl hsafe .refl ?_
          (repeat refine A.s rfl ?_)
          refine A.x rfl (by show (0 : Int) ≤ (t : Nat); omega) (encRl_at hx) (encR_eq x) rfl ?_
          (repeat first|refine A.s rfl ?_|refine A.t rfl fun bl=>?_)
          refine A.append rfl rfl rfl rfl rfl rfl rfl rfl rfl rfl rfl rfl rfl rfl (by show (((sm.take t).map fun x => AI x.c).length + 1) * 1 ≤ _; rw [List.length_map, List.length_take]; omega) fun z17' => ?_
          (repeat refine A.s rfl ?_)
          refine A.valE 17 rfl (x' := .sl 1 ((sm.take (t + 1)).map fun x => AI x.c) (some z17')) (by rw [htk2]; simp only [List.map_append, List.map_cons, List.map_nil]; rfl) ?_
          refine A.draw 20 [0, 1, 2, 3, 4, 5, 6, 7, 8, 9, 10, 11, 12, 13, 14, 15, 16, 17, 18, 19] noPubs [] (by kernel_rfl) (by kernel_rfl) ?_
          (repeat refine WA.s rfl ?_)
          refine WA.x rfl (by show (0 : Int) ≤ (t : Nat); omega) (encRl_at hx) (encR_eq x) rfl ?_
          (repeat refine WA.s rfl ?_)
          refine WA.x rfl (by show (0 : Int) ≤ (t : Nat); omega) (encRl_at hx) (encR_eq x) rfl ?_
          (repeat refine WA.s rfl ?_)
          refine WA.x rfl (by show (0 : Int) ≤ (t : Nat); omega) (encRl_at hx) (encR_eq x) rfl ?_
          (repeat refine WA.s rfl ?_)
          refine WA.lit rfl rfl rfl rfl rfl rfl rfl fun bw => ?_
          refine WA.nil (l := [.row 4 (.slice (some ⟨bw, 0, none⟩) 1 1) [endA (endOf i x)]]) rfl ?_
          refine A.freezeRow 147 rfl ?_
          refine A.append rfl rfl rfl rfl rfl rfl rfl rfl rfl rfl rfl rfl rfl rfl (by show (((E ++ preE k i S j ++ (sm.take t).map (endOf i)).map endA).length + 1) * 4 ≤ _; rw [List.length_map, List.length_append, List.length_append, List.length_map, List.length_take]; omega) fun ze2' => ?_
          (repeat refine A.s rfl ?_)
          refine A.valE 8 rfl (x' := .sl 4 ((E ++ preE k i S j ++ (sm.take (t + 1)).map (endOf i)).map endA) (some ze2')) (by rw [htk2]; simp only [List.map_append, List.map_cons, List.map_nil, List.append_assoc]; rfl) ?_
          skip
          refine A.valE 18 rfl (x' := AI ((t + 1 : Nat) : Int)) (inc_eq t (by omega)) ?_
          refine A.perm (.swap _ _ _) ?_
          refine A.perm (.cons _ (.swap _ _ _)) ?_
          refine A.sub (by repeat (first | exact trivial | refine ⟨⟨_, rfl, .refl⟩, ?_⟩)) (kh (t + 1, (z17', ze2')) ⟨by show t + 1 ≤ _; omega, by show (sm.take (t + 1)).all _ = true; rw [htk2, List.all_append, hk2, List.all_cons, List.all_nil, ← hsb]; rfl⟩ (by show _ - (t + 1) < _ - t; omega))
        have hc : ¬ t < sm.length := by have := hc; rw [encRl_len] at this; simpa using this
        have htl : t = sm.length := by omega
        rw [htl, List.take_length] at hk2
        refine A.val 17 rfl .own1 ?_
        refine A.valE 17 rfl (x' := rowI (sm.map (·.c))) (by rw [htl, List.take_length]; show _ = AV.sl 1 ((sm.map (·.c)).map AI) none; rw [List.map_map]; rfl) ?_
        refine A.valE 8 rfl (x' := .sl 4 ((E ++ preE k i S (j + 1)).map endA) (some ze2)) (by rw [htl, List.take_length, hpn, List.append_assoc]) ?_
        (repeat first|refine A.s rfl ?_|refine A.t rfl fun bl=>?_)
        refine A.append rfl rfl rfl rfl rfl rfl rfl rfl rfl rfl rfl rfl rfl rfl (by show (((S.take j).map fun s => rowI ((singleP s).map (·.c))).length + 1) * 1 ≤ _; rw [List.length_map, List.length_take]; omega) fun z13' => ?_
        (repeat refine A.s rfl ?_)
        refine A.valE 13 rfl (x' := .sl 1 ((S.take (j + 1)).map fun s => rowI ((singleP s).map (·.c))) (some z13')) (by rw [htk]; simp only [List.map_append, List.map_cons, List.map_nil, ← hsm]; rfl) ?_
        skip
        refine A.less (.cons_cons _ (.cons _ (.refl _))) ?_
        refine A.valE 14 rfl (x' := AI ((j + 1 : Nat) : Int)) (inc_eq j (by omega)) ?_
        refine A.sub (by repeat (first | exact trivial | refine ⟨⟨_, rfl, .refl⟩, ?_⟩)) (jh (j + 1, (z13', ze2)) ⟨by show j + 1 ≤ _; omega, by show (S.take (j + 1)).all _ = true; rw [htk, List.all_append, hj2, List.all_cons, List.all_nil, hgd, hk2]; rfl⟩ (by show _ - (j + 1) < _ - j; omega))
      have hc : ¬ j < S.length := by have := hc; rw [encRl_len] at this; simpa using this
      have hjl : j = S.length := by omega
      rw [hjl, List.take_length] at hj2
      have hC := hyes hj2
      have hE1 : (E ++ preE k i S j) ++ restE k (i + 1) (q.l.drop (i + 1)) = T := by
        rw [← h1, endsP, hC, preE, hjl, List.take_length, List.map_map, List.append_assoc]; rfl
      refine A.val 13 rfl .own1 ?_
      refine A.valE 13 rfl (x' := procA (procC k p)) (by rw [hjl, List.take_length, procC, hC, List.map_map]; show _ = AV.sl 1 (List.map rowI _) none; rw [List.map_map]; rfl) ?_
      (repeat first|refine A.s rfl ?_|refine A.r rfl rfl ?_|refine A.t rfl fun bl=>?_)
      refine A.append rfl rfl rfl rfl rfl rfl rfl rfl rfl rfl rfl rfl rfl rfl (by show (((q.l.take i).map fun p => procA (procC k p)).length + 1) * 1 ≤ _; rw [List.length_map, List.length_take]; omega) fun zp' => ?_
      refine A.valE 157 rfl (x' := .sl 1 ((q.l.take (i + 1)).map fun p => procA (procC k p)) (some zp')) (by rw [htk]; simp only [List.map_append, List.map_cons, List.map_nil]; rfl) ?_
      (repeat first|refine A.s rfl ?_|refine A.w rfl rfl ?_)
      refine A.less (.cons_cons _ (.cons _ (.refl _))) ?_
      refine A.perm (.swap _ _ _) ?_
      refine A.valE 9 rfl (x' := AI ((i + 1 : Nat) : Int)) (inc_eq i (by omega)) ?_
      refine A.sub (by repeat (first | exact trivial | refine ⟨⟨_, rfl, .refl⟩, ?_⟩)) (ih (i + 1, (E ++ preE k i S j, (zp', ze1))) ⟨by show i + 1 ≤ _; omega, hE1, by show (q.l.take (i + 1)).all (cycOk k) = true; rw [htk, List.all_append, hi3, List.all_cons, List.all_nil, hok hj2]; rfl⟩ (by show _ - (i + 1) < _ - i; omega))
    · have h9 : ¬ y.kind = 9 := by simpa using hc
      rw [if_neg h9, hpl1] at hsw
      refine A.val 12 rfl .own1 ?_
      refine A.valE 12 rfl (x' := rsA S) (by rw [hsw]; show AV.sl 8 [cellsR y] none = AV.sl 8 (encRl [y]) none; rw [encRl_one]) ?_
      (repeat refine A.s rfl ?_)
      refine A.nilTail 13 ty32.size rfl ?_
      refine A.keep [1, 2, 4, 5, 7, 8, 9, 12, 13, 14] rfl ?_
      refine A.less (Λ' := .tail ty32.size (.slice none 0 0) :: .tail ty75.size ze :: .tail ty53.size zp :: .box b7 (.ag [AI (k.chans.length : Nat), .sl 1 ((q.l.take i).map fun p => procA (procC k p)) (some zp)]) :: .box b2 (.ag [AI 0, .v (.slice none 0 0)]) :: []) (by repeat (first | exact List.Sublist.refl _ | apply List.Sublist.cons_cons | apply List.Sublist.cons)) ?_
      refine A.loopP (ι := Nat × (Value × Value)) (fun s => (⟨[(1, .pe 11 (encN k)), (2, .v (.pointer (some ⟨b2, 0, none⟩))), (4, .pe 2 (.ag [AI 0, .v (.slice none 0 0)])), (5, .pe 8 (cellsR q)), (7, .v (.pointer (some ⟨b7, 0, none⟩))), (8, .sl 4 ((E ++ preE k i S s.1).map endA) (some s.2.2)), (9, AI (i : Nat)), (12, rsA S), (13, .sl 1 ((S.take s.1).map fun s => rowI ((singleP s).map (·.c))) (some s.2.1)), (14, AI (s.1 : Nat))], []⟩, .tail ty32.size s.2.1 :: .tail ty75.size s.2.2 :: .tail ty53.size zp :: .box b7 (.ag [AI (k.chans.length : Nat), .sl 1 ((q.l.take i).map fun p => procA (procC k p)) (some zp)]) :: .box b2 (.ag [AI 0, .v (.slice none 0 0)]) :: []))
        (fun s => s.1 ≤ S.length ∧ (S.take s.1).all (goodS k) = true) (fun s => S.length - s.1) (0, (.slice none 0 0, ze)) ⟨Nat.zero_le _, rfl⟩ (by rw [show preE k i S 0 = [] from rfl, List.append_nil]; rfl) fun s hj jh => ?_
      obtain ⟨j, z13, ze1⟩ := s
      obtain ⟨hj1, hj2⟩ := hj
      simp only at hj1 hj2
      (repeat refine A.s rfl ?_)
      refine A.cond rfl (fun hc => ?_) (fun hc => ?_)
      · have hc : j < S.length := by have := hc; rw [encRl_len] at this; simpa using this
        refine Exists.elim (at_exN (l := S) (i := j) hc) fun s hs => ?_
        have gs1 := hS s (List.mem_of_getElem? hs)
        have hsing := (rsingle_p s gs1.len).any (gs := gsQ)
        have h16 := single_16 gs1
        have hpn := preE_next (k := k) (i := i) hs
        have htk : S.take (j + 1) = S.take j ++ [s] := by rw [List.take_add_one, hs]; rfl
        have hpl := preE_len (i := i) hS j (by omega)
        have hbad : goodS k s = false → R = classR k.chans.length (netC k q) false := fun h => hno (by
          cases ha : S.all (goodS k) with
          | false => rfl
          | true => rw [List.all_eq_true] at ha; rw [ha s (List.mem_of_getElem? hs)] at h; cases h)
        have hgsm : ∀ x, x ∈ singleP s → Good k x ∧ (x.kind = 5 ∨ x.kind = 6) := fun x hx => ⟨stepL_good gs1 (single_mem hx).1, (badq_no (single_mem hx).2).1⟩
        have hgd : goodS k s = (!(singleP s).isEmpty && (singleP s).all (safeB k.vars)) := rfl
        refine Exists.elim (show ∃ sm, sm = singleP s from ⟨_, rfl⟩) fun sm hsm => ?_
        rw [← hsm] at hsing h16 hpn hgsm hgd
        refine Or.elim (Nat.eq_zero_or_pos sm.length) (fun h0 => ?_) (fun h0 => ?_)
        · rw [hbad (by rw [hgd, List.length_eq_zero_iff.1 h0]; rfl)]
          rw [decide_eq_false (by omega)] at hsing
          (repeat refine A.s rfl ?_)
          refine A.x rfl (by show (0 : Int) ≤ (j : Nat); omega) (encRl_at hs) (encR_eq s) rfl ?_
          (repeat refine A.s rfl ?_)
          refine A.c rfl hsing .refl ?_
          (repeat first|refine A.s rfl ?_|refine A.w rfl rfl ?_); refine A.retN (Λ' := []) rfl rfl (ResA.cell rfl rfl rfl (ResA.tmp rfl ResA.nil)) (List.nil_sublist _) ⟨?_, rfl⟩; exact Sb.tp (.cons (.ag (.cons .refl (.cons .nil .refl))) .refl)
        rw [decide_eq_true h0] at hsing
        have hne : sm.isEmpty = false := by cases sm with
          | nil => simp at h0
          | cons a b => rfl
        rw [hne] at hgd
        (repeat refine A.s rfl ?_)
        refine A.x rfl (by show (0 : Int) ≤ (j : Nat); omega) (encRl_at hs) (encR_eq s) rfl ?_
        (repeat refine A.s rfl ?_)
        refine A.c rfl hsing .refl ?_
        (repeat refine A.s rfl ?_)
        refine A.nilTail 17 ty3.size rfl ?_
        refine A.keep [1, 2, 4, 5, 7, 8, 9, 12, 13, 14, 15, 17, 18] rfl ?_
        refine A.loopP (ι := Nat × (Value × Value)) (fun s => (⟨[(1, .pe 11 (encN k)), (2, .v (.pointer (some ⟨b2, 0, none⟩))), (4, .pe 2 (.ag [AI 0, .v (.slice none 0 0)])), (5, .pe 8 (cellsR q)), (7, .v (.pointer (some ⟨b7, 0, none⟩))), (8, .sl 4 ((E ++ preE k i S j ++ (sm.take s.1).map (endOf i)).map endA) (some s.2.2)), (9, AI (i : Nat)), (12, rsA S), (13, .sl 1 ((S.take j).map fun s => rowI ((singleP s).map (·.c))) (some z13)), (14, AI (j : Nat)), (15, rsA sm), (17, .sl 1 ((sm.take s.1).map fun x => AI x.c) (some s.2.1)), (18, AI (s.1 : Nat))], []⟩, .tail ty3.size s.2.1 :: .tail ty32.size z13 :: .tail ty75.size s.2.2 :: .tail ty53.size zp :: .box b7 (.ag [AI (k.chans.length : Nat), .sl 1 ((q.l.take i).map fun p => procA (procC k p)) (some zp)]) :: .box b2 (.ag [AI 0, .v (.slice none 0 0)]) :: []))
          (fun s => s.1 ≤ sm.length ∧ (sm.take s.1).all (safeB k.vars) = true) (fun s => sm.length - s.1) (0, (.slice none 0 0, ze1)) ⟨Nat.zero_le _, rfl⟩ (by rw [show (sm.take 0).map (endOf i) = [] from rfl, List.append_nil]; rfl) fun s hk kh => ?_
        obtain ⟨t, z17, ze2⟩ := s
        obtain ⟨hk1, hk2⟩ := hk
        simp only at hk1 hk2
        (repeat refine A.s rfl ?_)
        refine A.cond rfl (fun hc => ?_) (fun hc => ?_)
        · have hc : t < sm.length := by have := hc; rw [encRl_len] at this; simpa using this
          refine Exists.elim (at_exN (l := sm) (i := t) hc) fun x hx => ?_
          have hgx := hgsm x (List.mem_of_getElem? hx)
          have hsafe := rsafe_p k x hgx.1.wf hgx.1.kind hgx.2
          have htk2 : sm.take (t + 1) = sm.take t ++ [x] := by rw [List.take_add_one, hx]; rfl
          have hbad2 : safeB k.vars x = false → goodS k s = false := fun h => by
            rw [hgd]
            cases ha : sm.all (safeB k.vars) with
            | false => rfl
            | true => rw [List.all_eq_true] at ha; rw [ha x (List.mem_of_getElem? hx)] at h; cases h
          refine Exists.elim (show ∃ sb, sb = safeB k.vars x from ⟨_, rfl⟩) fun sb hsb => ?_
          rw [← hsb] at hsafe hbad2
          (repeat refine A.s rfl ?_)
          refine A.draw 5 [0, 1, 2, 3, 4] noPubs [] (by kernel_rfl) (by kernel_rfl) ?_
          (repeat refine WA.s rfl ?_)
          refine WA.x rfl (by show (0 : Int) ≤ (t : Nat); omega) (encRl_at hx) (encR_eq x) rfl ?_
          (repeat refine WA.s rfl ?_)
          refine WA.nil (l := []) rfl ?_
          skip
          cases sb with
          | false =>
            rw [hbad (hbad2 rfl)]
            refine A.c rfl hsafe .refl ?_
            (repeat first|refine A.s rfl ?_|refine A.w rfl rfl ?_); refine A.retN (Λ' := []) rfl rfl (ResA.cell rfl rfl rfl (ResA.tmp rfl ResA.nil)) (List.nil_sublist _) ⟨?_, rfl⟩; exact Sb.tp (.cons (.ag (.cons .refl (.cons .nil .refl))) .refl)
          | true =>
          refine A.c rfl hsafe .refl ?_
          (repeat refine A.s rfl ?_)
          refine A.x rfl (by show (0 : Int) ≤ (t : Nat); omega) (encRl_at hx) (encR_eq x) rfl ?_
          (repeat first|refine A.s rfl ?_|refine A.t rfl fun bl=>?_)
          refine A.append rfl rfl rfl rfl rfl rfl rfl rfl rfl rfl rfl rfl rfl rfl (by show (((sm.take t).map fun x => AI x.c).length + 1) * 1 ≤ _; rw [List.length_map, List.length_take]; omega) fun z17' => ?_
          (repeat refine A.s rfl ?_)
          refine A.valE 17 rfl (x' := .sl 1 ((sm.take (t + 1)).map fun x => AI x.c) (some z17')) (by rw [htk2]; simp only [List.map_append, List.map_cons, List.map_nil]; rfl) ?_
          refine A.draw 20 [0, 1, 2, 3, 4, 5, 6, 7, 8, 9, 10, 11, 12, 13, 14, 15, 16, 17, 18, 19] noPubs [] (by kernel_rfl) (by kernel_rfl) ?_
          (repeat refine WA.s rfl ?_)
          refine WA.x rfl (by show (0 : Int) ≤ (t : Nat); omega) (encRl_at hx) (encR_eq x) rfl ?_
          (repeat refine WA.s rfl ?_)
          refine WA.x rfl (by show (0 : Int) ≤ (t : Nat); omega) (encRl_at hx) (encR_eq x) rfl ?_
          (repeat refine WA.s rfl ?_)
          refine WA.x rfl (by show (0 : Int) ≤ (t : Nat); omega) (encRl_at hx) (encR_eq x) rfl ?_
          (repeat refine WA.s rfl ?_)
          refine WA.lit rfl rfl rfl rfl rfl rfl rfl fun bw => ?_
          refine WA.nil (l := [.row 4 (.slice (some ⟨bw, 0, none⟩) 1 1) [endA (endOf i x)]]) rfl ?_
          refine A.freezeRow 147 rfl ?_
          refine A.append rfl rfl rfl rfl rfl rfl rfl rfl rfl rfl rfl rfl rfl rfl (by show (((E ++ preE k i S j ++ (sm.take t).map (endOf i)).map endA).length + 1) * 4 ≤ _; rw [List.length_map, List.length_append, List.length_append, List.length_map, List.length_take]; omega) fun ze2' => ?_
          (repeat refine A.s rfl ?_)
          refine A.valE 8 rfl (x' := .sl 4 ((E ++ preE k i S j ++ (sm.take (t + 1)).map (endOf i)).map endA) (some ze2')) (by rw [htk2]; simp only [List.map_append, List.map_cons, List.map_nil, List.append_assoc]; rfl) ?_
          skip
          refine A.valE 18 rfl (x' := AI ((t + 1 : Nat) : Int)) (inc_eq t (by omega)) ?_
          refine A.perm (.swap _ _ _) ?_
          refine A.perm (.cons _ (.swap _ _ _)) ?_
          refine A.sub (by repeat (first | exact trivial | refine ⟨⟨_, rfl, .refl⟩, ?_⟩)) (kh (t + 1, (z17', ze2')) ⟨by show t + 1 ≤ _; omega, by show (sm.take (t + 1)).all _ = true; rw [htk2, List.all_append, hk2, List.all_cons, List.all_nil, ← hsb]; rfl⟩ (by show _ - (t + 1) < _ - t; omega))
        have hc : ¬ t < sm.length := by have := hc; rw [encRl_len] at this; simpa using this
        have htl : t = sm.length := by omega
        rw [htl, List.take_length] at hk2
        refine A.val 17 rfl .own1 ?_
        refine A.valE 17 rfl (x' := rowI (sm.map (·.c))) (by rw [htl, List.take_length]; show _ = AV.sl 1 ((sm.map (·.c)).map AI) none; rw [List.map_map]; rfl) ?_
        refine A.valE 8 rfl (x' := .sl 4 ((E ++ preE k i S (j + 1)).map endA) (some ze2)) (by rw [htl, List.take_length, hpn, List.append_assoc]) ?_
        (repeat first|refine A.s rfl ?_|refine A.t rfl fun bl=>?_)
        refine A.append rfl rfl rfl rfl rfl rfl rfl rfl rfl rfl rfl rfl rfl rfl (by show (((S.take j).map fun s => rowI ((singleP s).map (·.c))).length + 1) * 1 ≤ _; rw [List.length_map, List.length_take]; omega) fun z13' => ?_
        (repeat refine A.s rfl ?_)
        refine A.valE 13 rfl (x' := .sl 1 ((S.take (j + 1)).map fun s => rowI ((singleP s).map (·.c))) (some z13')) (by rw [htk]; simp only [List.map_append, List.map_cons, List.map_nil, ← hsm]; rfl) ?_
        skip
        refine A.less (.cons_cons _ (.cons _ (.refl _))) ?_
        refine A.valE 14 rfl (x' := AI ((j + 1 : Nat) : Int)) (inc_eq j (by omega)) ?_
        refine A.sub (by repeat (first | exact trivial | refine ⟨⟨_, rfl, .refl⟩, ?_⟩)) (jh (j + 1, (z13', ze2)) ⟨by show j + 1 ≤ _; omega, by show (S.take (j + 1)).all _ = true; rw [htk, List.all_append, hj2, List.all_cons, List.all_nil, hgd, hk2]; rfl⟩ (by show _ - (j + 1) < _ - j; omega))
      have hc : ¬ j < S.length := by have := hc; rw [encRl_len] at this; simpa using this
      have hjl : j = S.length := by omega
      rw [hjl, List.take_length] at hj2
      have hC := hyes hj2
      have hE1 : (E ++ preE k i S j) ++ restE k (i + 1) (q.l.drop (i + 1)) = T := by
        rw [← h1, endsP, hC, preE, hjl, List.take_length, List.map_map, List.append_assoc]; rfl
      refine A.val 13 rfl .own1 ?_
      refine A.valE 13 rfl (x' := procA (procC k p)) (by rw [hjl, List.take_length, procC, hC, List.map_map]; show _ = AV.sl 1 (List.map rowI _) none; rw [List.map_map]; rfl) ?_
      (repeat first|refine A.s rfl ?_|refine A.r rfl rfl ?_|refine A.t rfl fun bl=>?_)
      refine A.append rfl rfl rfl rfl rfl rfl rfl rfl rfl rfl rfl rfl rfl rfl (by show (((q.l.take i).map fun p => procA (procC k p)).length + 1) * 1 ≤ _; rw [List.length_map, List.length_take]; omega) fun zp' => ?_
      refine A.valE 157 rfl (x' := .sl 1 ((q.l.take (i + 1)).map fun p => procA (procC k p)) (some zp')) (by rw [htk]; simp only [List.map_append, List.map_cons, List.map_nil]; rfl) ?_
      (repeat first|refine A.s rfl ?_|refine A.w rfl rfl ?_)
      refine A.less (.cons_cons _ (.cons _ (.refl _))) ?_
      refine A.perm (.swap _ _ _) ?_
      refine A.valE 9 rfl (x' := AI ((i + 1 : Nat) : Int)) (inc_eq i (by omega)) ?_
      refine A.sub (by repeat (first | exact trivial | refine ⟨⟨_, rfl, .refl⟩, ?_⟩)) (ih (i + 1, (E ++ preE k i S j, (zp', ze1))) ⟨by show i + 1 ≤ _; omega, hE1, by show (q.l.take (i + 1)).all (cycOk k) = true; rw [htk, List.all_append, hi3, List.all_cons, List.all_nil, hok hj2]; rfl⟩ (by show _ - (i + 1) < _ - i; omega))
  have hc : ¬ i < q.l.length := by have := hc; rw [encRl_len] at this; simpa using this
  have hil : i = q.l.length := by omega
  have hET : E = T := by have := hi2; rw [hil, List.drop_length, restE, List.append_nil] at this; exact this
  have hal : allOk k q = true := by rw [hil, List.take_length] at hi3; exact hi3
  rw [hgood hal]
  refine A.entsEq (Λ' := .tail ty75.size ze :: .tail ty53.size zp :: .box b7 (.ag [AI (k.chans.length : Nat), .sl 1 ((netC k q).map procA) (some zp)]) :: .box b2 (.ag [AI 0, .v (.slice none 0 0)]) :: []) (by rw [hil, List.take_length, hnet]) ?_
  refine A.val 8 rfl .own1 ?_
  refine A.valE 8 rfl (x' := endsA T) (by rw [hET]) ?_
  refine Exists.elim (show ∃ pb, pb = pairedB T from ⟨_, rfl⟩) fun pb hpb => ?_
  rw [← hpb] at hpair ⊢
  cases pb with
  | false =>
    (repeat refine A.s rfl ?_)
    refine A.c rfl hpair .refl ?_
    rw [Bool.false_and]
    (repeat first|refine A.s rfl ?_|refine A.w rfl rfl ?_); refine A.retN (Λ' := []) rfl rfl (ResA.cell rfl rfl rfl (ResA.tmp rfl ResA.nil)) (List.nil_sublist _) ⟨?_, rfl⟩; exact Sb.tp (.cons (.ag (.cons .refl (.cons .nil .refl))) .refl)
  | true =>
  have hcm := (rmay_p k.chans.length (netC k q) (short_net g) (hsz hal hpb.symm)).any (gs := gsQ)
  rw [Bool.true_and]
  (repeat refine A.s rfl ?_)
  refine A.c rfl hpair .refl ?_
  (repeat first|refine A.s rfl ?_|refine A.r rfl rfl ?_)
  refine A.c rfl hcm (.cons (.ag (.cons .refl (.cons .own1 .refl))) .refl) ?_
  (repeat refine A.s rfl ?_)
  cases hb : nmayB k.chans.length (netC k q) with
  | false => (repeat first|refine A.s rfl ?_|refine A.w rfl rfl ?_); refine A.retN (Λ' := []) rfl rfl (ResA.cell rfl rfl rfl (ResA.tmp rfl ResA.nil)) (List.nil_sublist _) ⟨?_, rfl⟩; exact Sb.tp (.cons (.ag (.cons .refl (.cons .nil .refl))) .refl)
  | true =>
    (repeat first|refine A.s rfl ?_|refine A.r rfl rfl ?_|refine A.w rfl rfl ?_); refine A.retN (Λ' := []) rfl rfl (ResA.cell rfl rfl rfl (ResA.tmp rfl ResA.nil)) (List.nil_sublist _) ⟨?_, rfl⟩; exact Sb.tp (.cons (.ag (.cons .refl (.cons .own1 .refl))) .refl)
end Go.Proofs.YtgmeahcclogfmaaGreatDoor
/-!
  Chapter 23: Class, by the program.
-/
namespace Go.Proofs.YtgmeahcclogfmaaGreatDoor
open Go Go.Tp
set_option linter.unusedVariables false
set_option linter.unusedSimpArgs false
set_option maxRecDepth 100000
set_option maxHeartbeats 4000000
theorem shapeU (u : List EN) : u = [] ∨ (∃ x y, u = [x, y]) ∨ (u.length ≠ 0 ∧ u.length ≠ 2) := by
  match u with
  | [] => exact .inl rfl
  | [x] => exact .inr (.inr ⟨by simp, by simp⟩)
  | [x, y] => exact .inr (.inl ⟨x, y, rfl⟩)
  | x :: y :: z :: r => exact .inr (.inr ⟨by simp, by simp⟩)
theorem pairOk_long {u : List EN} (h0 : u.length ≠ 0) (h2 : u.length ≠ 2) : pairOk u = false := by
  match u, h0, h2 with
  | [x], _, _ => rfl
  | x :: y :: z :: r, _, _ => rfl
  | [], h, _ => simp at h
  | [x, y], _, h => simp at h
theorem class_no (k : KN) (q : PR) (m t : Bool) (hmt : (m && t) = false) (hlast : Pure Tryz.prog gsQ 13 [cellsR k.root, AU8 10] (.tp [cellsR q, AB t])) (hmay : Pure Tryz.prog gsQ 14 [encN k] (AB m)) :
    Pure Tryz.prog gsQ 6 [encN k] (classR k.chans.length (netC k q) false) := by
  cases m with
  | false =>
    refine Pure.of (S := tt) (fn := Tryz.f6) (n := 143) tt_ok Tryz.func6 rfl rfl rfl rfl fun w0 h0 F hgs => ?_
    (repeat first|refine A.s rfl ?_|refine A.r rfl rfl ?_|refine A.b rfl fun bx=>?_)
    refine A.c rfl hlast .refl ?_
    (repeat first|refine A.s rfl ?_|refine A.r rfl rfl ?_|refine A.w rfl rfl ?_|refine A.b rfl fun bx=>?_)
    refine A.c rfl hmay .refl ?_
    (repeat first|refine A.s rfl ?_|refine A.w rfl rfl ?_); refine A.retN (Λ' := []) rfl rfl (ResA.cell rfl rfl rfl (ResA.tmp rfl ResA.nil)) (List.nil_sublist _) ⟨?_, rfl⟩; exact Sb.tp (.cons (.ag (.cons .refl (.cons .nil .refl))) .refl)
  | true =>
    rw [Bool.true_and] at hmt
    subst hmt
    refine Pure.of (S := tt) (fn := Tryz.f6) (n := 143) tt_ok Tryz.func6 rfl rfl rfl rfl fun w0 h0 F hgs => ?_
    (repeat first|refine A.s rfl ?_|refine A.r rfl rfl ?_|refine A.b rfl fun bx=>?_)
    refine A.c rfl hlast .refl ?_
    (repeat first|refine A.s rfl ?_|refine A.r rfl rfl ?_|refine A.w rfl rfl ?_|refine A.b rfl fun bx=>?_)
    refine A.c rfl hmay .refl ?_
    (repeat first|refine A.s rfl ?_|refine A.w rfl rfl ?_); refine A.retN (Λ' := []) rfl rfl (ResA.cell rfl rfl rfl (ResA.tmp rfl ResA.nil)) (List.nil_sublist _) ⟨?_, rfl⟩; exact Sb.tp (.cons (.ag (.cons .refl (.cons .nil .refl))) .refl)
theorem class_yes (k : KN) (q : PR) (g : Good k q) (h10 : q.kind = 10) (h64 : k.chans.length ≤ 64) (hlast : Pure Tryz.prog gsQ 13 [cellsR k.root, AU8 10] (.tp [cellsR q, AB true])) (hmay : Pure Tryz.prog gsQ 14 [encN k] (AB true))
    (R : AV) (hR : R = classR k.chans.length (netC k q) (classB k q)) : Pure Tryz.prog gsQ 6 [encN k] R := by
  have h16 := g.ten h10
  have hcm := (nmay_p k.chans.length (netC k q) (short_net g)).any (gs := gsQ)
  have hbad : pairsB (restE k 0 q.l) = false → R = classR k.chans.length (netC k q) false := fun h => by rw [hR, classB, h, Bool.false_and]
  have hTl := rest_len (k := k) (l := q.l) 0 fun p hp => g.l hp
  have hgood : pairsB (restE k 0 q.l) = true → R = classR k.chans.length (netC k q) (nmayB k.chans.length (netC k q)) := fun h => by rw [hR, classB, h, Bool.true_and]
  clear hR
  obtain ⟨T, hT⟩ : ∃ T, T = restE k 0 q.l := ⟨_, rfl⟩
  rw [← hT] at hbad hgood hTl
  have hnet : (q.l.map fun p => procA (procC k p)) = (netC k q).map procA := by rw [netC, List.map_map]; rfl
  refine Pure.of (S := tt) (fn := Tryz.f6) (n := 143) tt_ok Tryz.func6 rfl rfl rfl rfl fun w0 h0 F hgs => ?_
  (repeat refine A.s rfl ?_)
  refine A.b rfl fun b1 => ?_
  refine A.b rfl fun b2 => ?_
  (repeat first|refine A.s rfl ?_|refine A.r rfl rfl ?_)
  refine A.c rfl hlast .refl ?_
  (repeat first|refine A.s rfl ?_|refine A.r rfl rfl ?_|refine A.w rfl rfl ?_|refine A.b rfl fun bx=>?_)
  refine A.c rfl hmay .refl ?_
  (repeat first|refine A.s rfl ?_|refine A.r rfl rfl ?_|refine A.w rfl rfl ?_)
  refine A.b rfl fun b6 => ?_
  refine A.headEq (.ag (List.replicate 64 (.v (.slice none 0 0)))) (by kernel_rfl) ?_
  refine A.boxAs (.refl _) (x' := .ag (usrL [] fun _ => .slice none 0 0)) (fun h y r => usr_from r) ?_
  (repeat first|refine A.s rfl ?_|refine A.r rfl rfl ?_)
  refine A.valE 37 rfl (x' := AI (q.l.length : Nat)) (ai_eq (by rw [encRl_len])) ?_
  refine A.keep [1, 2, 6, 36, 37, 38] rfl ?_
  refine A.boxAs (b := b2) (x' := .ag [AI (k.chans.length : Nat), .sl 1 [] (some (.slice none 0 0))]) (.trans (.cons _ (.swap _ _ _)) (.swap _ _ _)) (fun h y r => Rp_ag_imp (RpC_imp (fun _ r => by
    rwa [List.length_map] at r) (RpC_imp (fun _ r => nil_own 1 r) fun _ r => r)) y r) ?_
  refine hollow1 ty53.size ?_
  refine hollows (sz := 3) 64 ?_
  refine A.less (Λ' := .tail ty53.size (.slice none 0 0) :: .box b2 _ :: .box b6 _ :: .box b1 _ :: tailsL fun _ => .slice none 0 0) (.cons_cons _ (.cons_cons _ (.cons_cons _ (.cons _ (.cons_cons _ (by rw [tails_nil]; exact .refl _)))))) ?_
  refine A.loopP (ι := Nat × (List EN × ((Nat → Value) × Value))) (fun s => (⟨[(1, .v (.pointer (some ⟨b1, 0, none⟩))), (2, .v (.pointer (some ⟨b2, 0, none⟩))), (6, .v (.pointer (some ⟨b6, 0, none⟩))), (36, rsA q.l), (37, AI (q.l.length : Nat)), (38, AI (s.1 : Nat))], []⟩, .tail ty53.size s.2.2.2 :: .box b2 (.ag [AI (k.chans.length : Nat), .sl 1 ((q.l.take s.1).map fun p => procA (procC k p)) (some s.2.2.2)]) :: .box b6 (.ag (usrL s.2.1 s.2.2.1)) :: .box b1 (encN k) :: tailsL s.2.2.1))
    (fun s => s.1 ≤ q.l.length ∧ s.2.1 ++ restE k s.1 (q.l.drop s.1) = T) (fun s => q.l.length - s.1) (0, ([], ((fun _ => .slice none 0 0), .slice none 0 0))) ⟨Nat.zero_le _, hT.symm⟩ rfl fun s hi ih => ?_
  obtain ⟨i, E, z, zp⟩ := s
  obtain ⟨hi1, hi2⟩ := hi
  simp only at hi1 hi2
  (repeat refine A.s rfl ?_)
  refine A.cond rfl (fun hc => ?_) (fun hc => ?_)
  · have hc : i < q.l.length := by simpa using hc
    refine Exists.elim (at_exN (l := q.l) (i := i) hc) fun p hp => ?_
    have gp : Good k p := g.l (List.mem_of_getElem? hp)
    have hcyc := branch_p k p gp
    have hC16 := fun s => cycl_one gp (s := s)
    have hClen := cycl_len gp
    have hCp : procC k p = (cycP k p).map (·.map (·.c)) := rfl
    have h1 : E ++ (endsP k i p ++ restE k (i + 1) (q.l.drop (i + 1))) = T := by have := hi2; rw [drop_at hp, restE] at this; exact this
    rw [endsP] at h1
    refine Exists.elim (show ∃ C, C = cycP k p from ⟨_, rfl⟩) fun C hC => ?_
    rw [← hC] at hcyc hC16 hClen hCp h1
    refine Exists.elim (show ∃ X, X = restE k (i + 1) (q.l.drop (i + 1)) from ⟨_, rfl⟩) fun X hX => ?_
    rw [← hX] at h1
    (repeat refine A.s rfl ?_)
    refine A.x rfl (by show (0 : Int) ≤ (i : Nat); omega) (encRl_at hp) (encR_eq p) rfl ?_
    (repeat first|refine A.s rfl ?_|refine A.r rfl rfl ?_|refine A.w rfl rfl ?_|refine A.b rfl fun bx=>?_)
    refine A.c rfl hcyc .refl ?_
    (repeat refine A.s rfl ?_)
    refine A.valE 46 rfl (x' := AI (C.length : Nat)) (ai_eq (by rw [List.length_map])) ?_
    refine A.nilTail 9 ty32.size rfl ?_
    refine A.keep [1, 2, 6, 7, 9, 36, 37, 38, 45, 46, 47] rfl ?_
    refine A.less (.cons_cons _ (.cons _ (.refl _))) ?_
    refine A.loopP (ι := Nat × (Value × (List EN × (Nat → Value)))) (fun s => (⟨[(1, .v (.pointer (some ⟨b1, 0, none⟩))), (2, .v (.pointer (some ⟨b2, 0, none⟩))), (6, .v (.pointer (some ⟨b6, 0, none⟩))), (7, AI (i : Nat)), (9, .sl 1 ((C.take s.1).map fun t => rowI (t.map (·.c))) (some s.2.1)), (36, rsA q.l), (37, AI (q.l.length : Nat)), (38, AI (i : Nat)), (45, stepsA C), (46, AI (C.length : Nat)), (47, AI (s.1 : Nat))], []⟩, .tail ty32.size s.2.1 :: .tail ty53.size zp :: .box b2 (.ag [AI (k.chans.length : Nat), .sl 1 ((q.l.take i).map fun p => procA (procC k p)) (some zp)]) :: .box b6 (.ag (usrL s.2.2.1 s.2.2.2)) :: .box b1 (encN k) :: tailsL s.2.2.2))
      (fun s => s.1 ≤ C.length ∧ s.2.2.1 ++ (((C.drop s.1).map (·.map (endOf i))).flatten ++ X) = T) (fun s => C.length - s.1) (0, (.slice none 0 0, (E, z))) ⟨Nat.zero_le _, h1⟩ rfl fun s hj jh => ?_
    obtain ⟨j, z9, E1, z1⟩ := s
    obtain ⟨hj1, hj2⟩ := hj
    simp only at hj1 hj2
    (repeat refine A.s rfl ?_)
    refine A.cond rfl (fun hc => ?_) (fun hc => ?_)
    · have hc : j < C.length := by simpa using hc
      refine Exists.elim (at_exN (l := C) (i := j) hc) fun st hst => ?_
      have hs16 := (hC16 st (List.mem_of_getElem? hst)).1
      have hsx := (hC16 st (List.mem_of_getElem? hst)).2
      have h2 : E1 ++ (st.map (endOf i) ++ (((C.drop (j + 1)).map (·.map (endOf i))).flatten ++ X)) = T := by have := hj2; rw [drop_at hst, List.map_cons, List.flatten_cons, List.append_assoc] at this; exact this
      refine Exists.elim (show ∃ Y, Y = ((C.drop (j + 1)).map (·.map (endOf i))).flatten ++ X from ⟨_, rfl⟩) fun Y hY => ?_
      rw [← hY] at h2
      (repeat refine A.s rfl ?_)
      refine A.x rfl (by show (0 : Int) ≤ (j : Nat); omega) (map_at hst) rfl rfl ?_
      (repeat refine A.s rfl ?_)
      refine A.valE 52 rfl (x' := AI (st.length : Nat)) (ai_eq (by rw [encRl_len])) ?_
      refine A.nilTail 12 ty3.size rfl ?_
      refine A.keep [1, 2, 6, 7, 9, 12, 36, 37, 38, 45, 46, 47, 51, 52, 53] rfl ?_
      refine A.loopP (ι := Nat × (Value × (List EN × (Nat → Value)))) (fun s => (⟨[(1, .v (.pointer (some ⟨b1, 0, none⟩))), (2, .v (.pointer (some ⟨b2, 0, none⟩))), (6, .v (.pointer (some ⟨b6, 0, none⟩))), (7, AI (i : Nat)), (9, .sl 1 ((C.take j).map fun t => rowI (t.map (·.c))) (some z9)), (12, .sl 1 ((st.take s.1).map fun x => AI x.c) (some s.2.1)), (36, rsA q.l), (37, AI (q.l.length : Nat)), (38, AI (i : Nat)), (45, stepsA C), (46, AI (C.length : Nat)), (47, AI (j : Nat)), (51, rsA st), (52, AI (st.length : Nat)), (53, AI (s.1 : Nat))], []⟩, .tail ty3.size s.2.1 :: .tail ty32.size z9 :: .tail ty53.size zp :: .box b2 (.ag [AI (k.chans.length : Nat), .sl 1 ((q.l.take i).map fun p => procA (procC k p)) (some zp)]) :: .box b6 (.ag (usrL s.2.2.1 s.2.2.2)) :: .box b1 (encN k) :: tailsL s.2.2.2))
        (fun s => s.1 ≤ st.length ∧ s.2.2.1 ++ ((st.drop s.1).map (endOf i) ++ Y) = T) (fun s => st.length - s.1) (0, (.slice none 0 0, (E1, z1))) ⟨Nat.zero_le _, h2⟩ rfl fun s hk kh => ?_
      obtain ⟨t, z12, E2, z2⟩ := s
      obtain ⟨hk1, hk2⟩ := hk
      simp only at hk1 hk2
      (repeat refine A.s rfl ?_)
      refine A.cond rfl (fun hc => ?_) (fun hc => ?_)
      · have hc : t < st.length := by simpa using hc
        refine Exists.elim (at_exN (l := st) (i := t) hc) fun x hx => ?_
        have hxm := hsx x (List.mem_of_getElem? hx)
        refine Exists.elim (nat_of (x := x.c) ⟨hxm.2.1, by omega⟩) fun cn hcn => ?_
        have h3 : (E2 ++ [endOf i x]) ++ ((st.drop (t + 1)).map (endOf i) ++ Y) = T := by have := hk2; rw [drop_at hx, List.map_cons] at this; rw [List.append_assoc]; exact this
        have hE2 : (onC E2 cn).length ≤ 524288 := by
          have a1 := onC_le E2 cn
          have a2 := congrArg List.length hk2
          rw [List.length_append] at a2
          omega
        have htk : st.take (t + 1) = st.take t ++ [x] := by rw [List.take_add_one, hx]; rfl
        (repeat refine A.s rfl ?_)
        refine A.x rfl (by show (0 : Int) ≤ (t : Nat); omega) (encRl_at hx) (encR_eq x) rfl ?_
        (repeat first|refine A.s rfl ?_|refine A.r rfl rfl ?_|refine A.w rfl rfl ?_|refine A.b rfl fun bx=>?_|refine A.t rfl fun bl=>?_)
        refine A.append rfl rfl rfl rfl rfl rfl rfl rfl rfl rfl rfl rfl rfl rfl (by show (((st.take t).map fun x => AI x.c).length + 1) * 1 ≤ _; rw [List.length_map, List.length_take]; omega) fun z12' => ?_
        (repeat refine A.s rfl ?_)
        refine A.valE 12 rfl (x' := .sl 1 ((st.take (t + 1)).map fun x => AI x.c) (some z12')) (by rw [htk]; simp only [List.map_append, List.map_cons, List.map_nil]; rfl) ?_
        refine A.perm (Λ' := .tail 3 (z2 cn) :: .tail _ z12' :: .box _ _ :: .tail _ z9 :: .tail _ zp :: .box b2 _ :: .box b6 _ :: .box b1 _ :: tailsX z2 cn) (tails_out z2 hcn.1 [_, _, _, _, _, _, _]) ?_
        refine A.drawT 14 3 (z2 cn) 15 [0, 1, 2, 3, 4, 5, 6, 7, 8, 9, 10, 11, 12, 13, 14] (fun i => if i = 14 then [13] else []) [] (by decide) rfl (by kernel_rfl) ?_
        (repeat first|refine WA.s rfl ?_|refine WA.r rfl rfl ?_)
        refine WA.valE 65 rfl (x' := AI (cn : Nat)) (ai_eq hcn.2) ?_
        refine WA.xa rfl (p := cn) (by omega) (by omega) (off1 cn) rfl ?_
        refine WA.ra rfl (range_at (usrF E2 z2) hcn.1) rfl ?_
        refine WA.valE 67 rfl (x' := .sl 3 ((onC E2 cn).map userA) (some (z2 cn))) rfl ?_
        (repeat first|refine WA.s rfl ?_|refine WA.r rfl rfl ?_)
        refine WA.lit rfl rfl rfl rfl rfl rfl rfl fun bw => ?_
        refine WA.append rfl rfl rfl rfl rfl rfl rfl rfl rfl rfl rfl rfl rfl rfl rfl rfl rfl rfl (.pub (j := 13) rfl rfl (.sub .refl)) (by show (((onC E2 cn).map userA).length + 1) * 3 ≤ _; rw [List.length_map]; omega) fun z' => ?_
        refine WA.nil (l := [.tail 3 z']) rfl ?_
        refine A.valE 63 rfl (x' := AI (cn : Nat)) (ai_eq hcn.2) ?_
        refine A.xa rfl (p := cn) (by omega) (by omega) (off1 cn) rfl ?_
        refine A.wa rfl rfl (by rw [usrL, arr_len]; exact hcn.1) (usr_set E2 z2 (endOf i x) cn hcn.2 z') ?_
        refine A.perm (Λ' := .tail _ z12' :: .box _ _ :: .tail _ z9 :: .tail _ zp :: .box b2 _ :: .box b6 _ :: .box b1 _ :: tailsL (upd z2 cn z')) (tails_in z2 hcn.1 z' [_, _, _, _, _, _, _]) ?_
        refine A.less (.cons_cons _ (.cons _ (.refl _))) ?_
        (repeat refine A.s rfl ?_)
        refine A.valE 53 rfl (x' := AI ((t + 1 : Nat) : Int)) (inc_eq t (by omega)) ?_
        refine A.sub (by repeat (first | exact trivial | refine ⟨⟨_, rfl, .refl⟩, ?_⟩)) (kh (t + 1, (z12', (E2 ++ [endOf i x], upd z2 cn z'))) ⟨by show t + 1 ≤ _; omega, h3⟩ (by show _ - (t + 1) < _ - t; omega))
      have hc : ¬ t < st.length := by simpa using hc
      have htl : t = st.length := by omega
      have h3 : E2 ++ Y = T := by have := hk2; rw [htl, List.drop_length] at this; exact this
      have htk : C.take (j + 1) = C.take j ++ [st] := by rw [List.take_add_one, hst]; rfl
      refine A.val 12 rfl .own1 ?_
      refine A.valE 12 rfl (x' := rowI (st.map (·.c))) (by rw [htl, List.take_length]; show _ = AV.sl 1 ((st.map (·.c)).map AI) none; rw [List.map_map]; rfl) ?_
      (repeat first|refine A.s rfl ?_|refine A.t rfl fun bl=>?_)
      refine A.append rfl rfl rfl rfl rfl rfl rfl rfl rfl rfl rfl rfl rfl rfl (by show (((C.take j).map fun t => rowI (t.map (·.c))).length + 1) * 1 ≤ _; rw [List.length_map, List.length_take]; omega) fun z9' => ?_
      (repeat refine A.s rfl ?_)
      refine A.valE 9 rfl (x' := .sl 1 ((C.take (j + 1)).map fun t => rowI (t.map (·.c))) (some z9')) (by rw [htk]; simp only [List.map_append, List.map_cons, List.map_nil]; rfl) ?_
      refine A.less (.cons_cons _ (.cons _ (.refl _))) ?_
      refine A.valE 47 rfl (x' := AI ((j + 1 : Nat) : Int)) (inc_eq j (by omega)) ?_
      refine A.sub (by repeat (first | exact trivial | refine ⟨⟨_, rfl, .refl⟩, ?_⟩)) (jh (j + 1, (z9', (E2, z2))) ⟨by show j + 1 ≤ _; omega, by show E2 ++ (((C.drop (j + 1)).map (·.map (endOf i))).flatten ++ X) = T; rw [← hY]; exact h3⟩ (by show _ - (j + 1) < _ - j; omega))
    have hc : ¬ j < C.length := by simpa using hc
    have hjl : j = C.length := by omega
    have h2 : E1 ++ X = T := by have := hj2; rw [hjl, List.drop_length] at this; exact this
    have htk : q.l.take (i + 1) = q.l.take i ++ [p] := by rw [List.take_add_one, hp]; rfl
    refine A.val 9 rfl .own1 ?_
    refine A.valE 9 rfl (x' := procA (procC k p)) (by rw [hjl, List.take_length, hCp]; show _ = AV.sl 1 ((C.map (·.map (·.c))).map rowI) none; rw [List.map_map]; rfl) ?_
    (repeat first|refine A.s rfl ?_|refine A.r rfl rfl ?_|refine A.t rfl fun bl=>?_)
    refine A.append rfl rfl rfl rfl rfl rfl rfl rfl rfl rfl rfl rfl rfl rfl (by show (((q.l.take i).map fun p => procA (procC k p)).length + 1) * 1 ≤ _; rw [List.length_map, List.length_take]; omega) fun zp' => ?_
    refine A.valE 88 rfl (x' := .sl 1 ((q.l.take (i + 1)).map fun p => procA (procC k p)) (some zp')) (by rw [htk]; simp only [List.map_append, List.map_cons, List.map_nil]; rfl) ?_
    (repeat first|refine A.s rfl ?_|refine A.w rfl rfl ?_)
    refine A.less (.cons_cons _ (.cons _ (.refl _))) ?_
    refine A.valE 38 rfl (x' := AI ((i + 1 : Nat) : Int)) (inc_eq i (by omega)) ?_
    refine A.sub (by repeat (first | exact trivial | refine ⟨⟨_, rfl, .refl⟩, ?_⟩)) (ih (i + 1, (E1, (z1, zp'))) ⟨by show i + 1 ≤ _; omega, by show E1 ++ restE k (i + 1) (q.l.drop (i + 1)) = T; rw [← hX]; exact h2⟩ (by show _ - (i + 1) < _ - i; omega))
  have hc : ¬ i < q.l.length := by simpa using hc
  have hil : i = q.l.length := by omega
  have hET : E = T := by have := hi2; rw [hil, List.drop_length, restE, List.append_nil] at this; exact this
  refine A.entsEq (Λ' := .tail ty53.size zp :: .box b2 (.ag [AI (k.chans.length : Nat), .sl 1 ((netC k q).map procA) (some zp)]) :: .box b6 (.ag (usrL T z)) :: .box b1 (encN k) :: tailsL z) (by rw [hil, List.take_length, hnet, hET]) ?_
  (repeat refine A.s rfl ?_)
  refine A.la rfl (by rw [usrL, arr_len]; rfl) rfl ?_
  (repeat refine A.s rfl ?_)
  refine A.keep [2, 91, 92] rfl ?_
  refine A.less (Λ' := [.box b2 (.ag [AI (k.chans.length : Nat), .sl 1 ((netC k q).map procA) (some zp)])]) (.cons _ (.cons_cons _ (List.nil_sublist _))) ?_
  refine A.loopP (ι := Nat) (fun c => (⟨[(2, .v (.pointer (some ⟨b2, 0, none⟩))), (91, .ag (usrL T z)), (92, AI (c : Nat))], []⟩, [.box b2 (.ag [AI (k.chans.length : Nat), .sl 1 ((netC k q).map procA) (some zp)])]))
    (fun c => c ≤ 64 ∧ ∀ d, d < c → pairOk (onC T d) = true) (fun c => 64 - c) 0 ⟨Nat.zero_le _, fun d hd => by omega⟩ rfl fun c hc64 ch => ?_
  obtain ⟨hc1, hc2⟩ := hc64
  (repeat refine A.s rfl ?_)
  refine A.cond rfl (fun hc => ?_) (fun hc => ?_)
  · have hc : c < 64 := by have := hc; simp at this; omega
    have hno : pairOk (onC T c) = false → R = classR k.chans.length (netC k q) false := fun h => hbad (by
      cases hp : pairsB T with
      | false => rfl
      | true =>
        rw [pairsB, List.all_eq_true] at hp
        rw [hp c (List.mem_range.2 hc)] at h; cases h)
    have hyes : pairOk (onC T c) = true → ∀ d, d < c + 1 → pairOk (onC T d) = true := fun h d hd => by
      by_cases e : d = c
      · subst e; exact h
      · exact hc2 d (by omega)
    (repeat refine A.s rfl ?_)
    refine A.ev (m := 64) rfl (by show (0 : Int) ≤ (c : Nat); omega) (by omega) (y := .sl 3 ((onC T c).map userA) (some (z c))) (by show (usrL T z)[(c : Int).toNat * 1]? = _; rw [Nat.mul_one, Int.toNat_natCast]; exact range_at (usrF T z) hc) rfl ?_
    (repeat refine A.s rfl ?_)
    refine Exists.elim (show ∃ u, u = onC T c from ⟨_, rfl⟩) fun u hu => ?_
    rw [← hu] at hno hyes
    refine A.valE 16 rfl (x' := .sl 3 (u.map userA) (some (z c))) (by rw [hu]) ?_
    refine A.keep [2, 16, 91, 92] rfl ?_
    refine Or.elim (shapeU u) (fun h => ?_) (fun h => Or.elim h (fun h => ?_) (fun h => ?_))
    · have hy := hyes (by rw [h]; rfl)
      refine A.valE 16 rfl (x' := .sl 3 [] (some (z c))) (by rw [h]; rfl) ?_
      refine A.draw 38 [0, 1, 2, 3, 4, 5, 6, 7, 8, 9, 10, 11, 12, 13, 14, 15, 16, 17, 18, 19, 20, 21, 22, 23, 24, 25, 26, 27, 28, 29, 30, 31, 32, 33, 34, 35, 36, 37] noPubs [] (by kernel_rfl) (by kernel_rfl) ?_
      (repeat refine WA.s rfl ?_)
      refine WA.valE 98 rfl (x' := AB false) (ab_eq rfl) ?_
      skip
      refine WA.nil (l := []) rfl ?_
      (repeat refine A.s rfl ?_)
      refine A.valE 92 rfl (x' := AI ((c + 1 : Nat) : Int)) (inc_eq c (by omega)) ?_
      refine A.sub (by repeat (first | exact trivial | refine ⟨⟨_, rfl, .refl⟩, ?_⟩)) (ch (c + 1) ⟨by omega, hy⟩ (by omega))
    · refine Exists.elim h fun x h => Exists.elim h fun y h => ?_
      refine A.valE 16 rfl (x' := .sl 3 [userA x, userA y] (some (z c))) (by rw [h]; rfl) ?_
      refine A.draw 38 [0, 1, 2, 3, 4, 5, 6, 7, 8, 9, 10, 11, 12, 13, 14, 15, 16, 17, 18, 19, 20, 21, 22, 23, 24, 25, 26, 27, 28, 29, 30, 31, 32, 33, 34, 35, 36, 37] noPubs [] (by kernel_rfl) (by kernel_rfl) ?_
      (repeat refine WA.s rfl ?_)
      refine WA.valE 98 rfl (x' := AB true) (ab_eq rfl) ?_
      skip
      refine WA.valE 102 rfl (x' := AB false) (ab_eq rfl) ?_
      skip
      refine WA.x rfl (by decide) rfl rfl rfl ?_
      (repeat refine WA.s rfl ?_)
      refine WA.x rfl (by decide) rfl rfl rfl ?_
      (repeat refine WA.s rfl ?_)
      refine WA.gS rfl (fun hb => ?_) (fun hb => ?_)
      · have hb : (x.b == y.b) = true := hb
        rw [hno (by rw [h]; show fitE x y = false; rw [fitE, bne, hb]; rfl)]
        (repeat refine WA.s rfl ?_)
        refine WA.nil (l := []) rfl ?_
        (repeat first|refine A.s rfl ?_|refine A.w rfl rfl ?_); refine A.retN (Λ' := []) rfl rfl (ResA.cell rfl rfl rfl (ResA.tmp rfl ResA.nil)) (List.nil_sublist _) ⟨?_, rfl⟩; exact Sb.tp (.cons (.ag (.cons .refl (.cons .nil .refl))) .refl)
      have hb : (x.b == y.b) = false := hb
      (repeat refine WA.s rfl ?_)
      refine WA.x rfl (by decide) rfl rfl rfl ?_
      (repeat refine WA.s rfl ?_)
      refine WA.x rfl (by decide) rfl rfl rfl ?_
      (repeat refine WA.s rfl ?_)
      refine WA.gS rfl (fun ho => ?_) (fun ho => ?_)
      · have ho : (x.out == y.out) = true := ho
        rw [hno (by rw [h]; show fitE x y = false; rw [fitE, bne, bne, hb, ho]; rfl)]
        (repeat refine WA.s rfl ?_)
        refine WA.nil (l := []) rfl ?_
        (repeat first|refine A.s rfl ?_|refine A.w rfl rfl ?_); refine A.retN (Λ' := []) rfl rfl (ResA.cell rfl rfl rfl (ResA.tmp rfl ResA.nil)) (List.nil_sublist _) ⟨?_, rfl⟩; exact Sb.tp (.cons (.ag (.cons .refl (.cons .nil .refl))) .refl)
      have ho : (x.out == y.out) = false := ho
      (repeat refine WA.s rfl ?_)
      refine WA.x rfl (by decide) rfl rfl rfl ?_
      (repeat refine WA.s rfl ?_)
      refine WA.x rfl (by decide) rfl rfl rfl ?_
      (repeat refine WA.s rfl ?_)
      refine WA.nil (l := []) rfl ?_
      (repeat refine A.s rfl ?_)
      refine A.cond rfl (fun hc => ?_) (fun hc => ?_)
      · have hit : (!(x.item == y.item)) = true := hc
        rw [hno (by rw [h]; show fitE x y = false; rw [fitE, show (x.item == y.item) = false by simpa using hit]; simp)]
        (repeat first|refine A.s rfl ?_|refine A.w rfl rfl ?_); refine A.retN (Λ' := []) rfl rfl (ResA.cell rfl rfl rfl (ResA.tmp rfl ResA.nil)) (List.nil_sublist _) ⟨?_, rfl⟩; exact Sb.tp (.cons (.ag (.cons .refl (.cons .nil .refl))) .refl)
      have hit : (!(x.item == y.item)) = false := hc
      have hy := hyes (by rw [h]; show fitE x y = true; rw [fitE, bne, bne, hb, ho, show (x.item == y.item) = true by simpa using hit]; rfl)
      (repeat refine A.s rfl ?_)
      refine A.valE 92 rfl (x' := AI ((c + 1 : Nat) : Int)) (inc_eq c (by omega)) ?_
      refine A.sub (by repeat (first | exact trivial | refine ⟨⟨_, rfl, .refl⟩, ?_⟩)) (ch (c + 1) ⟨by omega, hy⟩ (by omega))
    · rw [hno (pairOk_long h.1 h.2)]
      refine A.draw 38 [0, 1, 2, 3, 4, 5, 6, 7, 8, 9, 10, 11, 12, 13, 14, 15, 16, 17, 18, 19, 20, 21, 22, 23, 24, 25, 26, 27, 28, 29, 30, 31, 32, 33, 34, 35, 36, 37] noPubs [] (by kernel_rfl) (by kernel_rfl) ?_
      (repeat refine WA.s rfl ?_)
      refine WA.valE 98 rfl (x' := AB true) (ab_eq (by rw [List.length_map]; show (!((u.length : Int) == 0)) = true; rw [beq_eq_false_iff_ne.2 (show (u.length : Int) ≠ 0 by have := h.1; omega)]; rfl)) ?_
      (repeat refine WA.s rfl ?_)
      refine WA.valE 102 rfl (x' := AB true) (ab_eq (by rw [List.length_map]; show (!((u.length : Int) == 2)) = true; rw [beq_eq_false_iff_ne.2 (show (u.length : Int) ≠ 2 by have := h.2; omega)]; rfl)) ?_
      (repeat refine WA.s rfl ?_)
      refine WA.nil (l := []) rfl ?_
      (repeat first|refine A.s rfl ?_|refine A.w rfl rfl ?_); refine A.retN (Λ' := []) rfl rfl (ResA.cell rfl rfl rfl (ResA.tmp rfl ResA.nil)) (List.nil_sublist _) ⟨?_, rfl⟩; exact Sb.tp (.cons (.ag (.cons .refl (.cons .nil .refl))) .refl)
  have hc : ¬ c < 64 := by have := hc; simp at this; omega
  rw [hgood (by rw [pairsB, List.all_eq_true]; intro d hd; exact hc2 d (by have := List.mem_range.1 hd; omega))]
  (repeat first|refine A.s rfl ?_|refine A.r rfl rfl ?_)
  refine A.c rfl hcm (.cons (.ag (.cons .refl (.cons .own1 .refl))) .refl) ?_
  (repeat refine A.s rfl ?_)
  cases hb : nmayB k.chans.length (netC k q) with
  | false => (repeat first|refine A.s rfl ?_|refine A.w rfl rfl ?_); refine A.retN (Λ' := []) rfl rfl (ResA.cell rfl rfl rfl (ResA.tmp rfl ResA.nil)) (List.nil_sublist _) ⟨?_, rfl⟩; exact Sb.tp (.cons (.ag (.cons .refl (.cons .nil .refl))) .refl)
  | true =>
    (repeat first|refine A.s rfl ?_|refine A.r rfl rfl ?_|refine A.w rfl rfl ?_); refine A.retN (Λ' := []) rfl rfl (ResA.cell rfl rfl rfl (ResA.tmp rfl ResA.nil)) (List.nil_sublist _) ⟨?_, rfl⟩; exact Sb.tp (.cons (.ag (.cons .refl (.cons .own1 .refl))) .refl)
theorem class_p (k : KN) (hw : WfN k) : Pure Tryz.prog gsQ 6 [encN k] (classR k.chans.length (netC k (lastR k.root)) (mayK k && (lastR k.root).kind == 10 && classB k (lastR k.root))) := by
  have hmay := (kmay_p k hw).any (gs := gsQ)
  have hlast := (last_p k.root 10 (wfR_all hw.root).ll).any (gs := gsQ)
  cases hm : mayK k with
  | false =>
    rw [hm] at hmay
    rw [Bool.false_and, Bool.false_and]
    exact class_no k _ false _ rfl hlast hmay
  | true =>
    rw [hm] at hmay
    rw [Bool.true_and]
    cases ht : ((lastR k.root).kind == 10) with
    | false =>
      rw [ht] at hlast
      exact class_no k _ true false rfl hlast hmay
    | true =>
      rw [ht] at hlast
      rw [Bool.true_and]
      have hg := good_root hw hm
      refine class_yes k _ hg.1.last (by simpa using ht) hg.2 hlast hmay _ rfl
end Go.Proofs.YtgmeahcclogfmaaGreatDoor
/-!
  Chapter 23: Rank of the program.
-/
namespace Go.Proofs.YtgmeahcclogfmaaGreatDoor
open Go Go.Tp
set_option linter.unusedVariables false
set_option linter.unusedSimpArgs false
set_option maxRecDepth 100000
set_option maxHeartbeats 4000000
def rankR (n : Int) (c : Procs) : List Int × Int := if nmayB n c = true then (match kahn (beforeF c) n.toNat with
  | some rk => ((List.range n.toNat).map rk, 0)
  | none => ([], 230)) else ([], 2)
abbrev rankA (p : List Int × Int) : AV := .tp [rowI p.1, AI p.2]
theorem rankR_no {n : Int} {c : Procs} (h : nmayB n c = false) : rankR n c = ([], 2) := by rw [rankR, h]; rfl
theorem rankR_some {m : Nat} {c : Procs} (h : nmayB m c = true) {rk : Rk} (hk : kahn (beforeF c) m = some rk) : rankR m c = ((List.range m).map rk, 0) := by
  rw [rankR, if_pos h, Int.toNat_natCast, hk]
theorem rankR_none {m : Nat} {c : Procs} (h : nmayB m c = true) (hk : kahn (beforeF c) m = none) : rankR m c = ([], 230) := by
  rw [rankR, if_pos h, Int.toNat_natCast, hk]
abbrev rkA (m : Nat) (rk : Rk) : List AV := (List.range m).map fun i => AI (rk i)
theorem rkA_len (m : Nat) (rk : Rk) : (rkA m rk).length = m := by rw [List.length_map, List.length_range]
theorem row_rkA (m : Nat) (rk : Rk) : rowI ((List.range m).map rk) = .sl 1 (rkA m rk) none := by
  show AV.sl 1 (((List.range m).map rk).map AI) none = _
  rw [List.map_map]; rfl
theorem foldR_succ {α : Type} (f : α → Nat → α) (a : α) (m : Nat) : (List.range (m + 1)).foldl f a = f ((List.range m).foldl f a) m := by
  rw [List.range_succ, List.foldl_append]; rfl
theorem gt_max (a b : Int) : (if b > a then b else a) = max a b := by rw [Int.max_def]; split <;> split <;> omega
theorem rank_p (n : Int) (c : Procs) (hs : ShortN c) (hz : sizeN c ≤ 1000) : Pure Tryz.prog gs0 9 [netA n c] (rankA (rankR n c)) := by
  have hmay := nmay_p n c hs
  cases hm : nmayB n c with
  | false =>
    rw [hm] at hmay
    refine Pure.of (S := tt) (fn := Tryz.f9) (n := 83) tt_ok Tryz.func9 rfl rfl rfl rfl fun w0 h0 F hgs => ?_
    (repeat first|refine A.s rfl ?_|refine A.r rfl rfl ?_|refine A.b rfl fun bx=>?_)
    refine A.c rfl hmay .refl ?_
    (repeat refine A.s rfl ?_); refine A.ret2 (Λ' := []) rfl rfl rfl rfl (List.nil_sublist _) ⟨?_, rfl⟩; rw [rankR_no hm]; exact .tp (.cons .nil (.cons .refl .nil))
  | true =>
  rw [hm] at hmay
  have hv := (mayB_iff hz).1 hm
  have hin := hv.inB
  have hn := mayG_n hv.g
  have hbef := before_p n c hs hin
  obtain ⟨m, rfl⟩ : ∃ m : Nat, n = m := ⟨n.toNat, by omega⟩
  have hm64 : m ≤ 64 := by omega
  generalize hsd : beforeF c = s at hbef
  refine Pure.of (S := tt) (fn := Tryz.f9) (n := 83) tt_ok Tryz.func9 rfl rfl rfl rfl fun w0 h0 F hgs => ?_
  (repeat first|refine A.s rfl ?_|refine A.r rfl rfl ?_|refine A.b rfl fun bx=>?_)
  refine A.c rfl hmay .refl ?_
  (repeat first|refine A.s rfl ?_|refine A.r rfl rfl ?_)
  refine A.c rfl hbef .refl ?_
  (repeat refine A.s rfl ?_)
  refine A.b rfl fun b1 => ?_
  refine A.headEq (.ag (setL fun _ => 0)) (by kernel_rfl) ?_
  refine A.wl rfl (set_one _) (arr_len _) (arr_len _) ?_
  (repeat first|refine A.s rfl ?_|refine A.r rfl rfl ?_)
  refine A.makeV rfl rfl rfl rfl rfl rfl rfl rfl rfl rfl rfl rfl (by omega) ?_ (by omega) fun a cp hca => ?_
  · show (8 : Int) * _ ≤ _; omega
  (repeat first|refine A.s rfl ?_|refine A.r rfl rfl ?_)
  refine A.valE 6 rfl (x' := U64 0) rfl ?_
  refine A.entsEq (Λ' := [.row 1 (.slice a m cp) (rkA m fun _ => 0), .box b1 (.ag (setL s)), .box _ (.ag [AI m, procsA c])]) (by rw [rkA, List.map_const', List.length_range]; rfl) ?_
  refine A.keep [1, 4, 5, 6, 7] rfl ?_
  refine A.loopP (ι := Rk × W64 × Int × Nat) (fun q => (⟨[(1, .v (.pointer (some ⟨_, 0, none⟩))), (4, .v (.pointer (some ⟨b1, 0, none⟩))), (5, .ms (.slice a m cp) 1 m), (6, U64 q.2.1), (7, AI q.2.2.1)], []⟩, [.row 1 (.slice a m cp) (rkA m q.1), .box b1 (.ag (setL s)), .box _ (.ag [AI m, procsA c])]))
    (fun q => kahnR s m q.2.2.2 q.1 q.2.1 q.2.2.1 = kahn s m ∧ q.2.2.1 ≤ q.2.2.2 ∧ -64 ≤ q.2.2.1 ∧ q.2.2.1 ≤ 64) (fun q => q.2.2.2) (fun _ => 0, 0, (m : Int), m) ⟨rfl, by simp only; omega, by simp only; omega, by simp only; omega⟩ rfl fun q hi ih => ?_
  obtain ⟨rk, done, left, f⟩ := q
  simp only at hi ih ⊢
  (repeat refine A.s rfl ?_)
  refine A.cond rfl (fun hc => ?_) (fun hc => ?_)
  · simp at hc
    have hl := hc
    obtain ⟨f', rfl⟩ : ∃ f', f = f' + 1 := ⟨f - 1, by omega⟩
    have h1 := hi.1
    rw [kahnR, if_neg (by omega)] at h1
    (repeat refine A.s rfl ?_)
    refine A.valE 26 rfl (x' := AI (m : Nat)) rfl ?_
    refine A.valE 9 rfl (x' := U64 0) rfl ?_
    refine A.keep [1, 4, 5, 6, 7, 8, 9, 26, 27] rfl ?_
    refine A.loopP (ι := Nat) (fun x => (⟨[(1, .v (.pointer (some ⟨_, 0, none⟩))), (4, .v (.pointer (some ⟨b1, 0, none⟩))), (5, .ms (.slice a m cp) 1 m), (6, U64 done), (7, AI (rkXs s m done rk left x).2.2), (8, AI left), (9, U64 (rkXs s m done rk left x).2.1), (26, AI (m : Nat)), (27, AI (x : Nat))], []⟩, [.row 1 (.slice a m cp) (rkA m (rkXs s m done rk left x).1), .box b1 (.ag (setL s)), .box _ (.ag [AI m, procsA c])]))
      (fun x => x ≤ m) (fun x => m - x) 0 (by omega) rfl fun x hx xh => ?_
    have hrl := rkXs_left s m done rk left x
    have hsu := rkXs_succ s m done rk left x
    (repeat refine A.s rfl ?_)
    refine A.cond rfl (fun hc => ?_) (fun hc => ?_)
    · simp at hc
      have hxm : x < m := by omega
      have hx64 : x < 64 := by omega
      rw [rkX] at hsu
      (repeat refine A.s rfl ?_)
      refine A.shift rfl rfl rfl rfl rfl rfl (by omega) ?_
      refine A.valE 32 rfl (x' := U64 (done >>> x)) (u64_eq (ushr _ _ hx64)) ?_
      (repeat refine A.s rfl ?_)
      refine A.valE 35 rfl (x' := AB (done.getLsbD x)) (ab_eq (bit1 _ x)) ?_
      ((fail_if_success (refine A.lit? rfl ?_)); refine A.gS rfl (fun hc => ?_) (fun hc => ?_))
      · have hr : rdy s done x = false := by rw [rdy, hc]; rfl
        rw [hr] at hsu
        (repeat refine A.s rfl ?_)
        refine A.valE 27 rfl (x' := AI ((x + 1 : Nat) : Int)) (inc_eq x (by omega)) ?_
        refine A.valE 7 rfl (x' := AI (rkXs s m done rk left (x + 1)).2.2) (by rw [hsu]; rfl) ?_
        refine A.valE 9 rfl (x' := U64 (rkXs s m done rk left (x + 1)).2.1) (by rw [hsu]; rfl) ?_
        refine A.entsEq (Λ' := [.row 1 (.slice a m cp) (rkA m (rkXs s m done rk left (x + 1)).1), .box b1 (.ag (setL s)), .box _ (.ag [AI m, procsA c])]) (by rw [hsu]; rfl) ?_
        refine A.sub (by repeat (first | exact trivial | refine ⟨⟨_, rfl, .refl⟩, ?_⟩)) (xh (x + 1) (by omega) (by omega))
      have hdx := hc
      (repeat refine A.s rfl ?_)
      refine A.xa rfl (p := x) (by omega) (by omega) (off1 x) rfl ?_
      refine A.ra rfl (range_at _ hx64) rfl ?_
      (repeat refine A.s rfl ?_)
      refine A.valE 42 rfl (x' := AB (!rdy s done x)) (ab_eq ?_) ?_
      · rw [uandn, rdy, hdx, Bool.eq_iff_iff]
        simp only [Bool.false_or, Bool.not_not, bne_iff_ne, ne_eq, Bool.cond_false]
        apply not_congr
        constructor
        · intro h; exact BitVec.eq_of_toNat_eq (by have h : ((s x &&& ~~~done).toNat : Int) = 0 := h; rw [show (0 : W64).toNat = 0 from rfl]; omega)
        · intro h; rw [h]; rfl
      refine A.cond rfl (fun hc => ?_) (fun hc => ?_)
      · have hr : rdy s done x = false := by simpa using hc
        rw [hr] at hsu
        (repeat refine A.s rfl ?_)
        refine A.valE 27 rfl (x' := AI ((x + 1 : Nat) : Int)) (inc_eq x (by omega)) ?_
        refine A.valE 7 rfl (x' := AI (rkXs s m done rk left (x + 1)).2.2) (by rw [hsu]; rfl) ?_
        refine A.valE 9 rfl (x' := U64 (rkXs s m done rk left (x + 1)).2.1) (by rw [hsu]; rfl) ?_
        refine A.entsEq (Λ' := [.row 1 (.slice a m cp) (rkA m (rkXs s m done rk left (x + 1)).1), .box b1 (.ag (setL s)), .box _ (.ag [AI m, procsA c])]) (by rw [hsu]; rfl) ?_
        refine A.sub (by repeat (first | exact trivial | refine ⟨⟨_, rfl, .refl⟩, ?_⟩)) (xh (x + 1) (by omega) (by omega))
      have hr : rdy s done x = true := by simpa using hc
      rw [hr, if_pos rfl] at hsu
      (repeat refine A.s rfl ?_)
      refine A.valE 44 rfl (x' := AI (m : Nat)) rfl ?_
      refine A.keep [1, 4, 5, 6, 7, 8, 9, 10, 26, 27, 44, 45] rfl ?_
      refine A.loopP (ι := Nat) (fun d => (⟨[(1, .v (.pointer (some ⟨_, 0, none⟩))), (4, .v (.pointer (some ⟨b1, 0, none⟩))), (5, .ms (.slice a m cp) 1 m), (6, U64 done), (7, AI (rkXs s m done rk left x).2.2), (8, AI left), (9, U64 (rkXs s m done rk left x).2.1), (10, AI (x : Nat)), (26, AI (m : Nat)), (27, AI (x : Nat)), (44, AI (m : Nat)), (45, AI (d : Nat))], []⟩, [.row 1 (.slice a m cp) (rkA m ((List.range d).foldl (rkD s x) (rkXs s m done rk left x).1)), .box b1 (.ag (setL s)), .box _ (.ag [AI m, procsA c])]))
        (fun d => d ≤ m) (fun d => m - d) 0 (by omega) rfl fun d hd dh => ?_
      have hds := foldR_succ (rkD s x) (rkXs s m done rk left x).1 d
      (repeat refine A.s rfl ?_)
      refine A.cond rfl (fun hc => ?_) (fun hc => ?_)
      · simp at hc
        have hdm : d < m := by omega
        have hd64 : d < 64 := by omega
        rw [rkD] at hds
        (repeat refine A.s rfl ?_)
        refine A.xa rfl (p := x) (by omega) (by omega) (off1 x) rfl ?_
        refine A.ra rfl (range_at _ hx64) rfl ?_
        (repeat refine A.s rfl ?_)
        refine A.shift rfl rfl rfl rfl rfl rfl (by omega) ?_
        refine A.valE 52 rfl (x' := U64 (s x >>> d)) (u64_eq (ushr _ _ hd64)) ?_
        (repeat refine A.s rfl ?_)
        refine A.valE 54 rfl (x' := AB ((s x).getLsbD d)) (ab_eq (bit1 _ d)) ?_
        refine A.cond rfl (fun hc => ?_) (fun hc => ?_)
        · rw [hc, if_pos rfl] at hds
          refine A.draw 12 [0, 1, 2, 3, 4, 5, 6, 7, 8, 9, 10, 11] noPubs [] (by kernel_rfl) (by kernel_rfl) ?_
          (repeat refine WA.s rfl ?_)
          refine WA.indexRow rfl rfl rfl rfl rfl rfl rfl rfl rfl (by omega) (by rw [rkA_len]; omega) rfl ?_
          refine WA.loadRow rfl rfl rfl rfl rfl rfl rfl (y' := AI _) rfl (range_at _ hxm) rfl rfl ?_
          (repeat refine WA.s rfl ?_)
          refine WA.indexRow rfl rfl rfl rfl rfl rfl rfl rfl rfl (by omega) (by rw [rkA_len]; omega) rfl ?_
          refine WA.loadRow rfl rfl rfl rfl rfl rfl rfl (y' := AI _) rfl (range_at _ hdm) rfl rfl ?_
          (repeat refine WA.s rfl ?_)
          refine WA.nil (l := []) rfl ?_
          skip
          refine A.indexRow rfl rfl rfl rfl rfl rfl rfl rfl (by omega) (by rw [rkA_len]; omega) rfl ?_
          refine A.valE 66 rfl (x' := AI (max (((List.range d).foldl (rkD s x) (rkXs s m done rk left x).1) x) (w64 (((List.range d).foldl (rkD s x) (rkXs s m done rk left x).1) d + 1)))) (ai_eq ?_) ?_
          · exact gt_max _ _
          refine A.storeRow rfl rfl rfl rfl rfl rfl rfl rfl rfl (by rw [rkA_len]; exact hxm) (xs' := rkA m ((List.range (d + 1)).foldl (rkD s x) (rkXs s m done rk left x).1)) (by rw [hds]; exact range_set AI _ x _) ?_
          (repeat refine A.s rfl ?_)
          refine A.valE 45 rfl (x' := AI ((d + 1 : Nat) : Int)) (inc_eq d (by omega)) ?_
          refine A.sub (by repeat (first | exact trivial | refine ⟨⟨_, rfl, .refl⟩, ?_⟩)) (dh (d + 1) (by omega) (by omega))
        · rw [hc, if_neg (by simp)] at hds
          (repeat refine A.s rfl ?_)
          refine A.entsEq (Λ' := [.row 1 (.slice a m cp) (rkA m ((List.range (d + 1)).foldl (rkD s x) (rkXs s m done rk left x).1)), .box b1 (.ag (setL s)), .box _ (.ag [AI m, procsA c])]) (by rw [hds]) ?_
          refine A.valE 45 rfl (x' := AI ((d + 1 : Nat) : Int)) (inc_eq d (by omega)) ?_
          refine A.sub (by repeat (first | exact trivial | refine ⟨⟨_, rfl, .refl⟩, ?_⟩)) (dh (d + 1) (by omega) (by omega))
      · simp at hc
        have hdl : d = m := by omega
        subst hdl
        (repeat refine A.s rfl ?_)
        refine A.shift rfl rfl rfl rfl rfl rfl (by omega) ?_
        (repeat refine A.s rfl ?_)
        refine A.valE 27 rfl (x' := AI ((x + 1 : Nat) : Int)) (inc_eq x (by omega)) ?_
        refine A.valE 7 rfl (x' := AI (rkXs s d done rk left (x + 1)).2.2) (ai_eq (by rw [hsu]; simp only; exact w64_id (by unfold i64; omega))) ?_
        refine A.valE 9 rfl (x' := U64 (rkXs s d done rk left (x + 1)).2.1) (u64_eq (by rw [ushl x hx64, uor, hsu])) ?_
        refine A.entsEq (Λ' := [.row 1 (.slice a d cp) (rkA d (rkXs s d done rk left (x + 1)).1), .box b1 (.ag (setL s)), .box _ (.ag [AI d, procsA c])]) (by rw [hsu]) ?_
        refine A.sub (by repeat (first | exact trivial | refine ⟨⟨_, rfl, .refl⟩, ?_⟩)) (xh (x + 1) (by omega) (by omega))
    · simp at hc
      have hxl : x = m := by omega
      subst hxl
      (repeat refine A.s rfl ?_)
      refine A.valE 6 rfl (x' := U64 (done ||| (rkXs s x done rk left x).2.1)) (u64_eq (uor _ _)) ?_
      refine A.valE 81 rfl (x' := AB (decide ((rkXs s x done rk left x).2.2 = left))) (ab_eq (by rw [Bool.eq_iff_iff]; simp)) ?_
      refine A.cond rfl (fun hc => ?_) (fun hc => ?_)
      · simp at hc
        rw [if_pos hc] at h1
        (repeat refine A.s rfl ?_); refine A.ret2 (Λ' := []) rfl rfl rfl rfl (List.nil_sublist _) ⟨?_, rfl⟩
        rw [rankR_none hm (by rw [hsd]; exact h1.symm)]
        exact .tp (.cons .nil (.cons .refl .nil))
      · simp at hc
        rw [if_neg hc] at h1
        (repeat refine A.s rfl ?_)
        refine A.sub (by repeat (first | exact trivial | refine ⟨⟨_, rfl, .refl⟩, ?_⟩)) (ih ((rkXs s x done rk left x).1, done ||| (rkXs s x done rk left x).2.1, (rkXs s x done rk left x).2.2, f') ⟨h1, by simp only; omega, by simp only; omega, by simp only; omega⟩ (by simp only; omega))
  · simp at hc
    have h1 : kahn s m = some rk := by
      rw [← hi.1]
      cases f with
      | zero => rfl
      | succ f => rw [kahnR, if_pos (by omega)]
    refine A.freezeRow 5 rfl ?_
    (repeat refine A.s rfl ?_); refine A.ret2 (Λ' := []) rfl rfl rfl rfl (List.nil_sublist _) ⟨?_, rfl⟩
    rw [rankR_some hm (by rw [hsd]; exact h1)]
    show Sb (.tp [_, _]) (.tp [rowI _, AI 0])
    rw [row_rkA]; exact .refl
end Go.Proofs.YtgmeahcclogfmaaGreatDoor
/-!
  Chapter 23: Cycle of the program.
-/
namespace Go.Proofs.YtgmeahcclogfmaaGreatDoor
open Go Go.Tp
set_option linter.unusedVariables false
set_option linter.unusedSimpArgs false
set_option maxRecDepth 100000
set_option maxHeartbeats 4000000
def cycR1 (n : Int) (c : Procs) : List Int × Bool := if nmayB n c = true then (match cycV (beforeF c) n.toNat with
  | some l => (l.map fun d : Nat => (d : Int), true)
  | none => ([], false)) else ([], false)
abbrev cycA (p : List Int × Bool) : AV := .tp [rowI p.1, AB p.2]
theorem cycR1_no {n : Int} {c : Procs} (h : nmayB n c = false) : cycR1 n c = ([], false) := by rw [cycR1, h]; rfl
theorem cycR1_some {m : Nat} {c : Procs} (h : nmayB m c = true) {l : List Nat} (hk : cycV (beforeF c) m = some l) : cycR1 m c = (l.map fun d : Nat => (d : Int), true) := by
  rw [cycR1, if_pos h, Int.toNat_natCast, hk]
theorem cycR1_none {m : Nat} {c : Procs} (h : nmayB m c = true) (hk : cycV (beforeF c) m = none) : cycR1 m c = ([], false) := by
  rw [cycR1, if_pos h, Int.toNat_natCast, hk]
abbrev natsA (l : List Nat) : List AV := l.map fun d : Nat => AI (d : Int)
theorem natsA_row (l : List Nat) : rowI (l.map fun d : Nat => (d : Int)) = .sl 1 (natsA l) none := by
  show AV.sl 1 ((l.map _).map AI) none = _
  rw [List.map_map]; rfl
theorem far_le {s : Nat → W64} {to x : Nat} (ht : to < 64) (hx : x < 64) : 0 ≤ farF s to x ∧ farF s to x ≤ 66 := by
  rcases far_spec (s := s) ht hx with ⟨h, _⟩ | ⟨m, h, _, h2⟩ <;> omega
theorem best_le (s : Nat → W64) {m : Nat} (hm : m ≤ 64) : 0 ≤ (bestF s m).2 ∧ (bestF s m).2 ≤ 66 ∧ -1 ≤ (bestF s m).1 ∧ (bestF s m).1 < 64 := by
  rcases bestF_spec s m with ⟨h, _⟩ | ⟨f, h1, h2⟩
  · rw [h]; decide
  · have := far_le (s := s) (to := f) (x := f) (by have := h2.lt; omega) (by have := h2.lt; omega)
    rw [h2.eq] at this
    have := h2.lt
    omega
theorem last_at (l : List Nat) (x : Nat) : (l ++ [x])[l.length]? = some x := by simp
theorem cycle_p (n : Int) (c : Procs) (hs : ShortN c) (hz : sizeN c ≤ 1000) : Pure Tryz.prog gs0 10 [netA n c] (cycA (cycR1 n c)) := by
  have hmay := nmay_p n c hs
  cases hm : nmayB n c with
  | false =>
    rw [hm] at hmay
    refine Pure.of (S := tt) (fn := Tryz.f10) (n := 87) tt_ok Tryz.func10 rfl rfl rfl rfl fun w0 h0 F hgs => ?_
    (repeat first|refine A.s rfl ?_|refine A.r rfl rfl ?_|refine A.b rfl fun bx=>?_)
    refine A.c rfl hmay .refl ?_
    (repeat refine A.s rfl ?_); refine A.ret2 (Λ' := []) rfl rfl rfl rfl (List.nil_sublist _) ⟨?_, rfl⟩; rw [cycR1_no hm]; exact .tp (.cons .nil (.cons .refl .nil))
  | true =>
  rw [hm] at hmay
  have hv := (mayB_iff hz).1 hm
  have hin := hv.inB
  have hn := mayG_n hv.g
  have hbef := before_p n c hs hin
  obtain ⟨m, rfl⟩ : ∃ m : Nat, n = m := ⟨n.toNat, by omega⟩
  have hm64 : m ≤ 64 := by omega
  have hlt := fun x d => before_lt hv x d
  generalize hsd : beforeF c = s at hbef hlt
  refine Pure.of (S := tt) (fn := Tryz.f10) (n := 87) tt_ok Tryz.func10 rfl rfl rfl rfl fun w0 h0 F hgs => ?_
  (repeat first|refine A.s rfl ?_|refine A.r rfl rfl ?_|refine A.b rfl fun bx=>?_)
  refine A.c rfl hmay .refl ?_
  (repeat first|refine A.s rfl ?_|refine A.r rfl rfl ?_)
  refine A.c rfl hbef .refl ?_
  (repeat refine A.s rfl ?_)
  refine A.b rfl fun b1 => ?_
  refine A.headEq (.ag (setL fun _ => 0)) (by kernel_rfl) ?_
  refine A.wl rfl (set_one _) (arr_len _) (arr_len _) ?_
  (repeat first|refine A.s rfl ?_|refine A.r rfl rfl ?_)
  refine A.keep [1, 4, 5, 6, 19, 20] rfl ?_
  refine A.loopP (ι := Nat) (fun x => (⟨[(1, .v (.pointer (some ⟨_, 0, none⟩))), (4, .v (.pointer (some ⟨b1, 0, none⟩))), (5, AI (bestF s x).1), (6, AI (bestF s x).2), (19, AI (m : Nat)), (20, AI (x : Nat))], []⟩, [.box b1 (.ag (setL s)), .box _ (.ag [AI m, procsA c])]))
    (fun x => x ≤ m) (fun x => m - x) 0 (by omega) rfl fun x hx xh => ?_
  have hsu := bestF_succ s x
  rw [bestS] at hsu
  (repeat refine A.s rfl ?_)
  refine A.cond rfl (fun hc => ?_) (fun hc => ?_)
  · simp at hc
    have hxm : x < m := by omega
    have hx64 : x < 64 := by omega
    have hfl := far_le (s := s) hx64 hx64
    (repeat refine A.s rfl ?_)
    refine A.la rfl (arr_len _) rfl ?_
    (repeat refine A.s rfl ?_)
    refine A.c rfl (far_p s x hx64) .refl ?_
    (repeat refine A.s rfl ?_)
    refine A.ev (y := AI (farF s x x)) rfl (by omega) (by omega) (by show (intL (farF s x))[x * 1]? = _; rw [Nat.mul_one]; exact range_at _ hx64) rfl ?_
    (repeat refine A.s rfl ?_)
    refine A.valE 30 rfl (x' := AB (decide (0 < farF s x x))) rfl ?_
    ((fail_if_success (refine A.lit? rfl ?_)); refine A.gS rfl (fun hc => ?_) (fun hc => ?_))
    · simp at hc
      have h1 := hc
      (repeat refine A.s rfl ?_)
      refine A.valE 33 rfl (x' := AB (decide ((bestF s x).2 = 0))) (ab_eq (by rw [Bool.eq_iff_iff]; simp)) ?_
      ((fail_if_success (refine A.lit? rfl ?_)); refine A.gS rfl (fun hc => ?_) (fun hc => ?_))
      · simp at hc
        rw [if_pos ⟨h1, .inl hc⟩] at hsu
        (repeat refine A.s rfl ?_)
        refine A.valE 20 rfl (x' := AI ((x + 1 : Nat) : Int)) (inc_eq x (by omega)) ?_
        refine A.valE 5 rfl (x' := AI (bestF s (x + 1)).1) (by rw [hsu]) ?_
        refine A.valE 6 rfl (x' := AI (bestF s (x + 1)).2) (by rw [hsu]) ?_
        refine A.sub (by repeat (first | exact trivial | refine ⟨⟨_, rfl, .refl⟩, ?_⟩)) (xh (x + 1) (by omega) (by omega))
      · simp at hc
        have h2 := hc
        (repeat refine A.s rfl ?_)
        refine A.cond rfl (fun hc => ?_) (fun hc => ?_)
        · simp at hc
          rw [if_pos ⟨h1, .inr hc⟩] at hsu
          (repeat refine A.s rfl ?_)
          refine A.valE 20 rfl (x' := AI ((x + 1 : Nat) : Int)) (inc_eq x (by omega)) ?_
          refine A.valE 5 rfl (x' := AI (bestF s (x + 1)).1) (by rw [hsu]) ?_
          refine A.valE 6 rfl (x' := AI (bestF s (x + 1)).2) (by rw [hsu]) ?_
          refine A.sub (by repeat (first | exact trivial | refine ⟨⟨_, rfl, .refl⟩, ?_⟩)) (xh (x + 1) (by omega) (by omega))
        · simp at hc
          rw [if_neg (fun h => by have := h.2; omega)] at hsu
          (repeat refine A.s rfl ?_)
          refine A.valE 20 rfl (x' := AI ((x + 1 : Nat) : Int)) (inc_eq x (by omega)) ?_
          refine A.valE 5 rfl (x' := AI (bestF s (x + 1)).1) (by rw [hsu]) ?_
          refine A.valE 6 rfl (x' := AI (bestF s (x + 1)).2) (by rw [hsu]) ?_
          refine A.sub (by repeat (first | exact trivial | refine ⟨⟨_, rfl, .refl⟩, ?_⟩)) (xh (x + 1) (by omega) (by omega))
    · simp at hc
      rw [if_neg (fun h => by have := h.1; omega)] at hsu
      (repeat refine A.s rfl ?_)
      refine A.valE 20 rfl (x' := AI ((x + 1 : Nat) : Int)) (inc_eq x (by omega)) ?_
      refine A.valE 5 rfl (x' := AI (bestF s (x + 1)).1) (by rw [hsu]) ?_
      refine A.valE 6 rfl (x' := AI (bestF s (x + 1)).2) (by rw [hsu]) ?_
      refine A.sub (by repeat (first | exact trivial | refine ⟨⟨_, rfl, .refl⟩, ?_⟩)) (xh (x + 1) (by omega) (by omega))
  simp at hc
  have hxl : x = m := by omega
  subst hxl
  have hbl := best_le s hm64
  (repeat refine A.s rfl ?_)
  refine A.cond rfl (fun hc => ?_) (fun hc => ?_)
  · simp at hc
    (repeat refine A.s rfl ?_); refine A.ret2 (Λ' := []) rfl rfl rfl rfl (List.nil_sublist _) ⟨?_, rfl⟩
    rw [cycR1_none hm (by rw [hsd, cycV, if_pos hc])]
    exact .tp (.cons .nil (.cons .refl .nil))
  simp at hc
  have hcv : cycV s x = some ((bestF s x).1.toNat :: cycR s x (farF s (bestF s x).1.toNat) (bestF s x).2 66 (bestF s x).1.toNat 1) := by rw [cycV, if_neg (by omega)]
  refine Exists.elim (show ∃ a : Nat, (bestF s x).1 = a ∧ a < x from ?_) fun fst hf => ?_
  · rcases bestF_spec s x with ⟨h, _⟩ | ⟨f, h1, h2⟩
    · rw [h] at hc; simp at hc
    · exact ⟨f, h1, h2.lt⟩
  obtain ⟨hf1, hf2⟩ := hf
  rw [hf1, Int.toNat_natCast] at hcv
  refine A.valE 5 rfl (x' := AI (fst : Nat)) (ai_eq hf1) ?_
  have hf64 : fst < 64 := by omega
  (repeat refine A.s rfl ?_)
  refine A.la rfl (arr_len _) rfl ?_
  (repeat refine A.s rfl ?_)
  refine A.c rfl (far_p s fst hf64) .refl ?_
  (repeat refine A.s rfl ?_)
  refine A.b rfl fun b2 => ?_
  refine A.headEq (.ag (intL fun _ => 0)) (by kernel_rfl) ?_
  refine A.wl rfl (int_one _) (arr_len _) (arr_len _) ?_
  (repeat first|refine A.s rfl ?_|refine A.t rfl fun bl=>?_)
  refine A.fullTail 1 1 (some ⟨bl, 0, none⟩) (fun h => by cases h) (fun x hx => by injection hx with hx; subst hx; rfl) ?_
  refine A.keep [1, 4, 6, 9, 10] rfl ?_
  refine A.loopP (ι := List Nat × Nat × Value × Nat) (fun q => (⟨[(1, .v (.pointer (some ⟨_, 0, none⟩))), (4, .v (.pointer (some ⟨b1, 0, none⟩))), (6, AI (bestF s x).2), (9, .v (.pointer (some ⟨b2, 0, none⟩))), (10, .sl 1 (natsA (q.1 ++ [q.2.1])) (some q.2.2.1))], []⟩, [.tail 1 q.2.2.1, .box b2 (.ag (intL (farF s fst))), .box b1 (.ag (setL s)), .box _ (.ag [AI x, procsA c])]))
    (fun q => some ((q.1 ++ [q.2.1]) ++ cycR s x (farF s fst) (bestF s x).2 q.2.2.2 q.2.1 ((q.1.length : Int) + 1)) = cycV s x ∧ q.2.1 < x ∧ q.1.length + 1 + q.2.2.2 = 67) (fun q => q.2.2.2) ([], fst, _, 66) ⟨by rw [hcv]; rfl, hf2, rfl⟩ rfl fun q hi ih => ?_
  obtain ⟨l0, at1, z, f⟩ := q
  simp only at hi ih ⊢
  obtain ⟨h1, h2, h3⟩ := hi
  have hll : ((natsA (l0 ++ [at1])).length : Int) = ((l0.length + 1 : Nat) : Int) := by rw [List.length_map, List.length_append]; rfl
  have at64 : at1 < 64 := by omega
  have hat : (natsA (l0 ++ [at1]))[l0.length]? = some (AI (at1 : Nat)) := map_at (last_at l0 at1)
  (repeat refine A.s rfl ?_)
  refine A.valE 50 rfl (x' := AI ((l0.length + 1 : Nat) : Int)) (ai_eq hll) ?_
  skip
  refine A.cond rfl (fun hc => ?_) (fun hc => ?_)
  · simp at hc
    have hlb := hc
    obtain ⟨f', rfl⟩ : ∃ f', f = f' + 1 := ⟨f - 1, by omega⟩
    rw [cycR, if_pos (by omega)] at h1
    (repeat refine A.s rfl ?_)
    refine A.valE 56 rfl (x' := AI (l0.length : Nat)) (ai_eq (by rw [hll, w64_id (by unfold i64; omega)]; omega)) ?_
    refine A.x rfl (by omega) hat rfl rfl ?_
    (repeat first|refine A.s rfl ?_|refine A.r rfl rfl ?_)
    refine A.keep [1, 4, 6, 9, 10, 11, 60, 61] rfl ?_
    refine A.loopP (ι := Nat) (fun d => (⟨[(1, .v (.pointer (some ⟨_, 0, none⟩))), (4, .v (.pointer (some ⟨b1, 0, none⟩))), (6, AI (bestF s x).2), (9, .v (.pointer (some ⟨b2, 0, none⟩))), (10, .sl 1 (natsA (l0 ++ [at1])) (some z)), (11, AI (at1 : Nat)), (60, AI (x : Nat)), (61, AI (d : Nat))], []⟩, [.tail 1 z, .box b2 (.ag (intL (farF s fst))), .box b1 (.ag (setL s)), .box _ (.ag [AI x, procsA c])]))
      (fun d => d ≤ x ∧ ((List.range x).drop d).find? (nxtB s (farF s fst) at1 ((bestF s x).2 - ((l0.length : Int) + 1))) = (List.range x).find? (nxtB s (farF s fst) at1 ((bestF s x).2 - ((l0.length : Int) + 1)))) (fun d => x - d) 0 ⟨by omega, rfl⟩ rfl fun d hd dh => ?_
    obtain ⟨hd1, hd2⟩ := hd
    (repeat refine A.s rfl ?_)
    refine A.cond rfl (fun hc => ?_) (fun hc => ?_)
    · simp at hc
      have hdx : d < x := by omega
      have hd64 : d < 64 := by omega
      rw [range_drop hdx, List.find?_cons] at hd2
      (repeat refine A.s rfl ?_)
      refine A.xa rfl (p := at1) (by omega) (by omega) (off1 at1) rfl ?_
      refine A.ra rfl (range_at _ at64) rfl ?_
      (repeat refine A.s rfl ?_)
      refine A.shift rfl rfl rfl rfl rfl rfl (by omega) ?_
      refine A.valE 68 rfl (x' := U64 (s at1 >>> d)) (u64_eq (ushr _ _ hd64)) ?_
      (repeat refine A.s rfl ?_)
      refine A.valE 71 rfl (x' := AB ((s at1).getLsbD d)) (ab_eq (bit1 _ d)) ?_
      ((fail_if_success (refine A.lit? rfl ?_)); refine A.gS rfl (fun hc => ?_) (fun hc => ?_))
      · have hb := hc
        (repeat refine A.s rfl ?_)
        refine A.xa rfl (p := d) (by omega) (by omega) (off1 d) rfl ?_
        refine A.ra rfl (range_at _ hd64) rfl ?_
        (repeat refine A.s rfl ?_)
        refine A.valE 80 rfl (x' := AB (nxtB s (farF s fst) at1 ((bestF s x).2 - ((l0.length : Int) + 1)) d)) (ab_eq (by rw [hll, nxtB, hb, w64_id (by unfold i64; omega)]; rfl)) ?_
        refine A.cond rfl (fun hc => ?_) (fun hc => ?_)
        · rw [hc] at hd2
          rw [← hd2] at h1
          (repeat first|refine A.s rfl ?_|refine A.t rfl fun bl=>?_)
          refine A.entsEq (Λ' := [.tail ty3.size z, .box _ _, .box _ _, .box _ _]) rfl ?_
          refine A.append rfl rfl rfl rfl rfl rfl rfl rfl rfl rfl rfl rfl rfl rfl (by show ((natsA (l0 ++ [at1])).length + 1) * 1 ≤ _; rw [List.length_map, List.length_append]; simp; omega) fun z' => ?_
          refine A.valE 84 rfl (x' := .sl 1 (natsA ((l0 ++ [at1]) ++ [d])) (some z')) (by rw [show natsA ((l0 ++ [at1]) ++ [d]) = natsA (l0 ++ [at1]) ++ [AI (d : Nat)] from List.map_append]; rfl) ?_
          (repeat refine A.s rfl ?_)
          refine A.sub (by repeat (first | exact trivial | refine ⟨⟨_, rfl, .refl⟩, ?_⟩)) (ih (l0 ++ [at1], d, z', f') ⟨?_, hdx, by simp only [List.length_append, List.length_singleton]; omega⟩ (by simp only; omega))
          rw [← h1]
          simp only [List.length_append, List.length_singleton]
          congr 1
          rw [List.append_assoc (l0 ++ [at1])]
          push_cast
          rfl
        · rw [hc] at hd2
          (repeat refine A.s rfl ?_)
          refine A.valE 61 rfl (x' := AI ((d + 1 : Nat) : Int)) (inc_eq d (by omega)) ?_
          refine A.sub (by repeat (first | exact trivial | refine ⟨⟨_, rfl, .refl⟩, ?_⟩)) (dh (d + 1) ⟨by omega, hd2⟩ (by omega))
      · have hb : nxtB s (farF s fst) at1 ((bestF s x).2 - ((l0.length : Int) + 1)) d = false := by rw [nxtB, hc]; rfl
        rw [hb] at hd2
        (repeat refine A.s rfl ?_)
        refine A.valE 61 rfl (x' := AI ((d + 1 : Nat) : Int)) (inc_eq d (by omega)) ?_
        refine A.sub (by repeat (first | exact trivial | refine ⟨⟨_, rfl, .refl⟩, ?_⟩)) (dh (d + 1) ⟨by omega, hd2⟩ (by omega))
    · simp at hc
      have hdx : d = x := by omega
      rw [hdx, range_end, List.find?_nil] at hd2
      rw [← hd2, List.append_nil] at h1
      (repeat refine A.s rfl ?_); refine A.ret2 (Λ' := []) rfl rfl rfl rfl (List.nil_sublist _) ⟨?_, rfl⟩
      rw [cycR1_some hm (by rw [hsd]; exact h1.symm)]
      show Sb (.tp [_, _]) (.tp [rowI _, AB true])
      rw [natsA_row]; exact .tp (.cons (.own .refl) .refl)
  · simp at hc
    have hcr : cycR s x (farF s fst) (bestF s x).2 f at1 ((l0.length : Int) + 1) = [] := by
      cases f with
      | zero => rfl
      | succ f => rw [cycR, if_neg (by omega)]
    rw [hcr, List.append_nil] at h1
    (repeat refine A.s rfl ?_); refine A.ret2 (Λ' := []) rfl rfl rfl rfl (List.nil_sublist _) ⟨?_, rfl⟩
    rw [cycR1_some hm (by rw [hsd]; exact h1.symm)]
    show Sb (.tp [_, _]) (.tp [rowI _, AB true])
    rw [natsA_row]; exact .tp (.cons (.own .refl) .refl)
end Go.Proofs.YtgmeahcclogfmaaGreatDoor
/-!
  Chapter 23: the fixed results, and the order of processes.
-/
namespace Go.Proofs.YtgmeahcclogfmaaGreatDoor
open Go Go.Tp
set_option linter.unusedVariables false
set_option linter.unusedSimpArgs false
set_option maxRecDepth 100000
set_option maxHeartbeats 4000000
theorem Small.short {c : Procs} (h : Small c) : ShortN c where
  procs := by have := h.procs; omega
  steps := fun p hp => by have := h.steps p hp; omega
  uses := fun p hp s hs => by have := h.row hp hs; omega
def netOne : Procs := [[[0], [1]], [[0], [2]], [[1], [2]]]
def netTwo : Procs := [[[0], [1]], [[1], [2]], [[2], [0]]]
def netThree : Procs := [[[0]]]
theorem small_one : Small netOne := ⟨by decide, by decide, by decide⟩
theorem small_two : Small netTwo := ⟨by decide, by decide, by decide⟩
theorem small_three : Small netThree := ⟨by decide, by decide, by decide⟩
theorem rank_one : rankR 3 netOne = ([0, 1, 2], 0) := by kernel_rfl
theorem rank_two : rankR 3 netTwo = ([], 230) := by kernel_rfl
theorem rank_three : rankR 1 netThree = ([], 2) := by kernel_rfl
theorem cyc_one : cycR1 3 netOne = ([], false) := by kernel_rfl
theorem cyc_two : cycR1 3 netTwo = ([0, 2, 1], true) := by kernel_rfl
theorem chk_one : checkB 3 netOne [5, 7, 9] = true := by kernel_rfl
theorem chk_oneN : checkB 3 netOne [0, 1, 1] = false := by kernel_rfl
theorem chk_two : checkB 3 netTwo [0, 1, 2] = false := by kernel_rfl
theorem head_p : Pure Tryz.prog gs0 5 [] (AB true) := by
  have r1 := rank_p 3 netOne small_one.short (by decide)
  have r2 := rank_p 3 netTwo small_two.short (by decide)
  have r3 := rank_p 1 netThree small_three.short (by decide)
  have y1 := cycle_p 3 netOne small_one.short (by decide)
  have y2 := cycle_p 3 netTwo small_two.short (by decide)
  have k1 := check_p 3 netOne [5, 7, 9] small_one.short (by decide) (by decide)
  have k2 := check_p 3 netOne [0, 1, 1] small_one.short (by decide) (by decide)
  have k3 := check_p 3 netTwo [0, 1, 2] small_two.short (by decide) (by decide)
  have s1 : Pure Tryz.prog gs0 11 [rowI [0, 1, 2], rowI [0, 1, 2]] (AB true) := same_p _ _ (by decide)
  have s2 : Pure Tryz.prog gs0 11 [rowI [0, 2, 1], rowI [0, 2, 1]] (AB true) := same_p _ _ (by decide)
  rw [rank_one] at r1
  rw [rank_two] at r2
  rw [rank_three] at r3
  rw [cyc_one] at y1
  rw [cyc_two] at y2
  rw [chk_one] at k1
  rw [chk_oneN] at k2
  rw [chk_two] at k3
  refine Pure.of (S := tt) (fn := Tryz.f5) (n := 107) tt_ok Tryz.func5 rfl rfl rfl rfl fun w0 h0 F hgs => ?_
  (repeat first|refine A.s rfl ?_|refine A.r rfl rfl ?_|refine A.w rfl rfl ?_|refine A.b rfl fun bx=>?_|refine A.t rfl fun bl=>?_)
  refine A.c rfl r1 (by repeat (first | exact Sb.refl | exact SbL.refl | refine SbL.cons ?_ ?_ | exact Sb.nil | exact Sb.own1 | refine Sb.own ?_ | refine Sb.ag ?_ | refine Sb.tp ?_)) ?_
  (repeat first|refine A.s rfl ?_|refine A.r rfl rfl ?_)
  refine A.c rfl r2 (by repeat (first | exact Sb.refl | exact SbL.refl | refine SbL.cons ?_ ?_ | exact Sb.nil | exact Sb.own1 | refine Sb.own ?_ | refine Sb.ag ?_ | refine Sb.tp ?_)) ?_
  (repeat first|refine A.s rfl ?_|refine A.r rfl rfl ?_)
  refine A.c rfl y2 (by repeat (first | exact Sb.refl | exact SbL.refl | refine SbL.cons ?_ ?_ | exact Sb.nil | exact Sb.own1 | refine Sb.own ?_ | refine Sb.ag ?_ | refine Sb.tp ?_)) ?_
  (repeat first|refine A.s rfl ?_|refine A.r rfl rfl ?_)
  refine A.c rfl y1 (by repeat (first | exact Sb.refl | exact SbL.refl | refine SbL.cons ?_ ?_ | exact Sb.nil | exact Sb.own1 | refine Sb.own ?_ | refine Sb.ag ?_ | refine Sb.tp ?_)) ?_
  (repeat first|refine A.s rfl ?_|refine A.t rfl fun bl=>?_)
  refine A.c rfl r3 (by repeat (first | exact Sb.refl | exact SbL.refl | refine SbL.cons ?_ ?_ | exact Sb.nil | exact Sb.own1 | refine Sb.own ?_ | refine Sb.ag ?_ | refine Sb.tp ?_)) ?_
  (repeat first|refine A.s rfl ?_|refine A.t rfl fun bl=>?_)
  refine A.c rfl s1 (by repeat (first | exact Sb.refl | exact SbL.refl | refine SbL.cons ?_ ?_ | exact Sb.nil | exact Sb.own1 | refine Sb.own ?_ | refine Sb.ag ?_ | refine Sb.tp ?_)) ?_
  (repeat first|refine A.s rfl ?_|refine A.t rfl fun bl=>?_)
  refine A.c rfl s2 (by repeat (first | exact Sb.refl | exact SbL.refl | refine SbL.cons ?_ ?_ | exact Sb.nil | exact Sb.own1 | refine Sb.own ?_ | refine Sb.ag ?_ | refine Sb.tp ?_)) ?_
  (repeat first|refine A.s rfl ?_|refine A.r rfl rfl ?_|refine A.t rfl fun bl=>?_)
  refine A.c rfl k1 (by repeat (first | exact Sb.refl | exact SbL.refl | refine SbL.cons ?_ ?_ | exact Sb.nil | exact Sb.own1 | refine Sb.own ?_ | refine Sb.ag ?_ | refine Sb.tp ?_)) ?_
  (repeat first|refine A.s rfl ?_|refine A.r rfl rfl ?_|refine A.t rfl fun bl=>?_)
  refine A.c rfl k2 (by repeat (first | exact Sb.refl | exact SbL.refl | refine SbL.cons ?_ ?_ | exact Sb.nil | exact Sb.own1 | refine Sb.own ?_ | refine Sb.ag ?_ | refine Sb.tp ?_)) ?_
  (repeat first|refine A.s rfl ?_|refine A.r rfl rfl ?_|refine A.t rfl fun bl=>?_)
  refine A.c rfl k3 (by repeat (first | exact Sb.refl | exact SbL.refl | refine SbL.cons ?_ ?_ | exact Sb.nil | exact Sb.own1 | refine Sb.own ?_ | refine Sb.ag ?_ | refine Sb.tp ?_)) ?_
  (repeat refine A.s rfl ?_); refine A.ret1 (Λ' := []) rfl rfl rfl (List.nil_sublist _) ⟨?_, rfl⟩; exact .refl
theorem same_self (a : List Int) (ha : a.length ≤ 281474976710656) : Pure Tryz.prog gs0 11 [rowI a, rowI a] (AB true) := by
  have := same_p a a ha
  rw [show sameL a a = true by simp [sameL]] at this
  exact this
end Go.Proofs.YtgmeahcclogfmaaGreatDoor
/-!
  Chapter 23: the program's and the reference's Class are one; equal networks; the size of a process.
-/
namespace Go.Proofs.YtgmeahcclogfmaaGreatDoor
open Go Go.Tp
set_option linter.unusedVariables false
set_option linter.unusedSimpArgs false
set_option maxRecDepth 100000
set_option maxHeartbeats 4000000
/-! ### pairs -/
theorem beq_sw (a b : Int) : (a == b) = (b == a) := by rw [Bool.eq_iff_iff, beq_iff_eq, beq_iff_eq]; exact eq_comm
theorem fitE_symm (x y : EN) : fitE x y = fitE y x := by
  unfold fitE
  rw [bne, bne, bne, bne, beq_sw x.b, beq_sw x.item, show (x.out == y.out) = (y.out == x.out) by cases x.out <;> cases y.out <;> rfl]
theorem cntU_eq {E : List EN} {i : Nat} {x : EN} (hx : E[i]? = some x) : ∀ j, j ≤ E.length → cntU E i j + (if i < j then 1 else 0) = (E.take j).countP fun y => y.c == x.c
  | 0, _ => by simp [cntU]
  | j + 1, hj => by
    have ih := cntU_eq hx j (by omega)
    obtain ⟨y, hy⟩ := at_exN (l := E) (i := j) (by omega)
    have hs : sameAt E i j = (i != j && y.c == x.c) := by unfold sameAt; rw [hx, hy]
    rw [cntU, hs, List.take_add_one, hy]
    simp only [Option.toList_some, List.countP_append, List.countP_cons, List.countP_nil]
    by_cases hij : i = j
    · subst hij
      rw [hx] at hy; injection hy with hy; subst hy
      rw [if_neg (Nat.lt_irrefl _)] at ih
      simp; omega
    · have hb : (i != j) = true := by rw [bne, beq_eq_false_iff_ne.2 hij]; rfl
      rw [hb, Bool.true_and]
      by_cases h1 : i < j
      · rw [if_pos h1] at ih; rw [if_pos (show i < j + 1 by omega)]; omega
      · rw [if_neg h1] at ih; rw [if_neg (show ¬ i < j + 1 by omega)]; omega
theorem onC_count {E : List EN} {x : EN} {c : Nat} (hc : x.c = c) : (onC E c).length = E.countP fun y => y.c == x.c := by
  rw [onC, hc, List.countP_eq_length_filter]
theorem okAt_iff {E : List EN} {i : Nat} {x : EN} {c : Nat} (hx : E[i]? = some x) (hi : i < E.length) (hc : x.c = c) : okAt E i = true ↔ (∀ j y, E[j]? = some y → i ≠ j → y.c = x.c → fitE y x = true) ∧ (onC E c).length = 2 := by
  have h1 := cntU_eq hx E.length (Nat.le_refl _)
  rw [if_pos hi, List.take_length, ← onC_count hc] at h1
  rw [okAt, Bool.and_eq_true, List.all_eq_true, beq_iff_eq]
  refine ⟨fun h => ⟨fun j y hy hij hyc => ?_, by omega⟩, fun h => ⟨fun j hj => ?_, by omega⟩⟩
  · have hjl : j < E.length := by
      rcases Nat.lt_or_ge j E.length with h | h
      · exact h
      · rw [List.getElem?_eq_none h] at hy; cases hy
    have h2 := h.1 j (List.mem_range.2 hjl)
    have hs : sameAt E i j = true := by unfold sameAt; rw [hx, hy]; simp [hij, hyc]
    have hf : fitAt E i j = fitE y x := by unfold fitAt; rw [hx, hy]
    rw [hs, hf] at h2; simpa using h2
  · obtain ⟨y, hy⟩ := at_exN (l := E) (i := j) (List.mem_range.1 hj)
    have hs : sameAt E i j = (i != j && y.c == x.c) := by unfold sameAt; rw [hx, hy]
    have hf : fitAt E i j = fitE y x := by unfold fitAt; rw [hx, hy]
    rw [hs, hf]
    by_cases hij : i = j
    · simp [hij]
    · by_cases hyc : y.c = x.c
      · rw [h.1 j y hy hij hyc]; simp
      · simp [hyc]
theorem two_sub {E : List EN} {i j : Nat} {x y : EN} (hx : E[i]? = some x) (hy : E[j]? = some y) (h : i < j) : [x, y].Sublist E := by
  have h1 : E.drop i = x :: E.drop (i + 1) := drop_at hx
  have h2 : y ∈ E.drop (i + 1) := by
    refine List.mem_of_getElem? (i := j - (i + 1)) ?_
    rw [List.getElem?_drop]
    rw [show i + 1 + (j - (i + 1)) = j by omega]; exact hy
  have h3 : [x, y].Sublist (E.drop i) := by rw [h1]; exact (List.singleton_sublist.2 h2).cons_cons x
  exact h3.trans (List.drop_sublist i E)
theorem pairs_eq {E : List EN} (hE : ∀ e, e ∈ E → 0 ≤ e.c ∧ e.c < 64) : pairsB E = pairedB E := by
  rw [Bool.eq_iff_iff, pairsB, pairedB, List.all_eq_true, List.all_eq_true]
  constructor
  · intro h i hi
    have hi := List.mem_range.1 hi
    obtain ⟨x, hx⟩ := at_exN (l := E) (i := i) hi
    obtain ⟨c, hc64, hc⟩ := nat_of (x := x.c) (hE x (List.mem_of_getElem? hx))
    have hp := h c (List.mem_range.2 hc64)
    have hxu : x ∈ onC E c := List.mem_filter.2 ⟨List.mem_of_getElem? hx, by simpa using hc⟩
    have hlen : (onC E c).length = 2 := by
      rcases shapeU (onC E c) with h0 | ⟨a, b, hab⟩ | ⟨h0, h2⟩
      · rw [h0] at hxu; cases hxu
      · rw [hab]; rfl
      · rw [pairOk_long h0 h2] at hp; cases hp
    rw [okAt_iff hx hi hc]
    refine ⟨fun j y hy hij hyc => ?_, hlen⟩
    have key : ∀ a b : EN, a.c = (c : Int) → b.c = (c : Int) → [a, b].Sublist E → fitE a b = true := fun a b ha hb hs => by
      have h1 := hs.filter (fun e => e.c == (c : Int))
      have h2 : [a, b].filter (fun e => e.c == (c : Int)) = [a, b] := by simp [ha, hb]
      rw [h2] at h1
      have h3 : [a, b] = onC E c := h1.eq_of_length (by rw [show (E.filter fun e => e.c == (c : Int)) = onC E c from rfl, hlen]; rfl)
      rw [← h3] at hp; exact hp
    rcases Nat.lt_or_gt_of_ne hij with hlt | hgt
    · rw [fitE_symm]; exact key x y hc (by rw [hyc, hc]) (two_sub hx hy hlt)
    · exact key y x (by rw [hyc, hc]) hc (two_sub hy hx hgt)
  · intro h c hc64
    have hc64 := List.mem_range.1 hc64
    have hok : ∀ (i : Nat) (x : EN), E[i]? = some x → x.c = (c : Int) → (∀ j y, E[j]? = some y → i ≠ j → y.c = x.c → fitE y x = true) ∧ (onC E c).length = 2 := fun i x hx hxc => by
      have hi : i < E.length := by
        rcases Nat.lt_or_ge i E.length with h | h
        · exact h
        · rw [List.getElem?_eq_none h] at hx; cases hx
      exact (okAt_iff hx hi hxc).1 (h i (List.mem_range.2 hi))
    have hpw : E.Pairwise fun (x y : EN) => x.c = (c : Int) → y.c = (c : Int) → fitE x y = true := by
      rw [List.pairwise_iff_getElem]
      intro i j hi hj hij h1 h2
      have := (hok j E[j] (List.getElem?_eq_getElem hj) h2).1 i E[i] (List.getElem?_eq_getElem hi) (by omega) (by rw [h1, h2])
      exact this
    have hpu : (onC E c).Pairwise fun (x y : EN) => x.c = (c : Int) → y.c = (c : Int) → fitE x y = true := List.Pairwise.filter _ hpw
    have hcu : ∀ e, e ∈ onC E c → e.c = (c : Int) := fun e he => by simpa using (List.mem_filter.1 he).2
    have hlu : (onC E c).length = 0 ∨ (onC E c).length = 2 := by
      cases hu : onC E c with
      | nil => exact .inl rfl
      | cons a r =>
        have ha : a ∈ onC E c := by rw [hu]; exact List.mem_cons_self ..
        obtain ⟨i, hi⟩ := List.getElem?_of_mem (List.mem_filter.1 ha).1
        have := (hok i a hi (hcu a ha)).2
        rw [hu] at this; exact .inr this
    rcases shapeU (onC E c) with h0 | ⟨a, b, hab⟩ | ⟨h0, h2⟩
    · rw [h0]; rfl
    · rw [hab] at hpu hcu ⊢
      exact (List.pairwise_cons.1 hpu).1 b (by simp) (hcu a (by simp)) (hcu b (by simp))
    · omega
/-! ### how many ends there can be -/
def undE (E : List EN) (m : Int) : List EN := E.filter fun e => decide (e.c < m)
theorem undE_next (m : Nat) : ∀ F : List EN, (undE F ((m + 1 : Nat) : Int)).length = (undE F (m : Int)).length + (onC F m).length
  | [] => rfl
  | e :: F => by
    have ih := undE_next m F
    unfold undE onC at *
    rw [List.filter_cons, List.filter_cons, List.filter_cons]
    by_cases h1 : e.c < (m : Int)
    · rw [if_pos (by simpa using (show e.c < ((m + 1 : Nat) : Int) by omega)), if_pos (by simpa using h1), if_neg (by simpa using (show ¬ e.c = (m : Int) by omega)), List.length_cons, List.length_cons]
      omega
    · by_cases h4 : e.c = (m : Int)
      · rw [if_pos (by simpa using (show e.c < ((m + 1 : Nat) : Int) by omega)), if_neg (by simpa using h1), if_pos (by simpa using h4), List.length_cons, List.length_cons]
        omega
      · rw [if_neg (by simpa using (show ¬ e.c < ((m + 1 : Nat) : Int) by omega)), if_neg (by simpa using h1), if_neg (by simpa using h4)]
        omega
theorem under_len {E : List EN} (h0 : ∀ e, e ∈ E → 0 ≤ e.c) (h2 : ∀ c, c < 64 → (onC E c).length ≤ 2) : ∀ m, m ≤ 64 → (undE E (m : Nat)).length ≤ 2 * m
  | 0, _ => by
    have : undE E ((0 : Nat) : Int) = [] := by
      unfold undE
      rw [List.filter_eq_nil_iff]; intro e he hh; have := h0 e he; have := of_decide_eq_true hh; omega
    rw [this]; simp
  | m + 1, hm => by
    have ih := under_len h0 h2 m (by omega)
    have hc := h2 m (by omega)
    rw [undE_next m E]; omega
theorem ends_128 {E : List EN} (hE : ∀ e, e ∈ E → 0 ≤ e.c ∧ e.c < 64) (hp : pairsB E = true) : E.length ≤ 128 := by
  rw [pairsB, List.all_eq_true] at hp
  have := under_len (fun e he => (hE e he).1) (fun c hc => by
    have := hp c (List.mem_range.2 hc)
    rcases shapeU (onC E c) with h0 | ⟨a, b, hab⟩ | ⟨h0, h2⟩
    · rw [h0]; simp
    · rw [hab]; simp
    · rw [pairOk_long h0 h2] at this; cases this) 64 (Nat.le_refl _)
  have he : undE E ((64 : Nat) : Int) = E := List.filter_eq_self.2 fun e he => by have := (hE e he).2; exact decide_eq_true (by omega)
  rw [he] at this; exact this
/-! ### the two are one -/
theorem rest_mem {k : KN} : ∀ {l : List PR} {i : Nat} (g : ∀ p, p ∈ l → Good k p) (e : EN), e ∈ restE k i l → 0 ≤ e.c ∧ e.c < k.chans.length
  | [], _, _, e, h => by rw [restE] at h; cases h
  | p :: l, i, g, e, h => by
    rw [restE, List.mem_append] at h
    rcases h with h | h
    · obtain ⟨u, hu, he⟩ := List.mem_flatten.1 h
      obtain ⟨s, hs, rfl⟩ := List.mem_map.1 hu
      obtain ⟨x, hx, rfl⟩ := List.mem_map.1 he
      exact ((cycl_one (g p (List.mem_cons_self ..)) hs).2 x hx).2
    · exact rest_mem (fun p hp => g p (List.mem_cons_of_mem _ hp)) e h
theorem nil_may {n : Int} {c : Procs} (h : [] ∈ c) : nmayB n c = false := by
  refine none_may ?_
  have key : ∀ (c : Procs) (u : Nat → Int), [] ∈ c → c.foldlM (procM n) u = none := by
    intro c
    induction c with
    | nil => intro u h; cases h
    | cons p c ih =>
      intro u h
      rw [List.foldlM_cons]
      rcases List.mem_cons.1 h with h | h
      · rw [← h, procM, if_pos rfl]; rfl
      · cases hp : procM n u p with
        | none => rfl
        | some u' => exact ih u' h
  exact key c _ h
theorem rest_size {k : KN} : ∀ {l : List PR} {i : Nat}, l.all (cycOk k) = true → sizeN (l.map (procC k)) ≤ 2 * (restE k i l).length
  | [], _, _ => by simp [sizeN]
  | p :: l, i, h => by
    rw [List.all_cons, Bool.and_eq_true] at h
    have ih := rest_size (l := l) (i := i + 1) h.2
    have h1 : sizeP (procC k p) ≤ 2 * (endsP k i p).length := by
      have hc := cyc_ok h.1
      have hg : (stepsW (lastR p)).all (goodS k) = true := by
        have := h.1
        simp only [cycOk, Bool.and_eq_true] at this
        exact this.2.2
      rw [procC, endsP, hc]
      clear hc
      revert hg
      generalize stepsW (lastR p) = S
      intro hg
      induction S with
      | nil => simp [sizeP]
      | cons s r ihr =>
        rw [List.all_cons, Bool.and_eq_true] at hg
        have := ihr hg.2
        have hs : 1 ≤ (singleP s).length := by
          have := hg.1
          rw [goodS, Bool.and_eq_true] at this
          cases hh : singleP s with
          | nil => rw [hh] at this; cases this.1
          | cons a b => simp
        simp only [sizeP, List.map_cons, List.sum_cons, List.length_map, List.flatten_cons, List.length_append] at this ⊢
        omega
    simp only [sizeN, List.map_cons, List.sum_cons, restE, List.length_append] at ih ⊢
    omega
theorem class_eq {k : KN} {q : PR} (gq : Good k q) (h64 : k.chans.length ≤ 64) : classB k q = refB k q ∧ (allOk k q = true → pairedB (restE k 0 q.l) = true → sizeN (netC k q) ≤ 1000) := by
  have hE : ∀ e, e ∈ restE k 0 q.l → 0 ≤ e.c ∧ e.c < 64 := fun e he => by
    have := rest_mem (fun p hp => gq.l hp) e he
    omega
  have hp := pairs_eq hE
  refine ⟨?_, fun ha hpp => ?_⟩
  · cases ha : allOk k q with
    | true => rw [classB, refB, ha, Bool.true_and, hp]
    | false =>
      have hn : nmayB k.chans.length (netC k q) = false := by
        refine nil_may ?_
        rw [allOk, List.all_eq_false] at ha
        obtain ⟨p, hpm, hpc⟩ := ha
        rw [netC, List.mem_map]
        refine ⟨p, hpm, ?_⟩
        rw [procC, cyc_not (by simpa using hpc)]; rfl
      rw [classB, refB, ha, hn, Bool.and_false, Bool.false_and]
  · have h1 := ends_128 hE (by rw [hp]; exact hpp)
    have h2 := rest_size (k := k) (i := 0) ha
    rw [netC]; omega
end Go.Proofs.YtgmeahcclogfmaaGreatDoor
