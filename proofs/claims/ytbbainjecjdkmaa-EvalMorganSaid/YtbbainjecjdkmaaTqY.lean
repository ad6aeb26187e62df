/-
  Data: the rules in a shorter form: what a rule asks is worked out by one function.
-/
import Derived.Test.YtbbainjecjdkmaaTqX
namespace Go.Tp
open Go Go.RowKit
set_option linter.unusedVariables false
set_option linter.unusedSimpArgs false

def skipM (E : AEnv) : Option (Nat × Bool) → Bool
  | some (t, _) => match lookA E.us t with
    | some (.tp []) => true
    | _ => false
  | none => false
def pickS (gs : Ua) (n : Nat) (E : AEnv) (m : Option (Nat × Bool)) (ks : List (Nat × Bool)) (o : Oper) : Option AEnv := match o.op with
  | .pick c x y => match E.ev gs ks c with
    | some (.v (.bool g)) => match g with
      | true => match E.ev gs ks x with
        | some v => E.put n m o.dst v
        | none => none
      | false => match E.ev gs ks y with
        | some v => E.put n m o.dst v
        | none => none
    | _ => none
  | _ => none
/-- what is passed over; a choice that is known -/
def passS (gs : Ua) (n : Nat) (all : Array Oper) (o : Oper) (E : AEnv) : Option AEnv := match gnoA E all o.guard with
  | some _ => E.put n none o.dst (.tp [])
  | none => match gmodeA E all o.guard with
    | some (m, ks) => match skipM E m with
      | true => E.put n none o.dst (.tp [])
      | false => pickS gs n E m ks o
    | none => none
def stp (S : TT) (gs : Ua) (n : Nat) (k : List It) (E : AEnv) : Option (List It × AEnv) := match astepY S gs n k E with
  | some r => some r
  | none => match k with
    | .ops all (o :: l) :: k => match passS gs n all o E with
      | some E' => some (.ops all l :: k, E')
      | none => none
    | .code (.cond c x y) :: k => match E.ev gs [] c with
      | some (.v (.bool g)) => match g with
        | true => some (.code x :: k, E)
        | false => some (.code y :: k, E)
      | _ => none
    | _ => none
def pks (gs : Ua) (n : Nat) (k : List It) (E : AEnv) : Option (List It × AEnv) := match k with
  | .ops all (o :: l) :: k => match gmodeA E all o.guard with
    | some (m, ks) => match pickS gs n E m ks o with
      | some E' => some (.ops all l :: k, E')
      | none => none
    | none => none
  | _ => none
def rdS (S : TT) (gs : Ua) (n : Nat) (k : List It) (E : AEnv) : Option (Nat × (AV → Option (List It × AEnv))) := match k with
  | .ops all (o :: l) :: k => match gyesA E all o.guard with
    | some ks => match o.op with
      | .load t p => match E.ev gs ks p with
        | some (.v (.pointer (some ⟨b, off, none⟩))) => match S.get t with
          | some ti => some (b, fun x => match ldA ti x off with
            | some y => match E.put n none o.dst y with
              | some E' => some (.ops all l :: k, E')
              | none => none
            | none => none)
          | none => none
        | _ => none
      | _ => none
    | none => none
  | _ => none
def rdU (S : TT) (gs : Ua) (n : Nat) (k : List It) (E : AEnv) : Option (Nat × (AV → Option (List It × AEnv))) := match k with
  | .ops all (o :: l) :: k => match gmodeA E all o.guard with
    | some (m, ks) => match o.op with
      | .load t p => match E.ev gs ks p with
        | some (.v (.pointer (some ⟨b, off, none⟩))) => match S.get t with
          | some ti => some (b, fun x => match ldA ti x off with
            | some y => match E.put n m o.dst y with
              | some E' => some (.ops all l :: k, E')
              | none => none
            | none => none)
          | none => none
        | _ => none
      | _ => none
    | none => none
  | _ => none
def wrS (S : TT) (gs : Ua) (k : List It) (E : AEnv) : Option (Nat × (AV → Option AV) × List It) := match k with
  | .ops all (o :: l) :: k => match gyesA E all o.guard with
    | some ks => match o.op with
      | .store t p y => match E.ev gs ks p with
        | some (.v (.pointer (some ⟨b, off, none⟩))) => match E.ev gs ks y with
          | some v => match S.get t with
            | some ti => match o.dst with
              | none => some (b, fun x => stA ti x off v, .ops all l :: k)
              | some _ => none
            | none => none
          | none => none
        | _ => none
      | _ => none
    | none => none
  | _ => none
def bxS (S : TT) (gs : Ua) (n : Nat) (k : List It) (E : AEnv) : Option (List It × Nat × AV) := match k with
  | .ops all (o :: l) :: k => match gyesA E all o.guard with
    | some ks => match o.dst with
      | some d => match okPutA n E d with
        | true => match o.op with
          | .alloc t => match S.get t with
            | some ti => match zeroA ti with
              | some x => some (.ops all l :: k, d, x)
              | none => none
            | none => none
          | .box t y => match E.ev gs ks y with
            | some v => match cellsA v with
              | some vs => match oneA vs with
                | true => some (.ops all l :: k, d, v)
                | false => none
              | none => none
            | none => none
          | _ => none
        | false => none
      | none => none
    | none => none
  | _ => none
def ltS (S : TT) (gs : Ua) (n : Nat) (k : List It) (E : AEnv) : Option (List It × Nat × Nat × Nat × List AV) := match k with
  | .ops all (o :: l) :: k => match gyesA E all o.guard with
    | some ks => match o.op with
      | .buildSlice t len parts => match litA S (E.ev gs ks) t len parts.toList with
        | some (sz, xs) => match o.dst with
          | some d => match okPutA n E d with
            | true => some (.ops all l :: k, d, len, sz, xs)
            | false => none
          | none => none
        | none => none
      | _ => none
    | none => none
  | _ => none
def clS (gs : Ua) (n : Nat) (k : List It) (E : AEnv) : Option (List It × Nat × FuncId × List AV) := match k with
  | .ops all (o :: l) :: k => match gyesA E all o.guard with
    | some ks => match o.op with
      | .call c => match c.callee with
        | .value x => match E.ev gs ks x with
          | some (.fn f fst cap) => match evsA (E.ev gs ks) c.args.toList with
            | some vs => match o.dst with
              | some d => match okPutA n E d with
                | true => some (.ops all l :: k, d, f, fst ++ (vs ++ cap))
                | false => none
              | none => none
            | none => none
          | _ => none
        | _ => none
      | _ => none
    | none => none
  | _ => none
def ixS (S : TT) (gs : Ua) (n : Nat) (k : List It) (E : AEnv) : Option (List AV × Int × (AV → Option (List It × AEnv))) := match k with
  | .ops all (o :: l) :: k => match gyesA E all o.guard with
    | some ks => match o.op with
      | .indexAddr t x ix => match E.ev gs ks x with
        | some xv => match E.ev gs ks ix with
          | some (.v (.int _ i)) => match S.get t with
            | some ti => match ti.d with
              | .slice el => match S.get el with
                | some ei => match slOf ei.size xv with
                  | some (xs, _) => some (xs, i, fun y => match E.put n none o.dst (.pe ei.size y) with
                    | some E' => some (.ops all l :: k, E')
                    | none => none)
                  | none => none
                | none => none
              | _ => none
            | none => none
          | _ => none
        | none => none
      | _ => none
    | none => none
  | _ => none
section
variable {K : AC} {k k' : List It} {E E' : AEnv} {Λ Λ' : List AEnt}
theorem A.s (h : stp K.S K.gs K.n k E = some (k', E')) (next : A K k' E' Λ) : A K k E Λ := by
  unfold stp at h
  split at h
  · rename_i r hr
    injection h with h; subst h
    exact A.stepY hr next
  · split at h
    · rename_i all o l k0
      split at h
      · rename_i E1 hp
        injection h with h; injection h with h1 h2; subst h1; subst h2
        unfold passS at hp
        split at hp
        · rename_i x hg; exact A.skip hg hp next
        · split at hp
          · rename_i m ks hg
            split at hp
            · rename_i hs
              cases m with
              | none => cases hs
              | some mb =>
                obtain ⟨t, b⟩ := mb
                simp only [skipM] at hs
                split at hs
                · rename_i hl; exact A.skipU hg hl hp next
                · cases hs
            · unfold pickS at hp
              split at hp
              · rename_i c x y ho
                split at hp
                · rename_i g hc
                  split at hp
                  · split at hp
                    · rename_i v hv; exact A.pickT hg ho hc hv hp next
                    · cases hp
                  · split at hp
                    · rename_i v hv; exact A.pickF hg ho hc hv hp next
                    · cases hp
                · cases hp
              · cases hp
          · cases hp
      · cases h
    · rename_i c x y k0
      split at h
      · rename_i g hc
        split at h
        · injection h with h; injection h with h1 h2; subst h1; subst h2; exact A.condT hc next
        · injection h with h; injection h with h1 h2; subst h1; subst h2; exact A.condF hc next
      · cases h
    · cases h
theorem A.p (h : pks K.gs K.n k E = some (k', E')) (next : A K k' E' Λ) : A K k E Λ := by
  unfold pks at h
  split at h
  · split at h
    · rename_i m ks hg
      split at h
      · rename_i E1 hp
        injection h with h; injection h with h1 h2; subst h1; subst h2
        unfold pickS at hp
        split at hp
        · rename_i c x y ho
          split at hp
          · rename_i g hc
            split at hp
            · split at hp
              · rename_i v hv; exact A.pickT hg ho hc hv hp next
              · cases hp
            · split at hp
              · rename_i v hv; exact A.pickF hg ho hc hv hp next
              · cases hp
          · cases hp
        · cases hp
      · cases h
    · cases h
  · cases h
theorem A.r {b : Nat} {f : AV → Option (List It × AEnv)} {x : AV} (h : rdS K.S K.gs K.n k E = some (b, f)) [i : AAt Λ b x] (hf : f x = some (k', E')) (next : A K k' E' Λ) : A K k E Λ := by
  unfold rdS at h
  split at h
  · split at h
    · rename_i ks hg
      split at h
      · rename_i t p ho
        split at h
        · rename_i b' off hp
          split at h
          · rename_i ti ht
            injection h with h; injection h with h1 h2; subst h1; subst h2
            simp only at hf
            split at hf
            · rename_i y hy
              split at hf
              · rename_i E1 hput
                injection hf with hf; injection hf with h1 h2; subst h1; subst h2
                exact A.loadY hg ho hp ht hy hput next
              · cases hf
            · cases hf
          · cases h
        · cases h
      · cases h
    · cases h
  · cases h
theorem A.v {b : Nat} {f : AV → Option (List It × AEnv)} {x : AV} (h : rdU K.S K.gs K.n k E = some (b, f)) [i : AAt Λ b x] (hf : f x = some (k', E')) (next : A K k' E' Λ) : A K k E Λ := by
  unfold rdU at h
  split at h
  · split at h
    · rename_i m ks hg
      split at h
      · rename_i t p ho
        split at h
        · rename_i b' off hp
          split at h
          · rename_i ti ht
            injection h with h; injection h with h1 h2; subst h1; subst h2
            simp only at hf
            split at hf
            · rename_i y hy
              split at hf
              · rename_i E1 hput
                injection hf with hf; injection hf with h1 h2; subst h1; subst h2
                exact A.load hg ho hp ht hy hput next
              · cases hf
            · cases hf
          · cases h
        · cases h
      · cases h
    · cases h
  · cases h
theorem A.w {b : Nat} {f : AV → Option AV} {x x' : AV} (h : wrS K.S K.gs k E = some (b, f, k')) [i : AAt Λ b x] (hf : f x = some x') [j : AUp Λ b x x' Λ'] (next : A K k' E Λ') : A K k E Λ := by
  unfold wrS at h
  split at h
  · split at h
    · rename_i ks hg
      split at h
      · rename_i t p y ho
        split at h
        · rename_i b' off hp
          split at h
          · rename_i v hy
            split at h
            · rename_i ti ht
              split at h
              · rename_i hd
                injection h with h; injection h with h1 h2; injection h2 with h2 h3; subst h1; subst h2; subst h3
                exact A.store hg ho hp hy ht hf hd next
              · cases h
            · cases h
          · cases h
        · cases h
      · cases h
    · cases h
  · cases h
theorem A.b {d : Nat} {x : AV} (h : bxS K.S K.gs K.n k E = some (k', d, x)) (next : ∀ b, A K k' ⟨(d, .v (.pointer (some ⟨b, 0, none⟩))) :: E.us, E.cs⟩ (.box b x :: Λ)) : A K k E Λ := by
  unfold bxS at h
  split at h
  · split at h
    · rename_i ks hg
      split at h
      · rename_i d' hd
        split at h
        · rename_i hc
          split at h
          · rename_i t ho
            split at h
            · rename_i ti ht
              split at h
              · rename_i z hz
                injection h with h; injection h with h1 h2; injection h2 with h2 h3; subst h1; subst h2; subst h3
                exact A.alloc hg ho ht hz hd hc next
              · cases h
            · cases h
          · rename_i t y ho
            split at h
            · rename_i v hy
              split at h
              · rename_i vs hvs
                split at h
                · rename_i h1
                  injection h with h; injection h with h2 h3; injection h3 with h3 h4; subst h2; subst h3; subst h4
                  exact A.box hg ho hy hvs h1 hd hc next
                · cases h
              · cases h
            · cases h
          · cases h
        · cases h
      · cases h
    · cases h
  · cases h
theorem A.t {d len sz : Nat} {xs : List AV} (h : ltS K.S K.gs K.n k E = some (k', d, len, sz, xs)) (next : ∀ b, A K k' ⟨(d, .sl sz xs (some (.slice (some ⟨b, 0, none⟩) len len))) :: E.us, E.cs⟩ Λ) : A K k E Λ := by
  unfold ltS at h
  split at h
  · split at h
    · rename_i ks hg
      split at h
      · rename_i t len' parts ho
        split at h
        · rename_i sz' xs' hl
          split at h
          · rename_i d' hd
            split at h
            · rename_i hc
              injection h with h; injection h with h1 h2; injection h2 with h2 h3; injection h3 with h3 h4; injection h4 with h4 h5
              subst h1; subst h2; subst h3; subst h4; subst h5
              exact A.lit hg ho hl hd hc next
            · cases h
          · cases h
        · cases h
      · cases h
    · cases h
  · cases h
theorem clS_eq {d : Nat} {f : FuncId} {as : List AV} (h : clS K.gs K.n k E = some (k', d, f, as)) : ∃ all o l k0 ks x args ts fst cap vs, k = .ops all (o :: l) :: k0 ∧ k' = .ops all l :: k0 ∧ gyesA E all o.guard = some ks ∧ o.op = .call ⟨.value x, args, ts⟩ ∧
    E.ev K.gs ks x = some (.fn f fst cap) ∧ evsA (E.ev K.gs ks) args.toList = some vs ∧ o.dst = some d ∧ okPutA K.n E d = true ∧ as = fst ++ (vs ++ cap) := by
  unfold clS at h
  split at h
  · rename_i all o l k0
    split at h
    · rename_i ks hg
      split at h
      · rename_i c ho
        obtain ⟨cc, ca, ct⟩ := c
        simp only at h
        split at h
        · rename_i x
          split at h
          · rename_i f' fst cap hx
            split at h
            · rename_i vs hvs
              split at h
              · rename_i d' hd
                split at h
                · rename_i hc
                  injection h with h; injection h with h1 h2; injection h2 with h2 h3; injection h3 with h3 h4
                  subst h1; subst h2; subst h3; subst h4
                  exact ⟨all, o, l, k0, ks, x, ca, ct, fst, cap, vs, rfl, rfl, hg, ho, hx, hvs, hd, hc, rfl⟩
                · cases h
              · cases h
            · cases h
          · cases h
        · cases h
      · cases h
    · cases h
  · cases h
theorem A.c {d : Nat} {f : FuncId} {as args' : List AV} {y : AV} (h : clS K.gs K.n k E = some (k', d, f, as)) (hf : Pure K.P K.gs f args' y) (hs : SbL as args') (next : A K k' ⟨(d, y) :: E.us, E.cs⟩ Λ) : A K k E Λ := by
  obtain ⟨all, o, l, k0, ks, x, args, ts, fst, cap, vs, rfl, rfl, hg, ho, hx, ha, hd, hc, rfl⟩ := clS_eq h
  exact A.callP hg ho hx ha hd hc hf hs next
/-- a call whose answer is one of a family -/
theorem A.e {ι : Type} {X : ι → AV} {LL : ι → List AEnt} {Pr : ι → Prop} {d : Nat} {f : FuncId} {as args' : List AV} {Λ1 Λ2 : List AEnt} (h : clS K.gs K.n k E = some (k', d, f, as)) (hf : FunE K.P K.gs f args' Λ1 X LL Pr) (hs : SbL as args') (hp : Λ.Perm (Λ1 ++ Λ2))
    (next : ∀ i, Pr i → A K k' ⟨(d, X i) :: E.us, E.cs⟩ (LL i ++ Λ2)) : A K k E Λ := by
  obtain ⟨all, o, l, k0, ks, x, args, ts, fst, cap, vs, rfl, rfl, hg, ho, hx, ha, hd, hc, rfl⟩ := clS_eq h
  exact A.callE hg ho hx ha hd hc hf hs hp next
/-- .. of a function to which memory is lent -/
theorem A.d {d : Nat} {f : FuncId} {as args' : List AV} {y : AV} {Λ1 Λ2 : List AEnt} (h : clS K.gs K.n k E = some (k', d, f, as)) (hf : Fun K.P K.gs f args' Λ1 fun z Λ' => z = y ∧ Λ' = Λ1) (hs : SbL as args') (hp : Λ.Perm (Λ1 ++ Λ2))
    (next : A K k' ⟨(d, y) :: E.us, E.cs⟩ (Λ1 ++ Λ2)) : A K k E Λ := by
  obtain ⟨all, o, l, k0, ks, x, args, ts, fst, cap, vs, rfl, rfl, hg, ho, hx, ha, hd, hc, rfl⟩ := clS_eq h
  exact A.callL hg ho hx ha hd hc hf hs hp next
theorem A.x {xs : List AV} {i : Int} {f : AV → Option (List It × AEnv)} {y y' : AV} (h : ixS K.S K.gs K.n k E = some (xs, i, f)) (h0 : 0 ≤ i) (hy : xs[i.toNat]? = some y) (hy' : y = y') (hf : f y' = some (k', E')) (next : A K k' E' Λ) : A K k E Λ := by
  unfold ixS at h
  split at h
  · split at h
    · rename_i ks hg
      split at h
      · rename_i t x ix ho
        split at h
        · rename_i xv hx
          split at h
          · rename_i kk i' hi
            split at h
            · rename_i ti ht
              split at h
              · rename_i el hd
                split at h
                · rename_i ei he
                  split at h
                  · rename_i xs' own hs
                    injection h with h; injection h with h1 h2; injection h2 with h2 h3; subst h1; subst h2; subst h3
                    simp only at hf
                    split at hf
                    · rename_i E1 hput
                      injection hf with hf; injection hf with h1 h2; subst h1; subst h2
                      exact A.index hg ho hx hi ht hd he hs h0 hy hy' hput next
                    · cases hf
                  · cases h
                · cases h
              · cases h
            · cases h
          · cases h
        · cases h
      · cases h
    · cases h
  · cases h
end

/-! ### statements whose order is open -/
def wstp (S : TT) (gs : Ua) (n : Nat) (all : Array Oper) (π : List Nat) (E : AEnv) : Option (List Nat × AEnv) := match wstepYA S gs n all π E with
  | some r => some r
  | none => match π with
    | i :: π => match nthL all.toList i with
      | some o => match passS gs n all o E with
        | some E' => some (π, E')
        | none => none
      | none => none
    | [] => none
def wpk (gs : Ua) (n : Nat) (all : Array Oper) (π : List Nat) (E : AEnv) : Option (List Nat × AEnv) := match π with
  | i :: π => match nthL all.toList i with
    | some o => match gmodeA E all o.guard with
      | some (m, ks) => match pickS gs n E m ks o with
        | some E' => some (π, E')
        | none => none
      | none => none
    | none => none
  | [] => none
def wrd (S : TT) (gs : Ua) (n : Nat) (all : Array Oper) (π : List Nat) (E : AEnv) : Option (Nat × (AV → Option (List Nat × AEnv))) := match π with
  | i :: π => match nthL all.toList i with
    | some o => match gyesA E all o.guard with
      | some ks => match o.op with
        | .load t p => match E.ev gs ks p with
          | some (.v (.pointer (some ⟨b, off, none⟩))) => match S.get t with
            | some ti => some (b, fun x => match ldA ti x off with
              | some y => match E.put n none o.dst y with
                | some E' => some (π, E')
                | none => none
              | none => none)
            | none => none
          | _ => none
        | _ => none
      | none => none
    | none => none
  | [] => none
def wrdU (S : TT) (gs : Ua) (n : Nat) (all : Array Oper) (π : List Nat) (E : AEnv) : Option (Nat × (AV → Option (List Nat × AEnv))) := match π with
  | i :: π => match nthL all.toList i with
    | some o => match gmodeA E all o.guard with
      | some (m, ks) => match o.op with
        | .load t p => match E.ev gs ks p with
          | some (.v (.pointer (some ⟨b, off, none⟩))) => match S.get t with
            | some ti => some (b, fun x => match ldA ti x off with
              | some y => match E.put n m o.dst y with
                | some E' => some (π, E')
                | none => none
              | none => none)
            | none => none
          | _ => none
        | _ => none
      | none => none
    | none => none
  | [] => none
def wcl (gs : Ua) (n : Nat) (all : Array Oper) (Y : Ua) (π : List Nat) (E : AEnv) : Option (List Nat × Nat × Nat × FuncId × List AV × AV) := match π with
  | i :: π => match nthL all.toList i with
    | some o => match gyesA E all o.guard with
      | some ks => match o.op with
        | .call c => match c.callee with
          | .value x => match E.ev gs ks x with
            | some (.fn f fst cap) => match evsA (E.ev gs ks) c.args.toList with
              | some vs => match o.dst with
                | some d => match okPutA n E d with
                  | true => match lookA Y i with
                    | some y => some (π, i, d, f, fst ++ (vs ++ cap), y)
                    | none => none
                  | false => none
                | none => none
              | none => none
            | _ => none
          | _ => none
        | _ => none
      | none => none
    | none => none
  | [] => none
def wix (S : TT) (gs : Ua) (n : Nat) (all : Array Oper) (π : List Nat) (E : AEnv) : Option (List AV × Int × (AV → Option (List Nat × AEnv))) := match π with
  | j :: π => match nthL all.toList j with
    | some o => match gyesA E all o.guard with
      | some ks => match o.op with
        | .indexAddr t x ix => match E.ev gs ks x with
          | some xv => match E.ev gs ks ix with
            | some (.v (.int _ i)) => match S.get t with
              | some ti => match ti.d with
                | .slice el => match S.get el with
                  | some ei => match slOf ei.size xv with
                    | some (xs, _) => some (xs, i, fun y => match E.put n none o.dst (.pe ei.size y) with
                      | some E' => some (π, E')
                      | none => none)
                    | none => none
                  | none => none
                | _ => none
              | none => none
            | _ => none
          | none => none
        | _ => none
      | none => none
    | none => none
  | [] => none
section
variable {K : AC} {all : Array Oper} {m : Nat} {k : List It} {pubs : Nat → List Nat} {Y : Ua} {π π' : List Nat} {E E' : AEnv} {Λ : List AEnt} {D D' : Da}
theorem WA.s (h : wstp K.S K.gs K.n all π E = some (π', E')) (next : WA K all m k pubs Y π' E' Λ D) : WA K all m k pubs Y π E Λ D := by
  unfold wstp at h
  split at h
  · rename_i r hr
    injection h with h; subst h
    exact WA.stepY hr next
  · split at h
    · rename_i i π0
      split at h
      · rename_i o hi
        split at h
        · rename_i E1 hp
          injection h with h; injection h with h1 h2; subst h1; subst h2
          unfold passS at hp
          split at hp
          · rename_i x hg; exact WA.skip hi hg hp next
          · split at hp
            · rename_i mm ks hg
              split at hp
              · rename_i hs
                cases mm with
                | none => cases hs
                | some mb =>
                  obtain ⟨t, b⟩ := mb
                  simp only [skipM] at hs
                  split at hs
                  · rename_i hl; exact WA.skipU hi hg hl hp next
                  · cases hs
              · unfold pickS at hp
                split at hp
                · rename_i c x y ho
                  split at hp
                  · rename_i g hc
                    split at hp
                    · split at hp
                      · rename_i v hv; exact WA.pickT hi hg ho hc hv hp next
                      · cases hp
                    · split at hp
                      · rename_i v hv; exact WA.pickF hi hg ho hc hv hp next
                      · cases hp
                  · cases hp
                · cases hp
            · cases hp
        · cases h
      · cases h
    · cases h
theorem WA.p (h : wpk K.gs K.n all π E = some (π', E')) (next : WA K all m k pubs Y π' E' Λ D) : WA K all m k pubs Y π E Λ D := by
  unfold wpk at h
  split at h
  · rename_i i π0
    split at h
    · rename_i o hi
      split at h
      · rename_i mm ks hg
        split at h
        · rename_i E1 hp
          injection h with h; injection h with h1 h2; subst h1; subst h2
          unfold pickS at hp
          split at hp
          · rename_i c x y ho
            split at hp
            · rename_i g hc
              split at hp
              · split at hp
                · rename_i v hv; exact WA.pickT hi hg ho hc hv hp next
                · cases hp
              · split at hp
                · rename_i v hv; exact WA.pickF hi hg ho hc hv hp next
                · cases hp
            · cases hp
          · cases hp
        · cases h
      · cases h
    · cases h
  · cases h
theorem WA.r {b : Nat} {f : AV → Option (List Nat × AEnv)} {x : AV} (h : wrd K.S K.gs K.n all π E = some (b, f)) [z : AAt Λ b x] (hf : f x = some (π', E')) (next : WA K all m k pubs Y π' E' Λ D) : WA K all m k pubs Y π E Λ D := by
  unfold wrd at h
  split at h
  · rename_i i π0
    split at h
    · rename_i o hi
      split at h
      · rename_i ks hg
        split at h
        · rename_i t p ho
          split at h
          · rename_i b' off hp
            split at h
            · rename_i ti ht
              injection h with h; injection h with h1 h2; subst h1; subst h2
              simp only at hf
              split at hf
              · rename_i y hy
                split at hf
                · rename_i E1 hput
                  injection hf with hf; injection hf with h1 h2; subst h1; subst h2
                  exact WA.loadY hi hg ho hp ht hy hput next
                · cases hf
              · cases hf
            · cases h
          · cases h
        · cases h
      · cases h
    · cases h
  · cases h
theorem WA.v {b : Nat} {f : AV → Option (List Nat × AEnv)} {x : AV} (h : wrdU K.S K.gs K.n all π E = some (b, f)) [z : AAt Λ b x] (hf : f x = some (π', E')) (next : WA K all m k pubs Y π' E' Λ D) : WA K all m k pubs Y π E Λ D := by
  unfold wrdU at h
  split at h
  · rename_i i π0
    split at h
    · rename_i o hi
      split at h
      · rename_i mm ks hg
        split at h
        · rename_i t p ho
          split at h
          · rename_i b' off hp
            split at h
            · rename_i ti ht
              injection h with h; injection h with h1 h2; subst h1; subst h2
              simp only at hf
              split at hf
              · rename_i y hy
                split at hf
                · rename_i E1 hput
                  injection hf with hf; injection hf with h1 h2; subst h1; subst h2
                  exact WA.load hi hg ho hp ht hy hput next
                · cases hf
              · cases hf
            · cases h
          · cases h
        · cases h
      · cases h
    · cases h
  · cases h
theorem WA.c {i d : Nat} {f : FuncId} {as args' : List AV} {y : AV} (h : wcl K.gs K.n all Y π E = some (π', i, d, f, as, y)) (hD : dropD (pubs i) D = D') (hf : Pure K.P K.gs f args' y) (hs : SbPL D (pubs i) as args')
    (next : WA K all m k pubs Y π' ⟨(d, y) :: E.us, E.cs⟩ Λ D') : WA K all m k pubs Y π E Λ D := by
  unfold wcl at h
  split at h
  · rename_i i0 π0
    split at h
    · rename_i o hi
      split at h
      · rename_i ks hg
        split at h
        · rename_i c ho
          obtain ⟨cc, ca, ct⟩ := c
          simp only at h
          split at h
          · rename_i x
            split at h
            · rename_i f' fst cap hx
              split at h
              · rename_i vs hvs
                split at h
                · rename_i d' hd
                  split at h
                  · rename_i hc
                    split at h
                    · rename_i y' hy
                      injection h with h; injection h with h1 h2; injection h2 with h2 h3; injection h3 with h3 h4; injection h4 with h4 h5; injection h5 with h5 h6
                      subst h1; subst h2; subst h3; subst h4; subst h5; subst h6
                      exact WA.callP hi hg ho hx hvs hd hc rfl hD hy hf hs next
                    · cases h
                  · cases h
                · cases h
              · cases h
            · cases h
          · cases h
        · cases h
      · cases h
    · cases h
  · cases h
theorem WA.x {xs : List AV} {i : Int} {f : AV → Option (List Nat × AEnv)} {y y' : AV} (h : wix K.S K.gs K.n all π E = some (xs, i, f)) (h0 : 0 ≤ i) (hy : xs[i.toNat]? = some y) (hy' : y = y') (hf : f y' = some (π', E')) (next : WA K all m k pubs Y π' E' Λ D) : WA K all m k pubs Y π E Λ D := by
  unfold wix at h
  split at h
  · rename_i j π0
    split at h
    · rename_i o hj
      split at h
      · rename_i ks hg
        split at h
        · rename_i t x ix ho
          split at h
          · rename_i xv hx
            split at h
            · rename_i kk i' hi
              split at h
              · rename_i ti ht
                split at h
                · rename_i el hd
                  split at h
                  · rename_i ei he
                    split at h
                    · rename_i xs' own hs
                      injection h with h; injection h with h1 h2; injection h2 with h2 h3; subst h1; subst h2; subst h3
                      simp only at hf
                      split at hf
                      · rename_i E1 hput
                        injection hf with hf; injection hf with h1 h2; subst h1; subst h2
                        exact WA.index hj hg ho hx hi ht hd he hs h0 hy hy' hput next
                      · cases hf
                    · cases h
                  · cases h
                · cases h
              · cases h
            · cases h
          · cases h
        · cases h
      · cases h
    · cases h
  · cases h
end
end Go.Tp
