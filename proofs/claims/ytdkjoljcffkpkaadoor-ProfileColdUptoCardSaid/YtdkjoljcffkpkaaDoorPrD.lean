/-
  Chapter 14: the plain law of ProfileCold.
-/
import Derived.Test.YtdkjoljcffkpkaaDoorPrM
set_option linter.unusedSimpArgs false
set_option linter.unusedVariables false
set_option linter.unusedSectionVars false
namespace Go.Fx.YtdkjoljcffkpkaaDoor
open Go Go.Fx Go.Proofs
set_option maxRecDepth 20000

theorem u8_nat {xs : List Int} (hk : ∀ x ∈ xs, 0 ≤ x ∧ x ≤ 255) {x : Int} (hx : x ∈ xs) : ∃ n : Nat, x = (n : Int) ∧ n ≤ 255 := by
  have := hk x hx
  exact ⟨x.toNat, by omega, by omega⟩
theorem u8_open {R : Hp} {x : Int} {c : List Value} (h : Ty.u8.rel R x c) : c = [.int .u8 x] := h
structure CInv (c b : Nat) (lm : List (Int × Int)) (s : PS) : Prop where
  sample : s.sample = 1
  warm : s.warm = 1
  hot : s.hot = 2
  cold : s.cold = c
  lmb : ∀ x, 0 ≤ (AL.get lm x).getD 0 ∧ (AL.get lm x).getD 0 + 1 ≤ (c : Int)
  st : (b = 3 ∧ (s.rc ((0, 0) : Pl)).tier = -1) ∨ (b < 3 ∧ (s.rc ((0, 0) : Pl)).failures = b ∧ (s.rc ((0, 0) : Pl)).exits = lm ∧
    (((s.rc ((0, 0) : Pl)).tier = 0 ∧ (s.rc ((0, 0) : Pl)).count = 0) ∨ ((s.rc ((0, 0) : Pl)).tier = 1 ∧ (s.rc ((0, 0) : Pl)).count = 1) ∨ (s.rc ((0, 0) : Pl)).tier = 2))
structure CIn (c b : Nat) (lm : List (Int × Int)) (k n : Nat) (s : PS) : Prop where
  inv : CInv c b lm s
  up : b = 3 ∨ (n : Int) ≤ s.tier ((0, 0) : Pl)
  nb : s.n ≤ 3 * k + n
  le : n ≤ 2
theorem CInv.start {c : Nat} (hc : 1 ≤ c) : CInv c 0 [] ⟨1, 1, 2, c, [], [], 0⟩ :=
  ⟨rfl, rfl, rfl, rfl, fun x => by simp [AL.get]; omega, .inr ⟨by decide, rfl, rfl, .inl ⟨rfl, rfl⟩⟩⟩
theorem CInv.tier_cases {c b : Nat} {lm : List (Int × Int)} {s : PS} (i : CInv c b lm s) : (b = 3 ∧ s.tier ((0, 0) : Pl) = -1) ∨ (b < 3 ∧ 0 ≤ s.tier ((0, 0) : Pl) ∧ s.tier ((0, 0) : Pl) ≤ 2) := by
  rw [tier_rc]
  rcases i.st with ⟨h1, h2⟩ | ⟨h1, _, _, h2⟩
  · exact .inl ⟨h1, h2⟩
  · refine .inr ⟨h1, ?_⟩
    rcases h2 with ⟨h, _⟩ | ⟨h, _⟩ | h <;> rw [h] <;> decide
theorem CInv.into {c b : Nat} {lm : List (Int × Int)} {k : Nat} {s : PS} (i : CInv c b lm s) (hn : s.n ≤ 3 * k) : CIn c b lm k 0 s :=
  ⟨i, by rcases i.tier_cases with ⟨h, _⟩ | ⟨_, h, _⟩; exact .inl h; exact .inr h, by omega, by decide⟩
theorem CIn.back {c b : Nat} {lm : List (Int × Int)} {k n : Nat} {s : PS} (i : CIn c b lm k n s) (hn : n < 2) (h0 : 0 ≤ s.tier ((0, 0) : Pl)) (h2 : s.tier ((0, 0) : Pl) < 2) :
    CIn c b lm k (n + 1) (s.back ((0, 0) : Pl)).1 := by
  obtain ⟨⟨i1, i2, i3, i4, i5, i6⟩, iu, i7, i8⟩ := i
  rw [tier_rc] at h0 h2 iu
  obtain ⟨r, hr⟩ : ∃ r, s.rc ((0, 0) : Pl) = r := ⟨_, rfl⟩
  rw [hr] at i6 h0 h2 iu
  rcases i6 with ⟨_, h⟩ | ⟨hb, hf, he, ht⟩
  · omega
  have hneg : ¬ r.tier < 0 := by omega
  have hmod : Int.tmod (r.calls + 1) s.sample = 0 := by rw [i1]; exact Int.tmod_one _
  rcases ht with ⟨ht, hcn⟩ | ⟨ht, hcn⟩ | ht
  · have e := back_warm (s := s) hr hneg hmod ht (by rw [i2, hcn]; decide)
    rw [e]
    refine ⟨⟨i1, i2, i3, i4, i5, .inr ⟨hb, ?_⟩⟩, ?_, ?_, by omega⟩
    · rw [rc_decide, hcn]
      exact ⟨hf, he, .inr (.inl ⟨rfl, rfl⟩)⟩
    · rw [tier_rc, rc_decide]
      right
      show ((n + 1 : Nat) : Int) ≤ 1
      omega
    · show s.n + 1 ≤ _
      omega
  · have e := back_hot (s := s) hr hneg hmod ht (by rw [i3, hcn]; decide)
    rw [e]
    refine ⟨⟨i1, i2, i3, i4, i5, .inr ⟨hb, ?_⟩⟩, ?_, ?_, by omega⟩
    · rw [rc_decide, hcn]
      exact ⟨hf, he, .inr (.inr rfl)⟩
    · rw [tier_rc, rc_decide]
      right
      show ((n + 1 : Nat) : Int) ≤ 2
      omega
    · show s.n + 1 ≤ _
      omega
  · omega
/-- What holds when a round's backs are done. -/
structure CMid (c b : Nat) (lm : List (Int × Int)) (k : Nat) (s : PS) : Prop where
  inv : CInv c b lm s
  st : b = 3 ∨ s.tier ((0, 0) : Pl) = 2
  n : s.n ≤ 3 * k + 2
theorem CIn.mid {c b : Nat} {lm : List (Int × Int)} {k n : Nat} {s : PS} (i : CIn c b lm k n s) (h : ¬ n < 2 ∨ ¬ 0 ≤ s.tier ((0, 0) : Pl) ∨ ¬ s.tier ((0, 0) : Pl) < 2) : CMid c b lm k s := by
  refine ⟨i.inv, ?_, by have := i.nb; have := i.le; omega⟩
  have := i.up
  have := i.le
  rcases i.inv.tier_cases with ⟨h1, _⟩ | ⟨h1, h2, h3⟩
  · exact .inl h1
  · omega
theorem CMid.done {c b : Nat} {lm : List (Int × Int)} {k : Nat} {s : PS} (i : CMid c b lm k s) (hb : b = 3) (x : Int) : s.left ((0, 0) : Pl) x = (s, false) := by
  rcases i.inv.st with ⟨_, h⟩ | ⟨h, _⟩
  · cases e : AL.get s.recs ((0, 0) : Pl) with
    | none => exact left_none x e
    | some r =>
      rw [PS.rc_some e] at h
      exact left_not e (.inl (by omega))
  · omega
theorem CMid.some {c b : Nat} {lm : List (Int × Int)} {k : Nat} {s : PS} (i : CMid c b lm k s) (hb : b ≠ 3) : ∃ r, AL.get s.recs ((0, 0) : Pl) = some r ∧ r.tier = 2 ∧ r.failures = b ∧ r.exits = lm ∧ b < 3 := by
  rcases i.inv.st with ⟨h, _⟩ | ⟨h1, h2, h3, _⟩
  · exact absurd h hb
  · have h4 := i.st.resolve_left hb
    cases e : AL.get s.recs ((0, 0) : Pl) with
    | none => simp [PS.tier, e] at h4
    | some r =>
      rw [PS.rc_some e] at h2 h3
      rw [tier_some e] at h4
      exact ⟨r, rfl, h4, h2, h3, h1⟩
theorem CMid.stay {c b : Nat} {lm : List (Int × Int)} {k : Nat} {s : PS} (i : CMid c b lm k s) (hb : b ≠ 3) {x : Int} (hx : 0 ≤ x) (h : (AL.get lm x).getD 0 + 1 ≠ (c : Int)) :
    (s.left ((0, 0) : Pl) x).2 = false ∧ CInv c b (AL.set lm x ((AL.get lm x).getD 0 + 1)) (s.left ((0, 0) : Pl) x).1 ∧ (s.left ((0, 0) : Pl) x).1.n ≤ 3 * (k + 1) := by
  obtain ⟨r, hr, ht, hf, he, hb3⟩ := i.some hb
  have hl := i.inv.lmb x
  have e := left_stay (s := s) (e := x) hr ht (by omega) (by rw [he, i.inv.cold]; omega)
  rw [e]
  refine ⟨rfl, ⟨i.inv.sample, i.inv.warm, i.inv.hot, i.inv.cold, fun y => ?_, .inr ⟨hb3, ?_⟩⟩, ?_⟩
  · rw [AL.get_set]
    split
    · simp only [Option.getD_some]; omega
    · exact i.inv.lmb y
  · rw [rc_put, he]
    exact ⟨hf, rfl, .inr (.inr ht)⟩
  · have := i.n
    show s.n + 1 ≤ _
    omega
theorem CMid.gone {c b : Nat} {lm : List (Int × Int)} {k : Nat} {s : PS} (i : CMid c b lm k s) (hc : 1 ≤ c) (hb : b ≠ 3) {x : Int} (hx : 0 ≤ x) (h : (AL.get lm x).getD 0 + 1 = (c : Int)) :
    (s.left ((0, 0) : Pl) x).2 = true ∧ CInv c (b + 1) [] (s.left ((0, 0) : Pl) x).1 ∧ (s.left ((0, 0) : Pl) x).1.n ≤ 3 * (k + 1) := by
  obtain ⟨r, hr, ht, hf, he, hb3⟩ := i.some hb
  have e := left_back (s := s) (e := x) hr ht (by omega) (by rw [he, i.inv.cold]; omega)
  rw [e]
  have h0 : ∀ y : Int, 0 ≤ (AL.get ([] : List (Int × Int)) y).getD 0 ∧ (AL.get ([] : List (Int × Int)) y).getD 0 + 1 ≤ (c : Int) := fun y => by simp [AL.get]; omega
  by_cases hf3 : r.failures + 1 = 3
  · rw [setBack_up (r := { r with exits := AL.set r.exits x ((AL.get r.exits x).getD 0 + 1), count := s.warm }) hf3]
    refine ⟨rfl, ⟨i.inv.sample, i.inv.warm, i.inv.hot, i.inv.cold, h0, .inl ⟨by omega, ?_⟩⟩, ?_⟩
    · rw [rc_decide]
    · have := i.n
      show s.n + 1 ≤ _
      omega
  · rw [setBack_on (r := { r with exits := AL.set r.exits x ((AL.get r.exits x).getD 0 + 1), count := s.warm }) hf3]
    refine ⟨rfl, ⟨i.inv.sample, i.inv.warm, i.inv.hot, i.inv.cold, h0, .inr ⟨by omega, ?_⟩⟩, ?_⟩
    · rw [rc_decide]
      refine ⟨?_, rfl, .inr (.inl ⟨rfl, i.inv.warm⟩)⟩
      show r.failures + 1 = ((b + 1 : Nat) : Int)
      omega
    · have := i.n
      show s.n + 1 ≤ _
      omega
theorem CMid.keep {c b : Nat} {lm : List (Int × Int)} {k : Nat} {s : PS} (i : CMid c b lm k s) (hb : b = 3) (x : Int) :
    (s.left ((0, 0) : Pl) x).2 = false ∧ CInv c b lm (s.left ((0, 0) : Pl) x).1 ∧ (s.left ((0, 0) : Pl) x).1.n ≤ 3 * (k + 1) := by
  rw [i.done hb x]
  exact ⟨rfl, i.inv, by have := i.n; show s.n ≤ _; omega⟩
theorem CInv.end {c b : Nat} {lm : List (Int × Int)} {s : PS} (i : CInv c b lm s) : (s.tier ((0, 0) : Pl) == -1) = ((b : Int) == 3) := by
  refine decide_eq_decide.2 ?_
  rcases i.tier_cases with ⟨h1, h2⟩ | ⟨h1, h2, h3⟩ <;> omega
end Go.Fx.YtdkjoljcffkpkaaDoor
