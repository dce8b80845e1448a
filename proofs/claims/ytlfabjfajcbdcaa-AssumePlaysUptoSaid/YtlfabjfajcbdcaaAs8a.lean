/-
  Chapter 27: facts in order.
-/
import Derived.Test.YtlfabjfajcbdcaaAs7
set_option linter.unusedSimpArgs false
set_option linter.unusedVariables false
namespace Go.Fx.Ytlfabjfajcbdcaa
open Go Go.Fx Go.Proofs
set_option maxRecDepth 20000

/-- The first number that is not zero. -/
def orF : List Int → Int
  | [] => 0
  | x :: xs => if x = 0 then orF xs else x
theorem orF_yes {xs : List Int} {k : Nat} {q : Int} (hk : k < xs.length) (h : orF (xs.drop k) = q) (hx : xs[k] ≠ 0) : xs[k] = q := by
  rw [List.drop_eq_getElem_cons hk] at h
  simp only [orF] at h
  rw [if_neg hx] at h
  exact h
theorem orF_no {xs : List Int} {k : Nat} {q : Int} (hk : k < xs.length) (h : orF (xs.drop k) = q) (hx : xs[k] = 0) : orF (xs.drop (k + 1)) = q := by
  rw [List.drop_eq_getElem_cons hk] at h
  simp only [orF] at h
  rw [if_pos hx] at h
  exact h
theorem orF_end {xs : List Int} {k : Nat} {q : Int} (hk : xs.length ≤ k) (h : orF (xs.drop k) = q) : 0 = q := by
  rw [List.drop_eq_nil_of_le hk] at h
  exact h

/-- By kind, then by number. -/
def leF (a b : Fact) : Bool := decide (a.kind < b.kind ∨ (a.kind = b.kind ∧ a.n ≤ b.n))
theorem leF_trans : ∀ a b c, leF a b = true → leF b c = true → leF a c = true := fun a b c h1 h2 => by simp only [leF, decide_eq_true_eq] at *; omega
theorem leF_total : ∀ a b, (leF a b || leF b a) = true := fun a b => by simp only [leF, Bool.or_eq_true, decide_eq_true_eq]; omega
/-- How facts are compared. -/
def cmpF (a b : Fact) : Int := orF [a.kind - b.kind, a.n - b.n]
theorem cmpF_lt (a b : Fact) : cmpF a b < 0 ↔ leF b a = false := by
  simp only [cmpF, orF, leF, decide_eq_false_iff_not]
  split
  · split <;> omega
  · omega
/-- Numbers that are not large. -/
def smallF (f : Fact) : Prop := 0 ≤ f.kind ∧ f.kind ≤ 1000 ∧ 0 ≤ f.n ∧ f.n ≤ 1000
theorem le_of_lt {a b : Fact} (h : cmpF a b < 0) : leF a b = true := by
  have h1 := (cmpF_lt a b).1 h
  have h2 := leF_total a b
  rw [h1, Bool.or_false] at h2
  exact h2
theorem le_of_nlt {a b : Fact} (h : ¬ cmpF a b < 0) : leF b a = true := by
  cases e : leF b a with
  | true => rfl
  | false => exact absurd ((cmpF_lt a b).2 e) h

end Go.Fx.Ytlfabjfajcbdcaa
