/-
  Chapter 14: places in order.
-/
import Derived.Test.YtdkjoljcffkpkaaDoorPr8
import Derived.Test.YtdkjoljcffkpkaaDoorPrK
set_option linter.unusedSimpArgs false
set_option linter.unusedVariables false
namespace Go.Fx.YtdkjoljcffkpkaaDoor
open Go Go.Fx Go.Proofs
set_option maxRecDepth 20000

/-- The first number that is not zero. -/
def orF : List Int → Int
  | [] => 0
  | x :: xs => if x = 0 then orF xs else x
theorem orF_yes {xs : List Int} {k : Nat} {q : Int} (hk : k < xs.length) (h : orF (xs.drop k) = q) (hx : xs[k] ≠ 0) : xs[k] = q := by
  rw [List.drop_eq_getElem_cons hk] at h
  simp only [orF] at h
  rw [if_neg hx] at h
  exact h
theorem orF_no {xs : List Int} {k : Nat} {q : Int} (hk : k < xs.length) (h : orF (xs.drop k) = q) (hx : xs[k] = 0) : orF (xs.drop (k + 1)) = q := by
  rw [List.drop_eq_getElem_cons hk] at h
  simp only [orF] at h
  rw [if_pos hx] at h
  exact h
theorem orF_end {xs : List Int} {k : Nat} {q : Int} (hk : xs.length ≤ k) (h : orF (xs.drop k) = q) : 0 = q := by
  rw [List.drop_eq_nil_of_le hk] at h
  exact h
theorem ret_int {a b : Int} (h : a = b) : Ending.returned (retV [int a]) = .returned (int b) := by subst h; rfl

/-- By the first number, then by the second. -/
def leP (a b : Pl) : Bool := decide (a.1 < b.1 ∨ (a.1 = b.1 ∧ a.2 ≤ b.2))
theorem leP_trans : ∀ a b c, leP a b = true → leP b c = true → leP a c = true := fun a b c h1 h2 => by simp only [leP, decide_eq_true_eq] at *; omega
theorem leP_total : ∀ a b, (leP a b || leP b a) = true := fun a b => by simp only [leP, Bool.or_eq_true, decide_eq_true_eq]; omega
/-- How places are compared. -/
def cmpP (a b : Pl) : Int := orF [Lib.compareInt a.1 b.1, Lib.compareInt a.2 b.2]
theorem cmpP_lt (a b : Pl) : cmpP a b < 0 ↔ leP b a = false := by
  simp only [cmpP, orF, leP, decide_eq_false_iff_not, Lib.compareInt]
  by_cases h1 : a.1 < b.1 <;> by_cases h2 : b.1 < a.1 <;> by_cases h3 : a.2 < b.2 <;> by_cases h4 : b.2 < a.2 <;> simp [h1, h2, h3, h4] <;> omega
theorem le_of_lt {a b : Pl} (h : cmpP a b < 0) : leP a b = true := by
  have h1 := (cmpP_lt a b).1 h
  have h2 := leP_total a b
  rw [h1, Bool.or_false] at h2
  exact h2
theorem le_of_nlt {a b : Pl} (h : ¬ cmpP a b < 0) : leP b a = true := by
  cases e : leP b a with
  | true => rfl
  | false => exact absurd ((cmpP_lt a b).2 e) h
theorem tyPl_open {R : Hp} {x : Pl} {c : List Value} (h : tyPl.rel R x c) : c = [.int .i64 x.1, .int .i64 x.2] := by
  obtain ⟨c1, c2, rfl, e1, e2⟩ := h
  have h1 : c1 = [_] := e1
  have h2 : c2 = [_] := e2
  subst h1; subst h2; rfl
theorem tyPl_mk (R : Hp) (a b : Int) : tyPl.rel R (a, b) [.int .i64 a, .int .i64 b] := ⟨[_], [_], rfl, rfl, rfl⟩
theorem tyPl_mk' (R : Hp) (x : Pl) : tyPl.rel R x [.int .i64 x.1, .int .i64 x.2] := ⟨[_], [_], rfl, rfl, rfl⟩
/-- How many bits n takes, up to 12. -/
def bl (n : Nat) : Int := Lib.bitLen (n : Int).toNat
theorem upto12 {n : Nat} (h : n ≤ 12) : n = 0 ∨ n = 1 ∨ n = 2 ∨ n = 3 ∨ n = 4 ∨ n = 5 ∨ n = 6 ∨ n = 7 ∨ n = 8 ∨ n = 9 ∨ n = 10 ∨ n = 11 ∨ n = 12 := by omega
theorem conv12 {n : Nat} (hn : n ≤ 12) (w : World) : (convert 3 122 (int (n : Int))).run Tryd.prog w = .ok (.int .u64 (n : Int)) w := by
  rcases upto12 hn with rfl | rfl | rfl | rfl | rfl | rfl | rfl | rfl | rfl | rfl | rfl | rfl | rfl <;> kernel_rfl
theorem x_conv12 {w : World} {ρ : Operand → Value} {o : Oper} {x : Operand} {n : Nat} (ho : o.op = .convert 3 122 x) (hx : ρ x = int (n : Int)) (hn : n ≤ 12) : (execOp ρ o).run Tryd.prog w = .ok (.value (.int .u64 (n : Int))) w := by
  unfold execOp
  simp [ho, hx, conv12 hn]
theorem Len_G {w : World} {n : Nat} (hn : n ≤ 12) : Calls Tryd.prog 63 #[.int .u64 (n : Int)] w fun e w' => e = .returned (int (bl n)) ∧ Grow w w' :=
  (Tryd.bits_Len n w (by omega) (by omega)).mono fun e w' ⟨he, hw⟩ => ⟨he, by rw [hw]; exact Grow.refl _⟩
theorem Compare_G {w : World} (x y : Int) : Calls Tryd.prog 38 #[int x, int y] w fun e w' => e = .returned (int (Lib.compareInt x y)) ∧ Grow w w' :=
  (Tryd.cmp_Compare_int x y w).mono fun e w' ⟨he, hw⟩ => ⟨he, by rw [hw]; exact Grow.refl _⟩
end Go.Fx.YtdkjoljcffkpkaaDoor
