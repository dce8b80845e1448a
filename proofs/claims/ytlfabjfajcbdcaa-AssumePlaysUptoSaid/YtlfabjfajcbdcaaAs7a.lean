/-
  Chapter 27: equal lists.
-/
import Derived.Test.YtlfabjfajcbdcaaAs6
set_option linter.unusedSimpArgs false
set_option linter.unusedVariables false
namespace Go.Fx.Ytlfabjfajcbdcaa
open Go Go.Fx Go.Proofs
set_option maxRecDepth 20000

theorem take_step {α : Type} {xs ys : List α} {k : Nat} (h : xs.take k = ys.take k) (h1 : k < xs.length) (h2 : k < ys.length) (e : xs[k] = ys[k]) : xs.take (k + 1) = ys.take (k + 1) := by
  rw [List.take_succ_eq_append_getElem h1, List.take_succ_eq_append_getElem h2, h, e]
theorem take_all {α : Type} {xs ys : List α} {k : Nat} (h : xs.take k = ys.take k) (h1 : xs.length ≤ k) (h2 : xs.length = ys.length) : xs = ys := by
  rw [List.take_of_length_le h1, List.take_of_length_le (by omega)] at h
  exact h
theorem ne_at {α : Type} {xs ys : List α} {k : Nat} (h1 : k < xs.length) (h2 : k < ys.length) (e : xs[k] ≠ ys[k]) : xs ≠ ys := by
  rintro rfl
  exact e rfl
theorem ne_len {α : Type} {xs ys : List α} (h : xs.length ≠ ys.length) : xs ≠ ys := by
  rintro rfl
  exact h rfl

/-- The model's '==' on facts. -/
theorem eq38 (x y : Fact) (w : World) : (Op.equal 38 (encFact x) (encFact y)).run Try.prog w = .ok (decide (x = y)) w := by
  have hS : Try.prog.underlying 38 = some (.struct (Try.prog.fieldsOf 38)) := by kernel_rfl
  have hp : Try.prog.stoodInHeld 38 = false := by kernel_rfl
  have h3 := Try.isAgg3
  have u3 := Try.underlying3
  unfold Op.equal Op.maxDepth encFact
  rw [show (10000 : Nat) = 9999 + 1 from rfl, run_equalIn_agg w 9999 38 _ _ hS hp]
  have e : Try.prog.fieldsOf 38 = (match Try.prog.underlying 38 with | some (.struct fs) => fs | _ => #[]) := by kernel_rfl
  rw [e, Try.underlying38]
  have hq : ∀ a b w, (Op.equalIn 9999 3 (.int .i64 a) (.int .i64 b)).run Try.prog w = .ok (a == b) w := fun a b w => run_equalIn_int w 9998 3 .i64 .i64 a b u3
  obtain ⟨a, b, c⟩ := x
  obtain ⟨a', b', c'⟩ := y
  simp only [go_sem, h3]
  by_cases h1 : a = a' <;> by_cases h2 : b = b' <;> by_cases h4 : c = c' <;> simp [h3, hq, h1, h2, h4]

theorem x_neq38 {w : World} {ρ : Operand → Value} {o : Oper} {p q : Operand} {x y : Fact} (ho : o.op = .binOp .neq 38 p q 38) (hx : ρ p = encFact x) (hy : ρ q = encFact y) : (execOp ρ o).run Try.prog w = .ok (.value (.bool (!decide (x = y)))) w := by
  have hg : (eqGuard .neq 38 p q (encFact x) (encFact y)).run Try.prog w = .ok () w := by kernel_rfl
  have he := eq38 x y w
  have hb : binOp .neq 38 (encFact x) (encFact y) = (do let b ← Op.equal 38 (encFact x) (encFact y); pure (.bool !b)) := rfl
  unfold execOp
  simp only [ho, hx, hy, Sem.run_bind, hg, Result.andThen_ok, hb, he, Sem.run_pure]

end Go.Fx.Ytlfabjfajcbdcaa
