/-
  More operations: the lesser of two numbers, remainders, slices cut.
-/
import Derived.Test.YtjpdhfhiimbpgaaGreatDoorFx17
set_option linter.unusedSimpArgs false
set_option linter.unusedVariables false
set_option linter.unusedSectionVars false
namespace Go.Fx
open Go

section
variable {P : Program} {w : World} {ρ : Operand → Value} {o : Oper} {x y : Operand} {t yt : TypeId}

theorem x_min_nat {t1 t2 : TypeId} {a b : Nat} (ho : o.op = .call { callee := .builtin .min, args := #[x, y], argTypes := #[t1, t2] }) (hx : ρ x = int (a : Int)) (hy : ρ y = int (b : Int)) :
    (execOp ρ o).run P w = .ok (.value (int ((min a b : Nat) : Int))) w := by
  unfold execOp
  simp only [ho, resolve, hx, hy, invoke, builtin, Builtin.min_, Sem.run_bind, Sem.run_pure, Result.andThen_ok, List.map_toArray, List.map_cons, List.map_nil]
  simp [Builtin.min2]
  omega
theorem x_rem_nat {a b : Nat} (ho : o.op = .binOp .rem t x y yt) (hx : ρ x = int (a : Int)) (hy : ρ y = int (b : Int)) (h : b ≠ 0) : (execOp ρ o).run P w = .ok (.value (int ((a % b : Nat) : Int))) w := by
  rw [x_rem (P := P) (w := w) ho hx hy (by omega)]
  congr 3

theorem x_slice {e : TypeId} {lo hi mx : Option Operand} {v v' : Value} (hu : SL P t e) (ho : o.op = .slice t x lo hi mx) (hx : ρ x = v) (h : (Instr.slice t v (lo.map ρ) (hi.map ρ) (mx.map ρ)).run P w = .ok v' w) :
    (execOp ρ o).run P w = .ok (.value v') w := by
  unfold execOp
  simp [ho, hx, Instr.sliceAt, run_underlying hu, h]

theorem run_sliceHi {e : TypeId} {agg : Bool} {sz bytes k len cap : Nat} {z : Value} {a : Option Addr} (hu : SL P t e) (he : TI P e agg sz bytes z) (hk : k ≤ cap) :
    (Instr.slice t (.slice a len cap) none (some (int (k : Int))) none).run P w = .ok (.slice a k cap) w := by
  unfold Instr.slice
  simp only [Sem.run_bind, run_underlying hu, Result.andThen_ok]
  have h1 : (Instr.sliceBound (int (k : Int)) cap .sliceAcap).run P w = .ok k w := by
    unfold Instr.sliceBound
    simp [asIntOf, hk]
  have h2 : (Instr.sliceBounds true len cap none (some (int (k : Int))) none).run P w = .ok (0, k, cap) w := by
    unfold Instr.sliceBounds
    simp [h1]
  simp only [h2, Result.andThen_ok, he.run_size, Sem.run_pure, Sem.run_bind]
  congr 2
  split
  · rfl
  · cases a with
    | none => rfl
    | some a => simp [Addr.add]

variable {α : Type} {ty : Ty α} {R : Hp} {v : Value} {xs : List α}
theorem RdS.take (h : RdS ty R v xs) (k : Nat) (hk : k ≤ xs.length) : ∃ a cap, v = .slice a xs.length cap ∧ xs.length ≤ cap ∧ RdS ty R (.slice a k cap) (xs.take k) := by
  obtain ⟨a, cap, rfl, hc, h⟩ := h
  refine ⟨a, cap, rfl, hc, a, cap, ?_, ?_, fun hne => ?_⟩
  · rw [List.length_take, Nat.min_eq_left hk]
  · rw [List.length_take]; omega
  · have hx : xs ≠ [] := fun e => hne (by rw [e]; simp)
    obtain ⟨b, off, cs, T, fz, ha, hb, he⟩ := h hx
    refine ⟨b, off, cs, T, fz, ha, hb, ?_⟩
    have h2 := he.take k
    have e : (seg cs off (xs.length * ty.sz)).take (k * ty.sz) = seg cs off ((xs.take k).length * ty.sz) := by
      simp only [seg, List.take_take, List.length_take]
      congr 1
      rw [Nat.min_eq_left hk, Nat.min_eq_left (Nat.mul_le_mul_right _ hk)]
    rw [e] at h2
    exact h2
theorem RdS.sliceHi {e : TypeId} {agg : Bool} {sz bytes k : Nat} {z : Value} (hu : SL P t e) (he : TI P e agg sz bytes z) (h : RdS ty R v xs) (hk : k ≤ xs.length) :
    ∃ v', (Instr.slice t v none (some (int (k : Int))) none).run P w = .ok v' w ∧ RdS ty R v' (xs.take k) := by
  obtain ⟨a, cap, rfl, hc, h'⟩ := h.take k hk
  exact ⟨_, run_sliceHi hu he (by omega), h'⟩
end
end Go.Fx
