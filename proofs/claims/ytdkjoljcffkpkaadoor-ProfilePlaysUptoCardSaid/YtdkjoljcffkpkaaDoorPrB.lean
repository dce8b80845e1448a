/-
  Chapter 14: the builder of strings.
-/
import Derived.Test.YtdkjoljcffkpkaaDoorPrS
import Derived.Test.YtdkjoljcffkpkaaDoorFx23
import Derived.Lib.Builder
import Derived.Laws.Externs
set_option linter.unusedSimpArgs false
set_option linter.unusedVariables false
namespace Go.Fx.YtdkjoljcffkpkaaDoor
open Go Go.Fx Go.Proofs
set_option maxRecDepth 20000

/-- The piece c is a builder at B that holds l. -/
def Bld (B : Nat) (l : List UInt8) (c : Hp) : Prop :=
  ∃ addr v cb, c = uni (one B (.cells #[addr, v] 86 (0, 0))) cb ∧ Dj (one B (.cells #[addr, v] 86 (0, 0))) cb ∧ (addr = .pointer none ∨ addr = ptr B 0) ∧ OwnS 5 1 v l.length (Lib.byteCells l) cb
theorem OwnS_shape {T sz : Nat} {v : Value} {n : Nat} {cells : List Value} {c : Hp} (h : OwnS T sz v n cells c) : ∃ a cap, v = .slice a n cap := by
  rcases h with ⟨rfl, rfl, _⟩ | ⟨b, cap, cs, rfl, _⟩
  · exact ⟨_, _, rfl⟩
  · exact ⟨_, _, rfl⟩

theorem infoB : ∃ j, Tryd.prog.info? 86 = some j ∧ j.size = 2 := by
  have h : (Tryd.prog.info? 86).map (·.size) = some 2 := by kernel_rfl
  obtain ⟨j, h1, h2⟩ := Option.map_eq_some_iff.1 h
  exact ⟨j, h1, h2⟩
theorem liesB : liesAt Tryd.prog Tryd.prog.depth 86 (2 / Tryd.prog.cellsOf 86) 0 86 1 = true := by kernel_rfl
theorem shapeB {w : World} {B : Nat} {x y : Value} (hb : w.heap[B]? = some (.cells #[x, y] 86 (0, 0))) : w.shape? B = some (86, 2) := by
  simp [World.shape?, hb]
theorem x_toU {w : World} {ρ : Operand → Value} {o : Oper} {x : Operand} {B : Nat} {a b : Value} (ho : o.op = .convert 84 123 x) (hx : ρ x = ptr B 0) (hb : w.heap[B]? = some (.cells #[a, b] 86 (0, 0))) : (execOp ρ o).run Tryd.prog w = .ok (.value (ptr B 0)) w := by
  obtain ⟨j, h1, h2⟩ := infoB
  have h := Lib.run_to_unsafe (P := Tryd.prog) (w := w) (src := 84) (dst := 123) ⟨B, 0, none⟩ Tryd.underlying84 Tryd.underlying123 h1 (by rw [h2]; decide) (shapeB hb) (Nat.le_of_ble_eq_true rfl)
  unfold execOp
  simp [ho, hx, h]
theorem x_fromU {w : World} {ρ : Operand → Value} {o : Oper} {x : Operand} {B : Nat} {a b : Value} (ho : o.op = .convert 123 84 x) (hx : ρ x = ptr B 0) (hb : w.heap[B]? = some (.cells #[a, b] 86 (0, 0))) : (execOp ρ o).run Tryd.prog w = .ok (.value (ptr B 0)) w := by
  obtain ⟨j, h1, h2⟩ := infoB
  have h := Lib.run_from_unsafe (P := Tryd.prog) (w := w) (src := 123) (dst := 84) ⟨B, 0, none⟩ Tryd.underlying123 Tryd.underlying84 h1 (shapeB hb) liesB
  unfold execOp
  simp [ho, hx, h]
theorem x_noesc {w : World} {ρ : Operand → Value} {o : Oper} {x : Operand} {ts : Array TypeId} {v : Value} (ho : o.op = .call { callee := .value (.func 64), args := #[x], argTypes := ts }) (hf : ρ (.func 64) = .func (.func 64) #[] #[]) (hx : ρ x = v) :
    (execOp ρ o).run Tryd.prog w = .ok (.value v) w := by
  have h : (callFunc 64 #[v]).run Tryd.prog w = .ok (.value v) w := by
    rw [run_callFunc_extern Tryd.func64 (by kernel_rfl) (by kernel_rfl) (by kernel_rfl) (e := Extern.AbiNoEscape.same) (by kernel_rfl)]
    rfl
  unfold execOp
  simp only [ho, resolve, hf, Sem.run_bind, Deferred.ofValue, Sem.run_pure, Result.andThen_ok, invoke]
  simpa [hx] using h
theorem x_same {w : World} {ρ : Operand → Value} {o : Oper} {x y : Operand} {B : Nat} {u : TypeId} (ho : o.op = .binOp .neq 84 x y u) (hx : ρ x = ptr B 0) (hy : ρ y = ptr B 0) : (execOp ρ o).run Tryd.prog w = .ok (.value (.bool false)) w := by
  obtain ⟨j, h1, h2⟩ := infoB
  have h := Lib.run_neq_ptr_same (P := Tryd.prog) w (tp := 84) ⟨B, 0, none⟩ Tryd.underlying84 h1
  have hg : (eqGuard .neq 84 x y (ptr B 0) (ptr B 0)).run Tryd.prog w = .ok () w := by kernel_rfl
  unfold execOp
  simp only [ho, hx, hy, Sem.run_bind, hg, Result.andThen_ok, h, Sem.run_pure]

theorem slB58 : SL Tryd.prog 58 5 := Tryd.underlying58
theorem strB9 : Tryd.prog.underlying 9 = some .string := Tryd.underlying9
theorem tiB5 : TI Tryd.prog 5 false 1 1 (.int .u8 0) := ⟨by kernel_rfl, by kernel_rfl⟩
end Go.Fx.YtdkjoljcffkpkaaDoor
