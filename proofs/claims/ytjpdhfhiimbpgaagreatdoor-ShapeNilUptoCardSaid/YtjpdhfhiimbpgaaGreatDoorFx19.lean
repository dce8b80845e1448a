/-
  How many entries a map has.
-/
import Derived.Test.YtjpdhfhiimbpgaaGreatDoorFx18
set_option linter.unusedSimpArgs false
set_option linter.unusedVariables false
set_option linter.unusedSectionVars false
namespace Go.Fx
open Go

section
variable {P : Program} {w : World} {ρ : Operand → Value} {o : Oper} {x : Operand} {κ β : Type} [DecidableEq κ] {kenc : κ → Value} {vr : β → Value → Prop} {bo : Option Nat} {m : List (κ × β)} {c : Hp} {T kT eT : TypeId}
theorem x_len_map (hm : MapC kenc vr bo m c) (hc : Le c (hp w)) (hT : P.underlying T = some (.map kT eT)) (ho : o.op = .call { callee := .builtin .len, args := #[x], argTypes := #[T] }) (hx : ρ x = .map bo) :
    (execOp ρ o).run P w = .ok (.value (int (m.length : Int))) w := by
  unfold execOp
  rcases hm with ⟨rfl, rfl, rfl⟩ | ⟨b, es, k, rfl, rfl, h3, _⟩
  · simp [ho, resolve, hx, invoke, builtin, Builtin.len_, run_underlying hT, goInt]
  · have hb : w.heap[b]? = some (.map es k) := hc b _ (one_self _ _)
    have hg : (getObj b).run P w = .ok (.map es k) w := by simp [getObj, Sem.run, hb]
    have hl : es.size = m.length := by simpa using h3.length
    simp [ho, resolve, hx, invoke, builtin, Builtin.len_, run_underlying hT, hg, goInt, hl]
end
end Go.Fx
