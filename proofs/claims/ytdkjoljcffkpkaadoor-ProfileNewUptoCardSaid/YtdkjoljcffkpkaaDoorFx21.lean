/-
  A store into a block of one's own, told of the world alone.
-/
import Derived.Test.YtdkjoljcffkpkaaDoorFx20
set_option linter.unusedSimpArgs false
set_option linter.unusedVariables false
set_option linter.unusedSectionVars false
namespace Go.Fx
open Go Go.Instr
theorem run_storeW {P : Program} {w0 w : World} {R0 R : Hp} {L0 Lc : List Hp} (hst : Step w0 R0 L0 w R Lc) {t : TypeId} {agg : Bool} {sz bytes : Nat} {z v : Value} {b off : Nat} {cs cs' : Array Value} {T : TypeId} (i : Nat) {L' : List Hp} (ti : TI P t agg sz bytes z)
    (hi : Lc[i]? = some (one b (.cells cs T (0, 0)))) (hs : v.cells.size = sz) (h1 : v.cells.toList.all (·.oneCell') = true) (hf : Nat.ble (off + sz) cs.size = true)
    (hc : put cs off v.cells.toList = cs') (hL : Lc.set i (one b (.cells cs' T (0, 0))) = L') : ∃ w', (storeVar t ⟨b, off, none⟩ v).run P w = .ok () w' ∧ Step w0 R0 L0 w' R L' := by
  subst hc
  have hr := run_storeVar (P := P) ti (hst.blk hi) hs h1 (Nat.le_of_ble_eq_true hf)
  exact ⟨_, hr, hst.set hi _ hL⟩
end Go.Fx
