/-
  A part of a row of cells.
-/
import Derived.Test.YtdkjoljcffkpkaaDoorFx23
set_option linter.unusedSimpArgs false
set_option linter.unusedVariables false
namespace Go.Fx
open Go
theorem seg_part {cs : Array Value} {off n : Nat} {l l' : List Value} (h : seg cs off n = l) (a m : Nat) (hm : Nat.ble (a + m) n = true) (e : (l.drop a).take m = l') : seg cs (off + a) m = l' := by
  subst h
  subst e
  have hm := Nat.le_of_ble_eq_true hm
  simp only [seg, List.drop_take, List.take_take, List.drop_drop]
  congr 1
  omega
end Go.Fx
