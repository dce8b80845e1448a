/-
  Chapter 14: what all closings want: the table.
-/
import Derived.Test.YtdkjoljcffkpkaaDoorCards
import Derived.Test.YtdkjoljcffkpkaaDoorTie
import Derived.Test.YtdkjoljcffkpkaaDoorPrM
import Derived.Test.YtdkjoljcffkpkaaDoorFx17
import Derived.WalkKit
import Derived.ProofKit
import Derived.OpenShut
import Derived.Deep.DeepHandedRow
import Derived.Lib.LaidTab
namespace Go.Fx.YtdkjoljcffkpkaaDoor
open Go Go.ChangeShapes Go.WideShapes Go.ChangeAt Go.RowKit Go.Fx Go.Proofs Go.Proofs.YtdkjoljcffkpkaaDoor
set_option linter.unusedVariables false
set_option maxRecDepth 20000

theorem own : ownKnob Tryd.prog.godebug = none := by kernel_rfl
theorem gTabType : (Tryd.prog.globals[0]?).map (·.type) = some 154 := by kernel_rfl
theorem tab3 {W : World} (h : laidMetH Tryd.prog Rows.profileWarmsUptoRow.laid W) : Tab (hp W) := by
  have h : laidMet Tryd.prog Rows.profileWarmsUptoRow.laid W := h
  obtain ⟨ps, ⟨g1, t1, c1, f1, p1, q1, _, _, _, _, h2, _⟩, _⟩ := h
  obtain ⟨g2, t2, c2, f2, p2, q2, _, _, _, _, h3, _⟩ := h2
  obtain ⟨g3, t3, c3, f3, p3, q3, hg, ht, hvar, hd, _, _⟩ := h3
  obtain rfl := Option.some.inj (gTab.symm.trans hg)
  obtain rfl := Option.some.inj (gTabType.symm.trans ht)
  have hc := Lib.cells_of_tab (k := .u64) (zs := Lib.pow10Tab) Tryd.underlying154 (by kernel_rfl) (by kernel_rfl) (by kernel_rfl) hd
  obtain rfl : c3 = (Lib.pow10Tab.map fun z => Value.int .u64 z).toArray := by rw [← hc]
  unfold World.var? at hvar
  simp only [gTab, Option.bind_eq_bind, Option.bind_some] at hvar
  unfold Tab
  show ∃ T fz, W.heap[0]? = _
  split at hvar
  · rename_i e
    cases hvar
    exact ⟨_, _, e⟩
  · cases hvar
end Go.Fx.YtdkjoljcffkpkaaDoor
