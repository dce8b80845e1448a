/-
  Chapter 27: what is found in a trace.
-/
import Derived.Test.YtlfabjfajcbdcaaAs8
set_option linter.unusedSimpArgs false
set_option linter.unusedVariables false
namespace Go.Fx.Ytlfabjfajcbdcaa
open Go Go.Fx Go.Proofs
set_option maxRecDepth 20000

def note (m : List (Th × Int)) (fs : List (Th × Bool)) (kind n : Int) : List (Th × Bool) := if ver m (kind, n) > 0 then AL.set fs (kind, n) true else fs
def fs0 (m : List (Th × Int)) : List (Th × Bool) := note m (note m [] 1 1) 2 0
def ff (m : List (Th × Int)) (p : Th × Bool) : Fact := ⟨p.1.1, p.1.2, (AL.get m p.1).getD 0⟩
theorem fs0_len (m : List (Th × Int)) : (fs0 m).length ≤ 2 := by
  unfold fs0 note
  split <;> split <;> simp [AL.set] <;> decide
theorem fs0_key (m : List (Th × Int)) : ∀ p ∈ fs0 m, p.1 = (1, 1) ∨ p.1 = (2, 0) := by
  unfold fs0 note
  split <;> split <;> simp [AL.set]
theorem fs0_small (m : List (Th × Int)) : ∀ x ∈ (fs0 m).map (ff m), smallF x := by
  intro x hx
  obtain ⟨p, hp, rfl⟩ := List.mem_map.1 hx
  rcases fs0_key m p hp with e | e <;> simp [ff, smallF, e]
theorem fs0_pos {m : List (Th × Int)} (h : ver m (1, 1) > 0) : 0 < (fs0 m).length := by
  unfold fs0 note
  rw [if_pos h]
  split <;> simp [AL.set]

end Go.Fx.Ytlfabjfajcbdcaa
