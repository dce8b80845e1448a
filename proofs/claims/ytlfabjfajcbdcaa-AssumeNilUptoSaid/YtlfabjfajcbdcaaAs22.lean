/-
  Chapter 27: the zero registry; what AssumeNil wants, as plain law.
-/
import Derived.Test.YtlfabjfajcbdcaaAs20
set_option linter.unusedSimpArgs false
set_option linter.unusedVariables false
set_option linter.unusedSectionVars false
namespace Go.Fx.Ytlfabjfajcbdcaa
open Go Go.Fx Go.Proofs
set_option maxRecDepth 20000

def zr : RS := ⟨[], [], 0⟩
def z1 : RS := zr.add 2 []
theorem zr_ok : zr.Ok := ⟨AL.Ok.nil, fun k xs h => by simp [zr, AL.get] at h, fun k v h => by simp [zr, AL.get] at h⟩
theorem zr_add : zr.addE 2 [] = 0 := by decide
theorem z1_mods : z1.mods.length ≤ 1048576 := by decide
theorem z1_cnt : z1.cnt ≤ 1000000 := by decide
theorem z1_rm : (z1.remove 3).mods.length ≤ 1048576 := by decide

theorem Reg.zero {w w0 : World} {R0 R : Hp} {L0 Lr : List Hp} {p : Nat} (h : Step w0 R0 L0 w R (one p (.cells #[.map none, .map none] 60 (0, 0)) :: Lr)) : ∃ c, Step w0 R0 L0 w R (c :: Lr) ∧ Reg R p zr c := by
  have h1 := (h.nothing.front 1 rfl rfl)
  have h2 := h1.nothing.front 1 rfl rfl
  exact Reg.close (bv := none) (bm := none) (cV := non) (cM := non) (s := zr) h2 (.inl ⟨rfl, rfl, rfl⟩) (.inl ⟨rfl, rfl, rfl⟩) zr_ok (fun _ => rfl)

theorem djAt {L : List Hp} (h : L.Pairwise Dj) {i j : Nat} {c d : Hp} (hij : Nat.blt i j = true) (hi : L[i]? = some c) (hj : L[j]? = some d) : Dj c d := by
  have hij' : i < j := by simpa using hij
  obtain ⟨h1, h2⟩ := List.getElem?_eq_some_iff.1 hi
  obtain ⟨h3, h4⟩ := List.getElem?_eq_some_iff.1 hj
  have := List.pairwise_iff_getElem.1 h i j h1 h3 hij'
  rw [h2, h4] at this
  exact this

theorem holds_new {s : RS} (h : s.mods = []) {k : Int} {xs : List Fact} : holds (s.add k xs).vers (s.add k xs).mods k = (s.addE k xs == 0) := by
  by_cases h0 : s.addE k xs = 0
  · have hc : cur s.vers xs = true := by
      unfold RS.addE at h0
      split at h0
      · cases h0
      · split at h0
        · cases h0
        · split at h0
          · cases h0
          · split at h0
            · cases h0
            · rename_i h'; simpa using h'
    rw [RS.add_ok h0]
    simp [holds, AL.get_set, hc, h0]
  · rw [RS.add_same rfl h0]
    simp [holds, h, AL.get, h0]
end Go.Fx.Ytlfabjfajcbdcaa
