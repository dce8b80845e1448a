/-
  Chapter 14: what all closings want: the table.
-/
import Derived.Test.YtdkjoljcffkpkaaDoorCards
import Derived.Test.YtdkjoljcffkpkaaDoorTie
import Derived.Test.YtdkjoljcffkpkaaDoorPrL
import Derived.Test.YtdkjoljcffkpkaaDoorFx17
import Derived.WalkKit
import Derived.ProofKit
import Derived.OpenShut
import Derived.Deep.DeepHandedRow
import Derived.Lib.LaidTab
namespace Go.Fx.YtdkjoljcffkpkaaDoor
open Go Go.ChangeShapes Go.WideShapes Go.ChangeAt Go.RowKit Go.Fx Go.Proofs Go.Proofs.YtdkjoljcffkpkaaDoor
set_option linter.unusedVariables false
set_option maxRecDepth 20000

theorem own : ownKnob Tryd.prog.godebug = none := by kernel_rfl
theorem gTabType : (Tryd.prog.globals[0]?).map (·.type) = some 154 := by kernel_rfl
theorem tab3 {W : World} (h : laidMetH Tryd.prog Rows.profileWarmsUptoRow.laid W) : Tab (hp W) := by
  have h : laidMet Tryd.prog Rows.profileWarmsUptoRow.laid W := h
  obtain ⟨ps, ⟨g1, t1, c1, f1, p1, q1, _, _, _, _, h2, _⟩, _⟩ := h
  obtain ⟨g2, t2, c2, f2, p2, q2, _, _, _, _, h3, _⟩ := h2
  obtain ⟨g3, t3, c3, f3, p3, q3, hg, ht, hvar, hd, _, _⟩ := h3
  obtain rfl := Option.some.inj (gTab.symm.trans hg)
  obtain rfl := Option.some.inj (gTabType.symm.trans ht)
  have hc := Lib.cells_of_tab (k := .u64) (zs := Lib.pow10Tab) Tryd.underlying154 (by kernel_rfl) (by kernel_rfl) (by kernel_rfl) hd
  obtain rfl : c3 = (Lib.pow10Tab.map fun z => Value.int .u64 z).toArray := by rw [← hc]
  unfold World.var? at hvar
  simp only [gTab, Option.bind_eq_bind, Option.bind_some] at hvar
  unfold Tab
  show ∃ T fz, W.heap[0]? = _
  split at hvar
  · rename_i e
    cases hvar
    exact ⟨_, _, e⟩
  · cases hvar

theorem okT {f : Func} {W : World} (h : f.resultTypes = #[4]) : ∀ (j : Nat) (t : TypeId) (r : Value), f.resultTypes[j]? = some t → ((Value.bool true).resultList f.resultTypes.size)[j]? = some r → Value.okWide Tryd.prog W .any 0 t r :=
  ok_one h rfl (okWide_bool_mk Tryd.underlying4 _)
theorem okWide_arr {P : Program} {w : World} {r : Reach} {base t n e : Nat} {v : Value} (ht : P.underlying t = some (.array n e)) (h : Value.okWide P w r base t v) : ∃ cs, v = .agg cs ∧ cs.size = P.cellsOf t := by
  simp only [Value.okWide, ht] at h
  obtain ⟨cs, h1, h2, _⟩ := h
  exact ⟨cs, h1, h2⟩
theorem oU8 : Opens Tryd.prog 5 Ty.u8 (fun _ x => 0 ≤ x ∧ x ≤ 255) := Opens.u8 Tryd.underlying5 (by kernel_rfl)
theorem oInt : Opens Tryd.prog 3 Ty.int (fun _ x => I64 x) := Opens.int Tryd.underlying3 (by kernel_rfl)
theorem oU8s : Opens Tryd.prog 58 (Ty.slice Ty.u8) (fun n xs => xs.length + 1 ≤ n ∧ ∀ x ∈ xs, 0 ≤ x ∧ x ≤ 255) := Opens.slice oU8 Tryd.underlying58 (by kernel_rfl) (by decide)
theorem oLim : Opens Tryd.prog 23 (Ty.arr Ty.int 4) (fun _ xs => ∀ x ∈ xs, I64 x) := Opens.array oInt Tryd.underlying23 (by kernel_rfl)
theorem oFour : Opens Tryd.prog 22 (Ty.arr Ty.int 4) (fun _ xs => ∀ x ∈ xs, I64 x) := Opens.array oInt Tryd.underlying22 (by kernel_rfl)
theorem oTwo : Opens Tryd.prog 62 (Ty.arr Ty.int 2) (fun _ xs => ∀ x ∈ xs, I64 x) := Opens.array oInt Tryd.underlying62 (by kernel_rfl)
theorem ints4 {R : Hp} {xs : List Int} {cs : Array Value} (hl : xs.length = 4) (h : Encs Ty.int R xs cs.toList) (hk : ∀ x ∈ xs, I64 x) :
    ∃ a b c d : Int, I64 a ∧ I64 b ∧ I64 c ∧ I64 d ∧ cs = #[.int .i64 a, .int .i64 b, .int .i64 c, .int .i64 d] := by
  obtain ⟨x, y, z, u, rfl⟩ : ∃ x y z u, xs = [x, y, z, u] := by
    match xs, hl with
    | [x, y, z, u], _ => exact ⟨x, y, z, u, rfl⟩
  refine ⟨x, y, z, u, hk x (by simp), hk y (by simp), hk z (by simp), hk u (by simp), ?_⟩
  have hc : cs.toList = [.int .i64 x, .int .i64 y, .int .i64 z, .int .i64 u] := by
    generalize cs.toList = l at h
    cases h with
    | cons e1 t1 =>
      cases t1 with
      | cons e2 t2 =>
        cases t2 with
        | cons e3 t3 =>
          cases t3 with
          | cons e4 t4 =>
            cases t4
            have f1 : _ = [_] := e1
            have f2 : _ = [_] := e2
            have f3 : _ = [_] := e3
            have f4 : _ = [_] := e4
            subst f1; subst f2; subst f3; subst f4
            rfl
  exact Array.ext' (by rw [hc])
theorem ints2 {R : Hp} {xs : List Int} {cs : Array Value} (hl : xs.length = 2) (h : Encs Ty.int R xs cs.toList) (hk : ∀ x ∈ xs, I64 x) :
    ∃ a b : Int, I64 a ∧ I64 b ∧ cs = #[.int .i64 a, .int .i64 b] := by
  obtain ⟨x, y, rfl⟩ : ∃ x y, xs = [x, y] := by
    match xs, hl with
    | [x, y], _ => exact ⟨x, y, rfl⟩
  refine ⟨x, y, hk x (by simp), hk y (by simp), ?_⟩
  have hc : cs.toList = [.int .i64 x, .int .i64 y] := by
    generalize cs.toList = l at h
    cases h with
    | cons e1 t1 =>
      cases t1 with
      | cons e2 t2 =>
        cases t2
        have f1 : _ = [_] := e1
        have f2 : _ = [_] := e2
        subst f1; subst f2
        rfl
  exact Array.ext' (by rw [hc])
/-- A block whose cells are laid anew. -/
def setC (cs : Array Value) : Obj → Obj
  | .cells _ t frozen => .cells cs t frozen
  | o => o
/-- A world for the witness: the settled one, the tables holding what their initialisers lay. -/
noncomputable def laidWorld (os : Os) : World :=
  { World.holding Tryd.prog os ⟨#[], #[], []⟩ with heap := (((World.holding Tryd.prog os ⟨#[], #[], []⟩).heap.modify 2 (setC #[.int .u8 0, .int .u8 1, .int .u8 28, .int .u8 2, .int .u8 29, .int .u8 14, .int .u8 24, .int .u8 3, .int .u8 30, .int .u8 22, .int .u8 20, .int .u8 15, .int .u8 25, .int .u8 17, .int .u8 4, .int .u8 8, .int .u8 31, .int .u8 27, .int .u8 13, .int .u8 23, .int .u8 21, .int .u8 19, .int .u8 16, .int .u8 7, .int .u8 26, .int .u8 12, .int .u8 18, .int .u8 6, .int .u8 11, .int .u8 5, .int .u8 10, .int .u8 9])).modify 3 (setC #[.int .u8 0, .int .u8 1, .int .u8 56, .int .u8 2, .int .u8 57, .int .u8 49, .int .u8 28, .int .u8 3, .int .u8 61, .int .u8 58, .int .u8 42, .int .u8 50, .int .u8 38, .int .u8 29, .int .u8 17, .int .u8 4, .int .u8 62, .int .u8 47, .int .u8 59, .int .u8 36, .int .u8 45, .int .u8 43, .int .u8 51, .int .u8 22, .int .u8 53, .int .u8 39, .int .u8 33, .int .u8 30, .int .u8 24, .int .u8 18, .int .u8 12, .int .u8 5, .int .u8 63, .int .u8 55, .int .u8 48, .int .u8 27, .int .u8 60, .int .u8 41, .int .u8 37, .int .u8 16, .int .u8 46, .int .u8 35, .int .u8 44, .int .u8 21, .int .u8 52, .int .u8 32, .int .u8 23, .int .u8 11, .int .u8 54, .int .u8 26, .int .u8 40, .int .u8 15, .int .u8 34, .int .u8 20, .int .u8 31, .int .u8 10, .int .u8 25, .int .u8 14, .int .u8 19, .int .u8 9, .int .u8 13, .int .u8 8, .int .u8 7, .int .u8 6])).modify 0 (setC #[.int .u64 1, .int .u64 10, .int .u64 100, .int .u64 1000, .int .u64 10000, .int .u64 100000, .int .u64 1000000, .int .u64 10000000, .int .u64 100000000, .int .u64 1000000000, .int .u64 10000000000, .int .u64 100000000000, .int .u64 1000000000000, .int .u64 10000000000000, .int .u64 100000000000000, .int .u64 1000000000000000, .int .u64 10000000000000000, .int .u64 100000000000000000, .int .u64 1000000000000000000, .int .u64 10000000000000000000]) }
end Go.Fx.YtdkjoljcffkpkaaDoor
