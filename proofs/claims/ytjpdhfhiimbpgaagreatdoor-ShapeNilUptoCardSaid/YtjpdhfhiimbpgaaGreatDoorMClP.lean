/-
  ClP, put together.
-/
import Derived.Test.YtjpdhfhiimbpgaaGreatDoorCards
import Derived.Test.YtjpdhfhiimbpgaaGreatDoorTie
import Derived.Test.YtjpdhfhiimbpgaaGreatDoorM3
import Derived.Test.YtjpdhfhiimbpgaaGreatDoorFx17
import Derived.WalkKit
import Derived.ProofKit
import Derived.OpenShut
import Derived.Deep.DeepHandedRow
import Derived.Lib.LaidTab
namespace Go.Fx.YtjpdhfhiimbpgaaGreatDoor
open Go Go.ChangeShapes Go.WideShapes Go.ChangeAt Go.RowKit Go.Fx Go.Proofs Go.Proofs.YtjpdhfhiimbpgaaGreatDoor
set_option linter.unusedVariables false
set_option maxRecDepth 20000

theorem own : ownKnob Tryz.prog.godebug = none := by kernel_rfl
theorem okT {f : Func} {W : World} (h : f.resultTypes = #[4]) : ∀ (j : Nat) (t : TypeId) (r : Value), f.resultTypes[j]? = some t → ((Value.bool true).resultList f.resultTypes.size)[j]? = some r → Value.okWide Tryz.prog W .any 0 t r :=
  ok_one h rfl (okWide_bool_mk Tryz.underlying4 _)
theorem okWide_arr {P : Program} {w : World} {r : Reach} {base t n e : Nat} {v : Value} (ht : P.underlying t = some (.array n e)) (h : Value.okWide P w r base t v) : ∃ cs, v = .agg cs ∧ cs.size = P.cellsOf t := by
  simp only [Value.okWide, ht] at h
  obtain ⟨cs, h1, h2, _⟩ := h
  exact ⟨cs, h1, h2⟩
mutual
theorem bulk_eq {H : Type} : (d : DataW H) → Rows.uptoBulk d = Fx.bulk d
  | .lit l => by cases l <;> rfl
  | .nil => rfl
  | .ptr d => by simp only [Rows.uptoBulk, Fx.bulk, bulk_eq d]
  | .slice es sp => by simp only [Rows.uptoBulk, Fx.bulk, bulks_eq es, bulks_eq sp]
  | .agg ps => by simp only [Rows.uptoBulk, Fx.bulk, bulks_eq ps]
  | .iface _ d => by simp only [Rows.uptoBulk, Fx.bulk, bulk_eq d]
  | .map es => by simp only [Rows.uptoBulk, Fx.bulk, bulkEs_eq es]
  | .held _ => rfl
theorem bulks_eq {H : Type} : (ds : List (DataW H)) → Rows.uptoBulkAll ds = Fx.bulks ds
  | [] => rfl
  | d :: ds => by simp only [Rows.uptoBulkAll, Fx.bulks, bulk_eq d, bulks_eq ds]
theorem bulkEs_eq {H : Type} : (es : List (Lit × DataW H)) → Rows.uptoBulkEntries es = Fx.bulkEs es
  | [] => rfl
  | x :: es => by simp only [Rows.uptoBulkEntries, Fx.bulkEs, bulkE_eq x, bulkEs_eq es]
theorem bulkE_eq {H : Type} : (x : Lit × DataW H) → Rows.uptoBulkEntry x = Fx.bulkE x
  | (l, d) => by cases l <;> simp only [Rows.uptoBulkEntry, Fx.bulkE, bulk_eq d]
end
theorem small {H : Type} {ds : List (DataW H)} (h : Rows.uptoSmall H ds = true) {d : DataW H} (hd : d ∈ ds) : Fx.bulk d ≤ 1048576 := by
  have h1 : Rows.uptoBulkAll ds ≤ 1048576 := of_decide_eq_true h
  rw [bulks_eq] at h1
  exact Nat.le_trans (bulks_mem hd) h1

theorem oInt : Opens Tryz.prog 3 Ty.int (fun _ x => I64 x) := Opens.int Tryz.underlying3 (by kernel_rfl)
theorem oAc0 : Opens Tryz.prog 35 tyAc (fun _ x => I64 x.what ∧ I64 x.x ∧ I64 x.y ∧ I64 x.nm) :=
  Opens.via (Opens.struct (OpensFs.cons (f := _) oInt rfl (OpensFs.cons oInt rfl (OpensFs.cons oInt rfl (OpensFs.one oInt rfl)))) Tryz.underlying35 (by kernel_rfl)) _ (fun p => ⟨p.1, p.2.1, p.2.2.1, p.2.2.2⟩) (fun _ => rfl)
theorem oActs : Opens Tryz.prog 22 (Ty.slice tyAc) (fun n xs => xs.length + 1 ≤ n ∧ ∀ x ∈ xs, I64 x.what ∧ I64 x.x ∧ I64 x.y ∧ I64 x.nm) := Opens.slice oAc0 Tryz.underlying22 (by kernel_rfl) (by decide)
theorem oTwo : Opens Tryz.prog 49 (Ty.arr Ty.int 2) (fun _ xs => ∀ x ∈ xs, I64 x) := Opens.array oInt Tryz.underlying49 (by kernel_rfl)
theorem oThree : Opens Tryz.prog 57 (Ty.arr Ty.int 3) (fun _ xs => ∀ x ∈ xs, I64 x) := Opens.array oInt Tryz.underlying57 (by kernel_rfl)
theorem oStr : Opens Tryz.prog 9 Ty.str (fun n x => x.size + 1 ≤ n) := Opens.str Tryz.underlying9 (by kernel_rfl)
theorem oStrs : Opens Tryz.prog 42 (Ty.slice Ty.str) (fun n xs => xs.length + 1 ≤ n ∧ ∀ x ∈ xs, x.size + 1 ≤ n) := Opens.slice oStr Tryz.underlying42 (by kernel_rfl) (by decide)
theorem ints2 {R : Hp} {xs : List Int} {cs : Array Value} (hl : xs.length = 2) (h : Encs Ty.int R xs cs.toList) (hk : ∀ x ∈ xs, I64 x) :
    ∃ a b : Int, I64 a ∧ I64 b ∧ cs = #[.int .i64 a, .int .i64 b] := by
  obtain ⟨x, y, rfl⟩ : ∃ x y, xs = [x, y] := by
    match xs, hl with
    | [x, y], _ => exact ⟨x, y, rfl⟩
  refine ⟨x, y, hk x (by simp), hk y (by simp), ?_⟩
  have hc : cs.toList = [.int .i64 x, .int .i64 y] := by
    generalize cs.toList = l at h
    cases h with
    | cons e1 t1 =>
      cases t1 with
      | cons e2 t2 =>
        cases t2
        have f1 : _ = [_] := e1
        have f2 : _ = [_] := e2
        subst f1; subst f2
        rfl
  exact Array.ext' (by rw [hc])
theorem ints3 {R : Hp} {xs : List Int} {cs : Array Value} (hl : xs.length = 3) (h : Encs Ty.int R xs cs.toList) (hk : ∀ x ∈ xs, I64 x) :
    ∃ a b c : Int, I64 a ∧ I64 b ∧ I64 c ∧ cs = #[.int .i64 a, .int .i64 b, .int .i64 c] := by
  obtain ⟨x, y, z, rfl⟩ : ∃ x y z, xs = [x, y, z] := by
    match xs, hl with
    | [x, y, z], _ => exact ⟨x, y, z, rfl⟩
  refine ⟨x, y, z, hk x (by simp), hk y (by simp), hk z (by simp), ?_⟩
  have hc : cs.toList = [.int .i64 x, .int .i64 y, .int .i64 z] := by
    generalize cs.toList = l at h
    cases h with
    | cons e1 t1 =>
      cases t1 with
      | cons e2 t2 =>
        cases t2 with
        | cons e3 t3 =>
          cases t3
          have f1 : _ = [_] := e1
          have f2 : _ = [_] := e2
          have f3 : _ = [_] := e3
          subst f1; subst f2; subst f3
          rfl
  exact Array.ext' (by rw [hc])
/-- A block whose cells are laid anew. -/
def setC (cs : Array Value) : Obj → Obj
  | .cells _ t frozen => .cells cs t frozen
  | o => o
/-- A world for the witness: the settled one, the tables holding what their initialisers lay. -/
noncomputable def laidWorld (os : Os) : World :=
  { World.holding Tryz.prog os ⟨#[], #[], []⟩ with heap := (((World.holding Tryz.prog os ⟨#[], #[], []⟩).heap.modify 2 (setC #[.int .u8 0, .int .u8 1, .int .u8 28, .int .u8 2, .int .u8 29, .int .u8 14, .int .u8 24, .int .u8 3, .int .u8 30, .int .u8 22, .int .u8 20, .int .u8 15, .int .u8 25, .int .u8 17, .int .u8 4, .int .u8 8, .int .u8 31, .int .u8 27, .int .u8 13, .int .u8 23, .int .u8 21, .int .u8 19, .int .u8 16, .int .u8 7, .int .u8 26, .int .u8 12, .int .u8 18, .int .u8 6, .int .u8 11, .int .u8 5, .int .u8 10, .int .u8 9])).modify 3 (setC #[.int .u8 0, .int .u8 1, .int .u8 56, .int .u8 2, .int .u8 57, .int .u8 49, .int .u8 28, .int .u8 3, .int .u8 61, .int .u8 58, .int .u8 42, .int .u8 50, .int .u8 38, .int .u8 29, .int .u8 17, .int .u8 4, .int .u8 62, .int .u8 47, .int .u8 59, .int .u8 36, .int .u8 45, .int .u8 43, .int .u8 51, .int .u8 22, .int .u8 53, .int .u8 39, .int .u8 33, .int .u8 30, .int .u8 24, .int .u8 18, .int .u8 12, .int .u8 5, .int .u8 63, .int .u8 55, .int .u8 48, .int .u8 27, .int .u8 60, .int .u8 41, .int .u8 37, .int .u8 16, .int .u8 46, .int .u8 35, .int .u8 44, .int .u8 21, .int .u8 52, .int .u8 32, .int .u8 23, .int .u8 11, .int .u8 54, .int .u8 26, .int .u8 40, .int .u8 15, .int .u8 34, .int .u8 20, .int .u8 31, .int .u8 10, .int .u8 25, .int .u8 14, .int .u8 19, .int .u8 9, .int .u8 13, .int .u8 8, .int .u8 7, .int .u8 6])).modify 1 (setC #[.int .u64 1, .int .u64 10, .int .u64 100, .int .u64 1000, .int .u64 10000, .int .u64 100000, .int .u64 1000000, .int .u64 10000000, .int .u64 100000000, .int .u64 1000000000, .int .u64 10000000000, .int .u64 100000000000, .int .u64 1000000000000, .int .u64 10000000000000, .int .u64 100000000000000, .int .u64 1000000000000000, .int .u64 10000000000000000, .int .u64 100000000000000000, .int .u64 1000000000000000000, .int .u64 10000000000000000000]) }
end Go.Fx.YtjpdhfhiimbpgaaGreatDoor
