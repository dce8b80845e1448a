/-
  Chapter 27: what all closings want: the types of the arguments, and how great they are.
-/
import Derived.Test.YtlfabjfajcbdcaaRows
import Derived.Test.YtlfabjfajcbdcaaAs15
import Derived.Test.YtlfabjfajcbdcaaFx17
namespace Go.Fx.Ytlfabjfajcbdcaa
open Go Go.ChangeShapes Go.WideShapes Go.ChangeAt Go.RowKit Go.Fx Go.Proofs Go.Proofs.Ytlfabjfajcbdcaa
set_option linter.unusedVariables false
set_option maxRecDepth 20000

theorem own : ownKnob Try.prog.godebug = none := by kernel_rfl
mutual
theorem bulk_eq {H : Type} : (d : DataW H) → Rows.uptoBulk d = Fx.bulk d
  | .lit l => by cases l <;> rfl
  | .nil => rfl
  | .ptr d => by simp only [Rows.uptoBulk, Fx.bulk, bulk_eq d]
  | .slice es sp => by simp only [Rows.uptoBulk, Fx.bulk, bulks_eq es, bulks_eq sp]
  | .agg ps => by simp only [Rows.uptoBulk, Fx.bulk, bulks_eq ps]
  | .iface _ d => by simp only [Rows.uptoBulk, Fx.bulk, bulk_eq d]
  | .map es => by simp only [Rows.uptoBulk, Fx.bulk, bulkEs_eq es]
  | .held _ => rfl
theorem bulks_eq {H : Type} : (ds : List (DataW H)) → Rows.uptoBulkAll ds = Fx.bulks ds
  | [] => rfl
  | d :: ds => by simp only [Rows.uptoBulkAll, Fx.bulks, bulk_eq d, bulks_eq ds]
theorem bulkEs_eq {H : Type} : (es : List (Lit × DataW H)) → Rows.uptoBulkEntries es = Fx.bulkEs es
  | [] => rfl
  | x :: es => by simp only [Rows.uptoBulkEntries, Fx.bulkEs, bulkE_eq x, bulkEs_eq es]
theorem bulkE_eq {H : Type} : (x : Lit × DataW H) → Rows.uptoBulkEntry x = Fx.bulkE x
  | (l, d) => by cases l <;> simp only [Rows.uptoBulkEntry, Fx.bulkE, bulk_eq d]
end
theorem small {H : Type} {ds : List (DataW H)} (h : Rows.uptoSmall H ds = true) {d : DataW H} (hd : d ∈ ds) : Fx.bulk d ≤ 1048576 := by
  have h1 : Rows.uptoBulkAll ds ≤ 1048576 := of_decide_eq_true h
  rw [bulks_eq] at h1
  exact Nat.le_trans (bulks_mem hd) h1

theorem oInt : Opens Try.prog 3 Ty.int (fun _ x => I64 x) := Opens.int Try.underlying3 (by kernel_rfl)
theorem oU8 : Opens Try.prog 5 Ty.u8 (fun _ x => 0 ≤ x ∧ x ≤ 255) := Opens.u8 Try.underlying5 (by kernel_rfl)
theorem oFact : Opens Try.prog 38 tyFact (fun _ x => I64 x.kind ∧ I64 x.n ∧ I64 x.version) :=
  Opens.via (Opens.struct (OpensFs.cons (f := _) oInt rfl (OpensFs.cons oInt rfl (OpensFs.one oInt rfl))) Try.underlying38 (by kernel_rfl)) _ (fun p => ⟨p.1, p.2.1, p.2.2⟩) (fun _ => rfl)
theorem oFacts : Opens Try.prog 29 (Ty.slice tyFact) (fun n xs => xs.length + 1 ≤ n ∧ ∀ x ∈ xs, I64 x.kind ∧ I64 x.n ∧ I64 x.version) := Opens.slice oFact Try.underlying29 (by kernel_rfl) (by decide)
theorem oFactss : Opens Try.prog 22 (Ty.slice (Ty.slice tyFact)) (fun n l => l.length + 1 ≤ n ∧ ∀ xs ∈ l, xs.length + 1 ≤ n ∧ ∀ x ∈ xs, I64 x.kind ∧ I64 x.n ∧ I64 x.version) := Opens.slice oFacts Try.underlying22 (by kernel_rfl) (by decide)
theorem oArr2 : Opens Try.prog 23 (Ty.arr Ty.int 2) (fun _ xs => ∀ x ∈ xs, I64 x) := Opens.array oInt Try.underlying23 (by kernel_rfl)
theorem arg_two {H : Type} {enc : TypeId × Value → H} {W : World} {v : Value} {d : DataW H} {ps : List MemPlace} {r : Reach} {b : Nat} (hv : Value.okWide Try.prog W r b 23 v) (h : DataW.Trod enc Try.prog W 0 allSp true 23 v d ps) :
    ∃ q0 q1 : Int, v = .agg #[.int .i64 q0, .int .i64 q1] ∧ I64 q0 ∧ I64 q1 := by
  obtain ⟨cs, rfl, hs⟩ : ∃ cs, v = .agg cs ∧ cs.size = Try.prog.cellsOf 23 := by
    simp only [Value.okWide, Try.underlying23] at hv
    obtain ⟨cs, h1, h2, _⟩ := hv
    exact ⟨cs, h1, h2⟩
  obtain ⟨xs, ⟨hl, he⟩, hk⟩ := oArr2.arg h
  have e0 : (Value.agg cs).cells.toList = cs.toList := rfl
  rw [e0] at he
  generalize hL : cs.toList = L at he
  match xs, hl with
  | [x, y], _ =>
    cases he with
    | cons h1 h2 => cases h2 with
      | cons h3 h4 => cases h4 with
        | nil =>
          have e1 : _ = [_] := h1
          have e2 : _ = [_] := h3
          subst e1; subst e2
          refine ⟨x, y, ?_, hk x (by simp), hk y (by simp)⟩
          congr 1
          exact Array.toList_inj.1 (by simpa using hL)
theorem okT {f : Func} {W : World} (h : f.resultTypes = #[4]) : ∀ (j : Nat) (t : TypeId) (r : Value), f.resultTypes[j]? = some t → ((Value.bool true).resultList f.resultTypes.size)[j]? = some r → Value.okWide Try.prog W .any 0 t r :=
  ok_one h rfl (okWide_bool_mk Try.underlying4 _)
end Go.Fx.Ytlfabjfajcbdcaa
