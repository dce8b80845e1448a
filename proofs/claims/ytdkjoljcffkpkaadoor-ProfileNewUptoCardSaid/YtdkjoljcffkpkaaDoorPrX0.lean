/-
  Chapter 14: the keys of a nil map.
-/
import Derived.Test.YtdkjoljcffkpkaaDoorPrM
import Derived.Laws.IdiomRangeMap
set_option linter.unusedSimpArgs false
set_option linter.unusedVariables false
namespace Go.Fx.YtdkjoljcffkpkaaDoor
open Go Go.Fx Go.Proofs
set_option maxRecDepth 20000

theorem Keys1_nil {R : Hp} {q : Nat} (h0 : Le (one q (.cells #[.map none] 65 (0, 0))) R) :
    Gives Tryd.prog 54 #[ptr q 0] 0 (fun xs => xs = []) (fun _ => True) (fun k : Pl => #[kk k]) R [] (fun _ L' => L' = []) := by
  intro l J Jx w Lb hs hJ hJx hY hj0
  have hst : Step w R Lb w R Lb := Step.refl (by simpa using hs)
  refine calls_of_W (n := 14) Tryd.func54 rfl Tryd.ntmps54 (Nat.le_of_ble_eq_true rfl) ?_
  refine W_seq ?_
  refine W_region_lit ?_
  refine L_val (v := .map none) (w' := w) rfl rfl rfl (x_load rfl rfl (run_loadVar_one tiK65 (hst.rle' _ _ (h0 _ _ (one_self _ _))) rfl)) ?_
  have hrg : (Instr.range 65 (.map none)).run Tryd.prog w = .ok (ptr w.heap.size 0) (push w (.mapIter none 0 #[] 0)) := run_range_nilMap w 65 43 81 mtK
  refine L_new hst (v := fun b => ptr b 0) rfl rfl rfl (by unfold execOp; simp only [hrg]; rfl) (fun r w1 hst1 => ?_)
  refine L_nil ?_
  refine W_block ?_
  refine W_loop_once ?_
  refine W_seq ?_
  refine W_region_lit ?_
  have hb : w1.heap[r]? = some (.mapIter none 0 #[] 0) := hst1.blk (i := 0) rfl
  have hnx : ∀ ty, (Instr.next (ptr r 0) false ty).run Tryd.prog w1 = .ok (.tuple #[.bool false]) w1 := fun ty => by
    simp only [Instr.next, getObj, Sem.run_bind, Sem.run, hb, Result.andThen]
    rfl
  refine L_val (v := .tuple #[.bool false]) rfl rfl rfl (x_next rfl rfl (hnx _)) ?_
  refine L_val (v := .bool false) (w' := w1) rfl rfl rfl (by kernel_rfl) ?_
  refine L_nil ?_
  refine W_seq ?_
  refine W_cond_false rfl ?_
  refine W_exit ?_
  refine ⟨_, _, res_run (rs := []) (vs := []) Tryd.results54 .nil rfl, ⟨_, rfl⟩, R, [], Lb, hst1.drop, rfl, .inl ⟨[], rfl, hj0⟩⟩
theorem textL_nil {s : PS} {ys : List Pl} (h : ys.Perm (AL.keys ([] : List (Pl × Rec)))) : (⟨(textL s ys).toArray⟩ : ByteArray) = ⟨#[]⟩ := by
  have : ys = [] := List.perm_nil.1 h
  subst this
  rfl
abbrev zeroB (z : Nat) : Hp := one z (.cells #[.int .i64 0, .int .i64 0, .int .i64 0, .int .i64 0, .map none, .slice none 0 0] 67 (0, 0))
theorem nil_map {R : Hp} : MapC kk (vE vP) none ([] : List (Pl × Option Nat)) non := .inl ⟨rfl, rfl, rfl⟩
theorem non_le (R : Hp) : Le non R := fun _ _ e => by cases e
end Go.Fx.YtdkjoljcffkpkaaDoor
