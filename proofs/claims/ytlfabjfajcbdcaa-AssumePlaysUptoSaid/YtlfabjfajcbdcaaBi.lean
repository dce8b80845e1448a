/-
  Chapter 27: the modules of any registry; the law's own parts on the real registry.
-/
import Derived.Test.YtlfabjfajcbdcaaBh
set_option linter.unusedSimpArgs false
set_option linter.unusedVariables false
set_option linter.unusedSectionVars false
namespace Go.Fx
open Go
theorem run_range_nil {P : Program} {w : World} {T kT eT : TypeId} (hT : P.underlying T = some (.map kT eT)) : (Instr.range T (.map none)).run P w = .ok (ptr w.heap.size 0) (push w (.mapIter none 0 #[] 0)) := by
  unfold Instr.range
  simp only [Sem.run_bind, run_underlying hT, Result.andThen_ok, Sem.run_pure]
  rfl
theorem run_next_nil {P : Program} {w : World} {r : Nat} (ty : TypeId) (h : w.heap[r]? = some (.mapIter none 0 #[] 0)) : (Instr.next (ptr r 0) false ty).run P w = .ok (.tuple #[.bool false]) w := by
  unfold Instr.next ptr
  have hg : (getObj r).run P w = .ok (.mapIter none 0 #[] 0) w := by simp [getObj, Sem.run, h]
  simp only [Sem.run_bind, hg, Result.andThen_ok, Sem.run_pure]
theorem x_range0 {P : Program} {w w' : World} {ρ : Operand → Value} {o : Oper} {x : Operand} {T : TypeId} {v : Value} (ho : o.op = .range T x) (hx : ρ x = .map none) (h : (Instr.range T (.map none)).run P w = .ok v w') : (execOp ρ o).run P w = .ok (.value v) w' := by
  unfold execOp
  simp [ho, hx, h]
theorem x_remK {P : Program} {w : World} {ρ : Operand → Value} {o : Oper} {x y : Operand} {t yt : TypeId} {k : IntKind} {a b : Nat} (ho : o.op = .binOp .rem t x y yt) (hx : ρ x = .int k (a : Int)) (hy : ρ y = .int k (b : Int)) (h : b ≠ 0) : (execOp ρ o).run P w = .ok (.value (.int k ((a % b : Nat) : Int))) w := by
  have h' : (b : Int) ≠ 0 := by omega
  have e : ((a : Int)).tmod (b : Int) = ((a % b : Nat) : Int) := rfl
  unfold execOp
  simp only [ho, hx, hy, eqGuard, binOp, Op.intDiv, Sem.run_bind, Sem.run_pure, Result.andThen_ok, if_true, e]
  simp [h]
end Go.Fx
namespace Go.Fx.Ytlfabjfajcbdcaa
open Go Go.Fx Go.Proofs
set_option maxRecDepth 20000

theorem Keys0_gives {R : Hp} {q : Nat} (h0 : Le (one q (.cells #[.map none] 58 (0, 0))) R) :
    Gives Try.prog 46 #[ptr q 0] 0 (fun xs => xs.Perm []) (fun _ => True) (fun k => #[int k]) R [] (fun _ L' => L' = []) := by
  intro l J Jx w Lb hs hJ hJx hY hj0
  have hst : Step w R Lb w R Lb := Step.refl (by simpa using hs)
  refine calls_of_W (n := 14) Try.func46 rfl Try.ntmps46 (Nat.le_of_ble_eq_true rfl) ?_
  refine W_seq ?_
  refine W_region_lit ?_
  refine L_val (v := .map none) (w' := w) rfl rfl rfl (x_load rfl rfl (run_loadVar_one ti58 (hst.rle' _ _ (h0 _ _ (one_self _ _))) rfl)) ?_
  refine L_new hst (v := fun b => ptr b 0) rfl rfl rfl (x_range0 rfl rfl (run_range_nil mt58)) (fun r w1 hst1 => ?_)
  refine L_nil ?_
  refine W_block ?_
  refine W_loop_once ?_
  refine W_seq ?_
  refine W_region_lit ?_
  refine L_val (v := .tuple #[.bool false]) rfl rfl rfl (x_next rfl rfl (run_next_nil _ (hst1.blk (i := 0) rfl))) ?_
  refine L_val (v := .bool false) (w' := w1) rfl rfl rfl (by kernel_rfl) ?_
  refine L_nil ?_
  refine W_seq ?_
  refine W_cond_false rfl ?_
  refine W_exit ?_
  refine ⟨_, _, res_run (rs := []) (vs := []) Try.results46 .nil rfl, ⟨_, rfl⟩, R, [], Lb, ?_, rfl, .inl ⟨[], List.Perm.refl _, hj0⟩⟩
  exact hst1.drop

theorem Modules_none {w : World} {R : Hp} {p : Nat} {bv : Option Nat} (hs : Sats w R []) (h1 : Le (one p (.cells #[.map bv, .map none] 60 (0, 0))) R) :
    Calls Try.prog 13 #[ptr p 0] w (Comes' w R [] fun v' R' L' => ∃ c, L' = [c] ∧ OwnL Ty.int 3 R' v' [] c) := by
  have hst := Step.refl hs
  refine calls_of_W (n := 11) Try.func13 rfl Try.ntmps13 (Nat.le_of_ble_eq_true rfl) ?_
  refine W_seq ?_
  refine W_region_lit ?_
  refine L_val (v := .slice none 0 0) (w' := w) rfl rfl rfl rfl ?_
  refine L_nil ?_
  refine W_seq ?_
  refine W_seq ?_
  refine W_region_lit ?_
  refine L_val (v := ptr p 0) (w' := w) rfl rfl rfl rfl ?_
  refine L_val (v := .bool false) (w' := w) rfl rfl rfl (by kernel_rfl) ?_
  refine L_nil ?_
  refine W_cond_false rfl ?_
  refine W_skip ?_
  refine W_seq ?_
  refine W_region_lit ?_
  refine L_val (v := ptr p 0) (w' := w) rfl rfl rfl rfl ?_
  refine L_val (v := ptr p 0) (w' := w) rfl rfl rfl rfl ?_
  refine L_val (v := ptr p 1) (w' := w) rfl rfl rfl (by kernel_rfl) ?_
  refine L_val (v := .map none) (w' := w) rfl rfl rfl (x_load rfl rfl (run_loadVar_one ti58 (hst.rle' _ _ (h1 _ _ (one_self _ _))) rfl)) ?_
  have hkeys : Calls Try.prog 29 #[.map none] w (Comes' w R [] fun v' R' L' => ∃ q, v' = .func (.func 46) #[] #[ptr q 0] ∧ L' = [one q (.cells #[.map none] 58 (0, 0))]) := by
    refine calls_of_W (n := 4) Try.func29 rfl Try.ntmps29 (Nat.le_of_ble_eq_true rfl) ?_
    refine W_seq ?_
    refine W_region_lit ?_
    refine L_new hst (v := fun b => ptr b 0) (ob := .cells #[.map none] 58 (0, 0)) rfl rfl rfl (by kernel_rfl) (fun q w1 hst1 => ?_)
    refine L_val (v := .nilFunc) (w' := w1) rfl rfl rfl rfl ?_
    refine L_nil ?_
    refine W_seq ?_
    refine W_region_lit ?_
    refine L_val (v := .func (.func 46) #[] #[ptr q 0]) (w' := w1) rfl rfl rfl (by kernel_rfl) ?_
    refine L_val (v := .func (.func 46) #[] #[ptr q 0]) (w' := w1) rfl rfl rfl rfl ?_
    refine L_nil ?_
    refine W_ret ?_
    refine ⟨_, _, res_run (rs := [.tmp 2]) (vs := [.func (.func 46) #[] #[ptr q 0]]) Try.results29 (.cons (.tmp rfl) .nil) rfl, ?_⟩
    exact ⟨_, R, _, rfl, hst1, q, rfl, rfl⟩
  refine L_callS [] [] hst rfl rfl rfl (x_call (vs := #[.map none]) rfl rfl (by kernel_rfl) (fun _ _ => by kernel_rfl)) hkeys (fun v w1 R1 L1 hp hle hst1 => ?_)
  obtain ⟨q, rfl, rfl⟩ := hp
  obtain ⟨R2, hst2, hle2, hq⟩ := Step.frz hst1
  refine L_callS [] [] hst2 rfl rfl rfl (x_call (vs := #[.func (.func 46) #[] #[ptr q 0]]) rfl rfl (by kernel_rfl) (fun _ _ => by kernel_rfl))
    (Sorted_spec (N := 0) (ks := []) (Sp := fun _ => True) hst2.sats ent46 (by omega) (by simp) (fun R3 hle3 => Keys0_gives (hq.trans hle3))) (fun v3 w3 R3 L3 hp3 hle3 hst3 => ?_)
  obtain ⟨c, rfl, how⟩ := hp3
  refine L_val (v := v3) (w' := w3) rfl rfl rfl rfl ?_
  refine L_nil ?_
  refine W_ret ?_
  refine ⟨_, _, res_run (rs := [.tmp 2]) (vs := [v3]) Try.results13 (.cons (.tmp rfl) .nil) rfl, ?_⟩
  rw [show ([] : List Int).mergeSort leZ = [] by simp] at how
  exact ⟨_, R3, [c], rfl, hst3, c, rfl, how⟩

theorem Modules_any {w : World} {R c : Hp} {p : Nat} {s : RS} (h : Reg R p s c) (hc : Le c (hp w)) (hlen : s.mods.length ≤ 1099511627776) :
    Calls Try.prog 13 #[ptr p 0] w (Comes' w (hp w) [] fun v' R' L' => ∃ c, L' = [c] ∧ OwnL Ty.int 3 R' v' s.modules c) := by
  obtain ⟨bv, bm, cV, cM, rfl, h1, h2, hm, hM, hok, hbm⟩ := h
  cases bm with
  | none =>
    have hm0 : s.mods = [] := by
      rcases hM with ⟨_, h, _⟩ | ⟨b, _, _, h, _⟩
      · exact h
      · cases h
    have e : s.modules = [] := by unfold RS.modules; rw [hm0]; simp [AL.keys]
    rw [e]
    exact Modules_none (R := hp w) (Step.ro (Le.refl _)).sats ((tri_1 _ _ _).trans hc)
  | some bm => exact Modules_spec (R := hp w) (Step.ro (Le.refl _)).sats ((tri_1 _ _ _).trans hc) hM ((tri_3 h1 h2).trans hc) hlen
end Go.Fx.Ytlfabjfajcbdcaa
