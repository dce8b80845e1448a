/-
  Chapter 27: nil registries and AssumeNil, printed by gen22.py.
-/
import Derived.Test.YtlfabjfajcbdcaaAs22
set_option linter.unusedSimpArgs false
set_option linter.unusedVariables false
namespace Go.Fx.Ytlfabjfajcbdcaa
open Go Go.Fx Go.Proofs
set_option maxRecDepth 20000

theorem ent_20 : Ent Try.prog 20 := fun _ _ => by kernel_rfl

theorem Version_nil {w : World} {R : Hp} (k n : Int) (hR : Le R (hp w)) :
    Calls Try.prog 16 #[.pointer none, (.int .i64 k), (.int .i64 n)] w fun e w' => e = .returned (int (-1)) ∧ Grow w w' := by
  have hst := Step.ro hR
  refine calls_of_W (n := 25) Try.func16 rfl Try.ntmps16 (Nat.le_of_ble_eq_true rfl) ?_
  refine W_seq ?_
  refine W_region_lit ?_
  refine L_val (v := (.int .i64 0)) (w' := w) rfl rfl rfl rfl ?_
  refine L_nil ?_
  refine W_seq ?_
  refine W_seq ?_
  refine W_region_lit ?_
  refine L_val (v := (.pointer none)) (w' := w) rfl rfl rfl rfl ?_
  refine L_val (v := (.bool true)) (w' := w) rfl rfl rfl (by kernel_rfl) ?_
  refine L_nil ?_
  refine W_cond_true (by show Value.bool _ = _; exact congrArg Value.bool rfl) ?_
  refine W_seq ?_
  refine W_region_lit ?_
  refine L_val (v := (.int .i64 (-1))) (w' := w) rfl rfl rfl rfl ?_
  refine L_nil ?_
  refine W_ret ?_
  refine ⟨_, _, res_run (rs := [.tmp 6]) (vs := [(.int .i64 (-1))]) Try.results16 (.cons (.tmp rfl) .nil) rfl, ?_⟩
  exact ⟨rfl, hst.grow⟩

theorem Remove_nil {w : World} {R : Hp} (k : Int) (hR : Le R (hp w)) :
    Calls Try.prog 21 #[.pointer none, (.int .i64 k)] w fun e w' => e = .returned (.bool false) ∧ Grow w w' := by
  have hst := Step.ro hR
  refine calls_of_W (n := 24) Try.func21 rfl Try.ntmps21 (Nat.le_of_ble_eq_true rfl) ?_
  refine W_seq ?_
  refine W_region_lit ?_
  refine L_val (v := (.bool false)) (w' := w) rfl rfl rfl rfl ?_
  refine L_nil ?_
  refine W_seq ?_
  refine W_seq ?_
  refine W_region_lit ?_
  refine L_val (v := (.pointer none)) (w' := w) rfl rfl rfl rfl ?_
  refine L_val (v := (.bool true)) (w' := w) rfl rfl rfl (by kernel_rfl) ?_
  refine L_nil ?_
  refine W_cond_true (by show Value.bool _ = _; exact congrArg Value.bool rfl) ?_
  refine W_seq ?_
  refine W_region_lit ?_
  refine L_val (v := (.bool false)) (w' := w) rfl rfl rfl rfl ?_
  refine L_nil ?_
  refine W_ret ?_
  refine ⟨_, _, res_run (rs := [.tmp 4]) (vs := [(.bool false)]) Try.results21 (.cons (.tmp rfl) .nil) rfl, ?_⟩
  exact ⟨rfl, hst.grow⟩

theorem Holds_nil {w : World} {R : Hp} (k : Int) (hR : Le R (hp w)) :
    Calls Try.prog 15 #[.pointer none, (.int .i64 k)] w fun e w' => e = .returned (.bool false) ∧ Grow w w' := by
  have hst := Step.ro hR
  refine calls_of_W (n := 24) Try.func15 rfl Try.ntmps15 (Nat.le_of_ble_eq_true rfl) ?_
  refine W_seq ?_
  refine W_region_lit ?_
  refine L_val (v := (.bool false)) (w' := w) rfl rfl rfl rfl ?_
  refine L_nil ?_
  refine W_seq ?_
  refine W_seq ?_
  refine W_region_lit ?_
  refine L_val (v := (.pointer none)) (w' := w) rfl rfl rfl rfl ?_
  refine L_val (v := (.bool true)) (w' := w) rfl rfl rfl (by kernel_rfl) ?_
  refine L_nil ?_
  refine W_cond_true (by show Value.bool _ = _; exact congrArg Value.bool rfl) ?_
  refine W_seq ?_
  refine W_region_lit ?_
  refine L_val (v := (.bool false)) (w' := w) rfl rfl rfl rfl ?_
  refine L_nil ?_
  refine W_ret ?_
  refine ⟨_, _, res_run (rs := [.tmp 4]) (vs := [(.bool false)]) Try.results15 (.cons (.tmp rfl) .nil) rfl, ?_⟩
  exact ⟨rfl, hst.grow⟩

theorem Modules_nil {w : World} {R : Hp}  (hR : Le R (hp w)) :
    Calls Try.prog 13 #[.pointer none] w fun e w' => e = .returned (.slice none 0 0) ∧ Grow w w' := by
  have hst := Step.ro hR
  refine calls_of_W (n := 11) Try.func13 rfl Try.ntmps13 (Nat.le_of_ble_eq_true rfl) ?_
  refine W_seq ?_
  refine W_region_lit ?_
  refine L_val (v := (.slice none 0 0)) (w' := w) rfl rfl rfl rfl ?_
  refine L_nil ?_
  refine W_seq ?_
  refine W_seq ?_
  refine W_region_lit ?_
  refine L_val (v := (.pointer none)) (w' := w) rfl rfl rfl rfl ?_
  refine L_val (v := (.bool true)) (w' := w) rfl rfl rfl (by kernel_rfl) ?_
  refine L_nil ?_
  refine W_cond_true (by show Value.bool _ = _; exact congrArg Value.bool rfl) ?_
  refine W_seq ?_
  refine W_region_lit ?_
  refine L_val (v := (.slice none 0 0)) (w' := w) rfl rfl rfl rfl ?_
  refine L_nil ?_
  refine W_ret ?_
  refine ⟨_, _, res_run (rs := [.tmp 2]) (vs := [(.slice none 0 0)]) Try.results13 (.cons (.tmp rfl) .nil) rfl, ?_⟩
  exact ⟨rfl, hst.grow⟩

theorem Facts_nil {w : World} {R : Hp}  (hR : Le R (hp w)) :
    Calls Try.prog 22 #[.pointer none, (.agg #[(.int .i64 0), (.int .i64 0), (.slice none 0 0), (.slice none 0 0)])] w fun e w' => e = .returned (.slice none 0 0) ∧ Grow w w' := by
  have hst := Step.ro hR
  refine calls_of_W (n := 92) Try.func22 rfl Try.ntmps22 (Nat.le_of_ble_eq_true rfl) ?_
  refine W_seq ?_
  refine W_region_lit ?_
  refine L_new hst (v := fun b => ptr b 0) (ob := .cells #[(.pointer none)] 25 (0, 0)) rfl rfl rfl (by kernel_rfl) (fun b1 w2 hst3 => ?_)
  refine L_new hst3 (v := fun b => ptr b 0) (ob := .cells #[(.int .i64 0), (.int .i64 0), (.slice none 0 0), (.slice none 0 0)] 56 (0, 0)) rfl rfl rfl (by kernel_rfl) (fun b4 w5 hst6 => ?_)
  refine L_val (v := (.slice none 0 0)) (w' := w5) rfl rfl rfl rfl ?_
  refine L_nil ?_
  refine W_seq ?_
  refine W_seq ?_
  refine W_region_lit ?_
  refine L_val (v := (.pointer none)) (w' := w5) rfl rfl rfl (x_load rfl rfl (run_loadVar_one ti_25 (hst6.blk (i := 1) rfl) rfl)) ?_
  refine L_val (v := (.bool true)) (w' := w5) rfl rfl rfl (by kernel_rfl) ?_
  refine L_nil ?_
  refine W_cond_true (by show Value.bool _ = _; exact congrArg Value.bool rfl) ?_
  refine W_seq ?_
  refine W_region_lit ?_
  refine L_val (v := (.slice none 0 0)) (w' := w5) rfl rfl rfl rfl ?_
  refine L_nil ?_
  refine W_ret ?_
  refine ⟨_, _, res_run (rs := [.tmp 4]) (vs := [(.slice none 0 0)]) Try.results22 (.cons (.tmp rfl) .nil) rfl, ?_⟩
  exact ⟨rfl, hst6.grow⟩

theorem Add_nil {w : World} {R : Hp} (k : Int) (hR : Le R (hp w)) :
    Calls Try.prog 11 #[.pointer none, (.int .i64 k), (.slice none 0 0)] w fun e w' => e = .returned (int 1) ∧ Grow w w' := by
  have hst := Step.ro hR
  refine calls_of_W (n := 76) Try.func11 rfl Try.ntmps11 (Nat.le_of_ble_eq_true rfl) ?_
  refine W_seq ?_
  refine W_region_lit ?_
  refine L_val (v := (.int .i64 0)) (w' := w) rfl rfl rfl rfl ?_
  refine L_nil ?_
  refine W_seq ?_
  refine W_seq ?_
  refine W_region_lit ?_
  refine L_val (v := (.pointer none)) (w' := w) rfl rfl rfl rfl ?_
  refine L_val (v := (.bool true)) (w' := w) rfl rfl rfl (by kernel_rfl) ?_
  refine L_val (v := (.bool true)) (w' := w) rfl rfl rfl rfl ?_
  refine L_unwanted rfl rfl rfl rfl rfl rfl rfl ?_
  refine L_unwanted rfl rfl rfl rfl rfl rfl rfl ?_
  refine L_val (v := (.bool true)) (w' := w) rfl rfl rfl rfl ?_
  refine L_nil ?_
  refine W_cond_true (by show Value.bool _ = _; exact congrArg Value.bool rfl) ?_
  refine W_seq ?_
  refine W_region_lit ?_
  refine L_val (v := (.int .i64 1)) (w' := w) rfl rfl rfl rfl ?_
  refine L_nil ?_
  refine W_ret ?_
  refine ⟨_, _, res_run (rs := [.tmp 6]) (vs := [(.int .i64 1)]) Try.results11 (.cons (.tmp rfl) .nil) rfl, ?_⟩
  exact ⟨rfl, hst.grow⟩

theorem Bump_nil {w : World} {R : Hp} (k n : Int) (hR : Le R (hp w)) :
    Calls Try.prog 14 #[.pointer none, (.int .i64 k), (.int .i64 n)] w fun e w' => e = .returned (.slice none 0 0) ∧ Grow w w' := by
  have hst := Step.ro hR
  refine calls_of_W (n := 54) Try.func14 rfl Try.ntmps14 (Nat.le_of_ble_eq_true rfl) ?_
  refine W_seq ?_
  refine W_region_lit ?_
  refine L_new hst (v := fun b => ptr b 0) (ob := .cells #[(.int .i64 k)] 3 (0, 0)) rfl rfl rfl (by kernel_rfl) (fun b1 w2 hst3 => ?_)
  refine L_new hst3 (v := fun b => ptr b 0) (ob := .cells #[(.int .i64 n)] 3 (0, 0)) rfl rfl rfl (by kernel_rfl) (fun b4 w5 hst6 => ?_)
  refine L_val (v := (.slice none 0 0)) (w' := w5) rfl rfl rfl rfl ?_
  refine L_nil ?_
  refine W_seq ?_
  refine W_seq ?_
  refine W_region_lit ?_
  refine L_val (v := (.pointer none)) (w' := w5) rfl rfl rfl rfl ?_
  refine L_val (v := (.int .i64 k)) (w' := w5) rfl rfl rfl (x_load rfl rfl (run_loadVar_one ti_3 (hst6.blk (i := 1) rfl) rfl)) ?_
  refine L_val (v := (.int .i64 n)) (w' := w5) rfl rfl rfl (x_load rfl rfl (run_loadVar_one ti_3 (hst6.blk (i := 0) rfl) rfl)) ?_
  refine L_callG hst6 (v := (.int .i64 (-1))) rfl rfl rfl (x_call (vs := #[(.pointer none), (.int .i64 k), (.int .i64 n)]) rfl rfl (by kernel_rfl) ent_16) (Version_nil k n (Le.refl _)) (fun w7 hst8 => ?_)
  refine L_val (v := (.bool true)) (w' := w7) rfl rfl rfl (by kernel_rfl) ?_
  refine L_nil ?_
  refine W_cond_true (by show Value.bool _ = _; exact congrArg Value.bool rfl) ?_
  refine W_seq ?_
  refine W_region_lit ?_
  refine L_val (v := (.slice none 0 0)) (w' := w7) rfl rfl rfl rfl ?_
  refine L_nil ?_
  refine W_ret ?_
  refine ⟨_, _, res_run (rs := [.tmp 6]) (vs := [(.slice none 0 0)]) Try.results14 (.cons (.tmp rfl) .nil) rfl, ?_⟩
  exact ⟨rfl, hst8.grow⟩

theorem New_nil {w : World} {R : Hp} {f c : Int} (h : f < 0 ∨ 24 < f ∨ c < 0 ∨ 12 < c) (hR : Le R (hp w)) :
    Calls Try.prog 10 #[int f, int c] w fun e w' => e = .returned (.pointer none) ∧ Grow w w' := by
  have hst := Step.ro hR
  refine calls_of_W (n := 49) Try.func10 rfl Try.ntmps10 (Nat.le_of_ble_eq_true rfl) ?_
  refine W_seq ?_
  refine W_region_lit ?_
  refine L_val (v := (.pointer none)) (w' := w) rfl rfl rfl rfl ?_
  refine L_nil ?_
  refine W_seq ?_
  refine W_seq ?_
  refine W_region_lit ?_
  refine L_val (v := (.int .i64 f)) (w' := w) rfl rfl rfl rfl ?_
  refine L_val (v := (.bool (decide (f < 0)))) (w' := w) rfl rfl rfl (by kernel_rfl) ?_
  refine L_val (v := (.bool (decide (f < 0)))) (w' := w) rfl rfl rfl rfl ?_
  rcases Bool.eq_false_or_eq_true (decide (f < 0)) with c1 | c1
  · skip
    have q2 := of_decide_eq_true c1
    refine L_unwanted rfl rfl rfl rfl (by rw [c1]; rfl) rfl rfl ?_
    refine L_unwanted rfl rfl rfl rfl (by rw [c1]; rfl) rfl rfl ?_
    refine L_val (v := (.bool true)) (w' := w) rfl rfl rfl (x_pick rfl rfl (by rw [c1]; rfl)) ?_
    refine L_val (v := (.bool true)) (w' := w) rfl rfl rfl rfl ?_
    refine L_unwanted rfl rfl rfl rfl rfl rfl rfl ?_
    refine L_unwanted rfl rfl rfl rfl rfl rfl rfl ?_
    refine L_val (v := (.bool true)) (w' := w) rfl rfl rfl rfl ?_
    refine L_val (v := (.bool true)) (w' := w) rfl rfl rfl rfl ?_
    refine L_unwanted rfl rfl rfl rfl rfl rfl rfl ?_
    refine L_unwanted rfl rfl rfl rfl rfl rfl rfl ?_
    refine L_val (v := (.bool true)) (w' := w) rfl rfl rfl rfl ?_
    refine L_nil ?_
    refine W_cond_true (by show Value.bool _ = _; exact congrArg Value.bool rfl) ?_
    refine W_seq ?_
    refine W_region_lit ?_
    refine L_val (v := (.pointer none)) (w' := w) rfl rfl rfl rfl ?_
    refine L_nil ?_
    refine W_ret ?_
    refine ⟨_, _, res_run (rs := [.tmp 4]) (vs := [(.pointer none)]) Try.results10 (.cons (.tmp rfl) .nil) rfl, ?_⟩
    exact ⟨rfl, hst.grow⟩
  · skip
    have q3 := of_decide_eq_false c1
    refine L_guard rfl rfl rfl rfl c1 ?_
    refine L_val (v := (.int .i64 f)) (w' := w) rfl rfl rfl rfl ?_
    refine L_guard rfl rfl rfl rfl c1 ?_
    refine L_val (v := (.bool (decide (f > 24)))) (w' := w) rfl rfl rfl (by kernel_rfl) ?_
    refine L_val (v := (.bool (decide (f > 24)))) (w' := w) rfl rfl rfl (x_pick rfl rfl (by rw [c1]; rfl)) ?_
    refine L_val (v := (.bool (decide (f > 24)))) (w' := w) rfl rfl rfl rfl ?_
    rcases Bool.eq_false_or_eq_true (decide (f > 24)) with c4 | c4
    · skip
      have q5 := of_decide_eq_true c4
      refine L_unwanted rfl rfl rfl rfl (by rw [c4]; rfl) rfl rfl ?_
      refine L_unwanted rfl rfl rfl rfl (by rw [c4]; rfl) rfl rfl ?_
      refine L_val (v := (.bool true)) (w' := w) rfl rfl rfl (x_pick rfl rfl (by rw [c4]; rfl)) ?_
      refine L_val (v := (.bool true)) (w' := w) rfl rfl rfl rfl ?_
      refine L_unwanted rfl rfl rfl rfl rfl rfl rfl ?_
      refine L_unwanted rfl rfl rfl rfl rfl rfl rfl ?_
      refine L_val (v := (.bool true)) (w' := w) rfl rfl rfl rfl ?_
      refine L_nil ?_
      refine W_cond_true (by show Value.bool _ = _; exact congrArg Value.bool rfl) ?_
      refine W_seq ?_
      refine W_region_lit ?_
      refine L_val (v := (.pointer none)) (w' := w) rfl rfl rfl rfl ?_
      refine L_nil ?_
      refine W_ret ?_
      refine ⟨_, _, res_run (rs := [.tmp 4]) (vs := [(.pointer none)]) Try.results10 (.cons (.tmp rfl) .nil) rfl, ?_⟩
      exact ⟨rfl, hst.grow⟩
    · skip
      have q6 := of_decide_eq_false c4
      refine L_guard rfl rfl rfl rfl c4 ?_
      refine L_val (v := (.int .i64 c)) (w' := w) rfl rfl rfl rfl ?_
      refine L_guard rfl rfl rfl rfl c4 ?_
      refine L_val (v := (.bool (decide (c < 0)))) (w' := w) rfl rfl rfl (by kernel_rfl) ?_
      refine L_val (v := (.bool (decide (c < 0)))) (w' := w) rfl rfl rfl (x_pick rfl rfl (by rw [c4]; rfl)) ?_
      refine L_val (v := (.bool (decide (c < 0)))) (w' := w) rfl rfl rfl rfl ?_
      rcases Bool.eq_false_or_eq_true (decide (c < 0)) with c7 | c7
      · skip
        have q8 := of_decide_eq_true c7
        refine L_unwanted rfl rfl rfl rfl (by rw [c7]; rfl) rfl rfl ?_
        refine L_unwanted rfl rfl rfl rfl (by rw [c7]; rfl) rfl rfl ?_
        refine L_val (v := (.bool true)) (w' := w) rfl rfl rfl (x_pick rfl rfl (by rw [c7]; rfl)) ?_
        refine L_nil ?_
        refine W_cond_true (by show Value.bool _ = _; exact congrArg Value.bool rfl) ?_
        refine W_seq ?_
        refine W_region_lit ?_
        refine L_val (v := (.pointer none)) (w' := w) rfl rfl rfl rfl ?_
        refine L_nil ?_
        refine W_ret ?_
        refine ⟨_, _, res_run (rs := [.tmp 4]) (vs := [(.pointer none)]) Try.results10 (.cons (.tmp rfl) .nil) rfl, ?_⟩
        exact ⟨rfl, hst.grow⟩
      · skip
        have q9 := of_decide_eq_false c7
        refine L_guard rfl rfl rfl rfl c7 ?_
        refine L_val (v := (.int .i64 c)) (w' := w) rfl rfl rfl rfl ?_
        refine L_guard rfl rfl rfl rfl c7 ?_
        refine L_val (v := (.bool (decide (c > 12)))) (w' := w) rfl rfl rfl (by kernel_rfl) ?_
        refine L_val (v := (.bool (decide (c > 12)))) (w' := w) rfl rfl rfl (x_pick rfl rfl (by rw [c7]; rfl)) ?_
        refine L_nil ?_
        rcases Bool.eq_false_or_eq_true (decide (c > 12)) with c10 | c10
        · skip
          have q11 := of_decide_eq_true c10
          refine W_cond_true (by show Value.bool _ = _; exact congrArg Value.bool c10) ?_
          refine W_seq ?_
          refine W_region_lit ?_
          refine L_val (v := (.pointer none)) (w' := w) rfl rfl rfl rfl ?_
          refine L_nil ?_
          refine W_ret ?_
          refine ⟨_, _, res_run (rs := [.tmp 4]) (vs := [(.pointer none)]) Try.results10 (.cons (.tmp rfl) .nil) rfl, ?_⟩
          exact ⟨rfl, hst.grow⟩
        · skip
          have q12 := of_decide_eq_false c10
          refine W_cond_false (by show Value.bool _ = _; exact congrArg Value.bool c10) ?_
          refine W_skip ?_
          refine W_seq ?_
          exfalso; omega

theorem Permitted_spec {w : World} {R : Hp} (f c : Int) (hR : Le R (hp w)) :
    Calls Try.prog 20 #[int f, int c] w fun e w' => e = .returned (.bool (decide (0 ≤ f ∧ f ≤ 24 ∧ 0 ≤ c ∧ c ≤ 12))) ∧ Grow w w' := by
  have hst := Step.ro hR
  refine calls_of_W (n := 19) Try.func20 rfl Try.ntmps20 (Nat.le_of_ble_eq_true rfl) ?_
  refine W_seq ?_
  refine W_region_lit ?_
  refine L_val (v := (.bool false)) (w' := w) rfl rfl rfl rfl ?_
  refine L_nil ?_
  refine W_seq ?_
  refine W_region_lit ?_
  refine L_val (v := (.int .i64 f)) (w' := w) rfl rfl rfl rfl ?_
  refine L_val (v := (.bool (decide (f ≥ 0)))) (w' := w) rfl rfl rfl (by kernel_rfl) ?_
  refine L_val (v := (.bool (decide (f ≥ 0)))) (w' := w) rfl rfl rfl rfl ?_
  rcases Bool.eq_false_or_eq_true (decide (f ≥ 0)) with c1 | c1
  · skip
    have q2 := of_decide_eq_true c1
    refine L_guard rfl rfl rfl rfl c1 ?_
    refine L_val (v := (.int .i64 f)) (w' := w) rfl rfl rfl rfl ?_
    refine L_guard rfl rfl rfl rfl c1 ?_
    refine L_val (v := (.bool (decide (f ≤ 24)))) (w' := w) rfl rfl rfl (by kernel_rfl) ?_
    refine L_val (v := (.bool (decide (f ≤ 24)))) (w' := w) rfl rfl rfl (x_pick rfl rfl (by rw [c1]; rfl)) ?_
    refine L_val (v := (.bool (decide (f ≤ 24)))) (w' := w) rfl rfl rfl rfl ?_
    rcases Bool.eq_false_or_eq_true (decide (f ≤ 24)) with c3 | c3
    · skip
      have q4 := of_decide_eq_true c3
      refine L_guard rfl rfl rfl rfl c3 ?_
      refine L_val (v := (.int .i64 c)) (w' := w) rfl rfl rfl rfl ?_
      refine L_guard rfl rfl rfl rfl c3 ?_
      refine L_val (v := (.bool (decide (c ≥ 0)))) (w' := w) rfl rfl rfl (by kernel_rfl) ?_
      refine L_val (v := (.bool (decide (c ≥ 0)))) (w' := w) rfl rfl rfl (x_pick rfl rfl (by rw [c3]; rfl)) ?_
      refine L_val (v := (.bool (decide (c ≥ 0)))) (w' := w) rfl rfl rfl rfl ?_
      rcases Bool.eq_false_or_eq_true (decide (c ≥ 0)) with c5 | c5
      · skip
        have q6 := of_decide_eq_true c5
        refine L_guard rfl rfl rfl rfl c5 ?_
        refine L_val (v := (.int .i64 c)) (w' := w) rfl rfl rfl rfl ?_
        refine L_guard rfl rfl rfl rfl c5 ?_
        refine L_val (v := (.bool (decide (c ≤ 12)))) (w' := w) rfl rfl rfl (by kernel_rfl) ?_
        refine L_val (v := (.bool (decide (c ≤ 12)))) (w' := w) rfl rfl rfl (x_pick rfl rfl (by rw [c5]; rfl)) ?_
        refine L_val (v := (.bool (decide (c ≤ 12)))) (w' := w) rfl rfl rfl rfl ?_
        refine L_nil ?_
        refine W_ret ?_
        refine ⟨_, _, res_run (rs := [.tmp 4]) (vs := [(.bool (decide (c ≤ 12)))]) Try.results20 (.cons (.tmp rfl) .nil) rfl, ?_⟩
        exact ⟨ret_bool (decide_eq_decide.2 (by omega)), hst.grow⟩
      · skip
        have q7 := of_decide_eq_false c5
        refine L_unwanted rfl rfl rfl rfl (by rw [c5]; rfl) rfl rfl ?_
        refine L_unwanted rfl rfl rfl rfl (by rw [c5]; rfl) rfl rfl ?_
        refine L_val (v := (.bool false)) (w' := w) rfl rfl rfl (x_pick rfl rfl (by rw [c5]; rfl)) ?_
        refine L_val (v := (.bool false)) (w' := w) rfl rfl rfl rfl ?_
        refine L_nil ?_
        refine W_ret ?_
        refine ⟨_, _, res_run (rs := [.tmp 4]) (vs := [(.bool false)]) Try.results20 (.cons (.tmp rfl) .nil) rfl, ?_⟩
        exact ⟨ret_bool (decide_eq_false (by omega)).symm, hst.grow⟩
    · skip
      have q8 := of_decide_eq_false c3
      refine L_unwanted rfl rfl rfl rfl (by rw [c3]; rfl) rfl rfl ?_
      refine L_unwanted rfl rfl rfl rfl (by rw [c3]; rfl) rfl rfl ?_
      refine L_val (v := (.bool false)) (w' := w) rfl rfl rfl (x_pick rfl rfl (by rw [c3]; rfl)) ?_
      refine L_val (v := (.bool false)) (w' := w) rfl rfl rfl rfl ?_
      refine L_unwanted rfl rfl rfl rfl rfl rfl rfl ?_
      refine L_unwanted rfl rfl rfl rfl rfl rfl rfl ?_
      refine L_val (v := (.bool false)) (w' := w) rfl rfl rfl rfl ?_
      refine L_val (v := (.bool false)) (w' := w) rfl rfl rfl rfl ?_
      refine L_nil ?_
      refine W_ret ?_
      refine ⟨_, _, res_run (rs := [.tmp 4]) (vs := [(.bool false)]) Try.results20 (.cons (.tmp rfl) .nil) rfl, ?_⟩
      exact ⟨ret_bool (decide_eq_false (by omega)).symm, hst.grow⟩
  · skip
    have q9 := of_decide_eq_false c1
    refine L_unwanted rfl rfl rfl rfl (by rw [c1]; rfl) rfl rfl ?_
    refine L_unwanted rfl rfl rfl rfl (by rw [c1]; rfl) rfl rfl ?_
    refine L_val (v := (.bool false)) (w' := w) rfl rfl rfl (x_pick rfl rfl (by rw [c1]; rfl)) ?_
    refine L_val (v := (.bool false)) (w' := w) rfl rfl rfl rfl ?_
    refine L_unwanted rfl rfl rfl rfl rfl rfl rfl ?_
    refine L_unwanted rfl rfl rfl rfl rfl rfl rfl ?_
    refine L_val (v := (.bool false)) (w' := w) rfl rfl rfl rfl ?_
    refine L_val (v := (.bool false)) (w' := w) rfl rfl rfl rfl ?_
    refine L_unwanted rfl rfl rfl rfl rfl rfl rfl ?_
    refine L_unwanted rfl rfl rfl rfl rfl rfl rfl ?_
    refine L_val (v := (.bool false)) (w' := w) rfl rfl rfl rfl ?_
    refine L_val (v := (.bool false)) (w' := w) rfl rfl rfl rfl ?_
    refine L_nil ?_
    refine W_ret ?_
    refine ⟨_, _, res_run (rs := [.tmp 4]) (vs := [(.bool false)]) Try.results20 (.cons (.tmp rfl) .nil) rfl, ?_⟩
    exact ⟨ret_bool (decide_eq_false (by omega)).symm, hst.grow⟩

theorem Nil_walk_yes {w : World} {R : Hp} {v : Value} {xs : List Fact} {f c : Nat} (hf : f ≤ 24) (hc : c ≤ 12) (hs : Sats w R []) (hv : RdS tyFact R v xs) (hmax : xs.length ≤ 1048576) :
    Calls Try.prog 6 #[(.int .i64 (f : Int)), (.int .i64 (c : Int)), v] w (Comes' w R [] fun v' R' L' => v' = .bool true ∧ L' = []) := by
  have hst := Step.refl hs
  refine calls_of_W (n := 118) Try.func6 rfl Try.ntmps6 (Nat.le_of_ble_eq_true rfl) ?_
  refine W_seq ?_
  refine W_region_lit ?_
  refine L_val (v := (.bool false)) (w' := w) rfl rfl rfl rfl ?_
  refine L_nil ?_
  refine W_seq ?_
  refine W_region_lit ?_
  have hst1 := hst
  refine L_callS [] [] hst1 rfl rfl rfl (x_call (vs := #[]) rfl rfl (by kernel_rfl) ent_9) (sanity_spec (hst1.sats.take 0 rfl)) (fun v2 w3 R4 L5 hp6 hle7 hst8 => ?_)
  obtain ⟨rfl, rfl⟩ := hp6
  refine L_val (v := (.bool true)) (w' := w3) rfl rfl rfl rfl ?_
  refine L_nil ?_
  refine W_seq ?_
  refine W_region_lit ?_
  refine L_val (v := (.int .i64 (f : Int))) (w' := w3) rfl rfl rfl rfl ?_
  refine L_val (v := (.int .i64 (c : Int))) (w' := w3) rfl rfl rfl rfl ?_
  have hst9 := hst8
  refine L_callS [] [] hst9 rfl rfl rfl (x_call (vs := #[(.int .i64 (f : Int)), (.int .i64 (c : Int))]) rfl rfl (by kernel_rfl) ent_10) (New_spec (f := f) (c := c) (hst9.sats.take 0 rfl) hf hc) (fun v10 w11 R12 L13 hp14 hle15 hst16 => ?_)
  obtain ⟨p17, c18, rfl, rfl, hreg19⟩ := hp14
  have hreg20 : Reg R12 p17 (RS.new f c) c18 := hreg19
  refine L_val (v := (ptr p17 0)) (w' := w11) rfl rfl rfl rfl ?_
  refine L_nil ?_
  refine W_seq ?_
  refine W_seq ?_
  refine W_region_lit ?_
  refine L_val (v := (ptr p17 0)) (w' := w11) rfl rfl rfl rfl ?_
  refine L_val (v := (.bool true)) (w' := w11) rfl rfl rfl (by kernel_rfl) ?_
  refine L_val (v := (.int .i64 (f : Int))) (w' := w11) rfl rfl rfl rfl ?_
  refine L_val (v := (.int .i64 (c : Int))) (w' := w11) rfl rfl rfl rfl ?_
  refine L_callG hst16 (v := (.bool true)) rfl rfl rfl (x_call (vs := #[(.int .i64 (f : Int)), (.int .i64 (c : Int))]) rfl rfl (by kernel_rfl) ent_20) (by have h_ := Permitted_spec (w := w11) (f : Int) (c : Int) (Le.refl _); rw [decide_eq_true (by omega)] at h_; exact h_) (fun w21 hst22 => ?_)
  refine L_val (v := (.bool false)) (w' := w21) rfl rfl rfl (by kernel_rfl) ?_
  refine L_nil ?_
  refine W_cond_false (by show Value.bool _ = _; exact congrArg Value.bool rfl) ?_
  refine W_skip ?_
  refine W_seq ?_
  refine W_region_lit ?_
  refine L_val (v := (.pointer none)) (w' := w21) rfl rfl rfl rfl ?_
  refine L_nil ?_
  refine W_seq ?_
  refine W_seq ?_
  refine W_region_lit ?_
  refine L_val (v := (.pointer none)) (w' := w21) rfl rfl rfl rfl ?_
  refine L_callG hst22 (v := (.int .i64 (-1))) rfl rfl rfl (x_call (vs := #[(.pointer none), (.int .i64 1), (.int .i64 0)]) rfl rfl (by kernel_rfl) ent_16) (Version_nil 1 0 (Le.refl _)) (fun w23 hst24 => ?_)
  refine L_val (v := (.bool false)) (w' := w23) rfl rfl rfl (by kernel_rfl) ?_
  refine L_val (v := (.bool false)) (w' := w23) rfl rfl rfl rfl ?_
  refine L_guard rfl rfl rfl rfl rfl ?_
  refine L_val (v := (.pointer none)) (w' := w23) rfl rfl rfl rfl ?_
  refine L_guard rfl rfl rfl rfl rfl ?_
  refine L_callG hst24 (v := (.int .i64 1)) rfl rfl rfl (x_call (vs := #[(.pointer none), (.int .i64 1), (.slice none 0 0)]) rfl rfl (by kernel_rfl) ent_11) (Add_nil 1 (Le.refl _)) (fun w25 hst26 => ?_)
  refine L_guard rfl rfl rfl rfl rfl ?_
  refine L_val (v := (.bool false)) (w' := w25) rfl rfl rfl (by kernel_rfl) ?_
  refine L_val (v := (.bool false)) (w' := w25) rfl rfl rfl rfl ?_
  refine L_val (v := (.bool false)) (w' := w25) rfl rfl rfl rfl ?_
  refine L_guard rfl rfl rfl rfl rfl ?_
  refine L_val (v := (.pointer none)) (w' := w25) rfl rfl rfl rfl ?_
  refine L_guard rfl rfl rfl rfl rfl ?_
  refine L_callG hst26 (v := (.bool false)) rfl rfl rfl (x_call (vs := #[(.pointer none), (.int .i64 1)]) rfl rfl (by kernel_rfl) ent_21) (Remove_nil 1 (Le.refl _)) (fun w27 hst28 => ?_)
  refine L_val (v := (.bool false)) (w' := w27) rfl rfl rfl rfl ?_
  refine L_val (v := (.bool false)) (w' := w27) rfl rfl rfl rfl ?_
  refine L_guard rfl rfl rfl rfl rfl ?_
  refine L_val (v := (.pointer none)) (w' := w27) rfl rfl rfl rfl ?_
  refine L_guard rfl rfl rfl rfl rfl ?_
  refine L_callG hst28 (v := (.bool false)) rfl rfl rfl (x_call (vs := #[(.pointer none), (.int .i64 1)]) rfl rfl (by kernel_rfl) ent_15) (Holds_nil 1 (Le.refl _)) (fun w29 hst30 => ?_)
  refine L_val (v := (.bool false)) (w' := w29) rfl rfl rfl rfl ?_
  refine L_val (v := (.bool false)) (w' := w29) rfl rfl rfl rfl ?_
  refine L_guard rfl rfl rfl rfl rfl ?_
  refine L_val (v := (.pointer none)) (w' := w29) rfl rfl rfl rfl ?_
  refine L_guard rfl rfl rfl rfl rfl ?_
  refine L_callG hst30 (v := (.slice none 0 0)) rfl rfl rfl (x_call (vs := #[(.pointer none), (.int .i64 1), (.int .i64 0)]) rfl rfl (by kernel_rfl) ent_14) (Bump_nil 1 0 (Le.refl _)) (fun w31 hst32 => ?_)
  refine L_guard rfl rfl rfl rfl rfl ?_
  refine L_val (v := (.int .i64 0)) (w' := w31) rfl rfl rfl (x_len_slice rfl sl_31 rfl) ?_
  refine L_guard rfl rfl rfl rfl rfl ?_
  refine L_val (v := (.pointer none)) (w' := w31) rfl rfl rfl rfl ?_
  refine L_guard rfl rfl rfl rfl rfl ?_
  refine L_callG hst32 (v := (.slice none 0 0)) rfl rfl rfl (x_call (vs := #[(.pointer none)]) rfl rfl (by kernel_rfl) ent_13) (Modules_nil  (Le.refl _)) (fun w33 hst34 => ?_)
  refine L_guard rfl rfl rfl rfl rfl ?_
  refine L_val (v := (.int .i64 0)) (w' := w33) rfl rfl rfl (x_len_slice rfl sl_31 rfl) ?_
  refine L_guard rfl rfl rfl rfl rfl ?_
  refine L_val (v := (.int .i64 0)) (w' := w33) rfl rfl rfl (by kernel_rfl) ?_
  refine L_guard rfl rfl rfl rfl rfl ?_
  refine L_val (v := (.pointer none)) (w' := w33) rfl rfl rfl rfl ?_
  refine L_guard rfl rfl rfl rfl rfl ?_
  refine L_val (v := (.agg #[(.int .i64 0), (.int .i64 0), (.slice none 0 0), (.slice none 0 0)])) (w' := w33) rfl rfl rfl (by kernel_rfl) ?_
  refine L_guard rfl rfl rfl rfl rfl ?_
  refine L_callG hst34 (v := (.slice none 0 0)) rfl rfl rfl (x_call (vs := #[(.pointer none), (.agg #[(.int .i64 0), (.int .i64 0), (.slice none 0 0), (.slice none 0 0)])]) rfl rfl (by kernel_rfl) ent_22) (Facts_nil  (Le.refl _)) (fun w35 hst36 => ?_)
  refine L_guard rfl rfl rfl rfl rfl ?_
  refine L_val (v := (.int .i64 0)) (w' := w35) rfl rfl rfl (x_len_slice rfl sl_29 rfl) ?_
  refine L_guard rfl rfl rfl rfl rfl ?_
  refine L_val (v := (.int .i64 0)) (w' := w35) rfl rfl rfl (by kernel_rfl) ?_
  refine L_guard rfl rfl rfl rfl rfl ?_
  refine L_val (v := (.bool false)) (w' := w35) rfl rfl rfl (by kernel_rfl) ?_
  refine L_val (v := (.bool false)) (w' := w35) rfl rfl rfl rfl ?_
  refine L_nil ?_
  refine W_cond_false (by show Value.bool _ = _; exact congrArg Value.bool rfl) ?_
  refine W_skip ?_
  refine W_seq ?_
  refine W_region_lit ?_
  refine L_val (v := (.agg #[(.map none), (.map none)])) (w' := w35) rfl rfl rfl (by kernel_rfl) ?_
  refine L_new hst36 (v := fun b => ptr b 0) (ob := .cells #[(.map none), (.map none)] 60 (0, 0)) rfl rfl rfl (by kernel_rfl) (fun b37 w38 hst39 => ?_)
  refine L_val (v := (ptr b37 0)) (w' := w38) rfl rfl rfl rfl ?_
  refine L_nil ?_
  refine W_seq ?_
  refine W_seq ?_
  obtain ⟨c40, hst41, hreg42⟩ := Reg.zero hst39
  have hreg43 : Reg R12 b37 zr c40 := hreg42
  refine W_region_lit ?_
  refine L_val (v := (ptr b37 0)) (w' := w38) rfl rfl rfl rfl ?_
  refine L_callG hst41 (v := (.int .i64 (ver zr.vers (1, 0)))) rfl rfl rfl (x_call (vs := #[(ptr b37 0), (.int .i64 1), (.int .i64 0)]) rfl rfl (by kernel_rfl) ent_16) (Version_reg (w := w38) 1 0 hreg43 (hst41.get (i := 0) rfl)) (fun w44 hst45 => ?_)
  refine L_val (v := (.bool ((ver zr.vers (1, 0)) != (-1)))) (w' := w44) rfl rfl rfl (by kernel_rfl) ?_
  refine L_val (v := (.bool ((ver zr.vers (1, 0)) != (-1)))) (w' := w44) rfl rfl rfl rfl ?_
  have c46 : ((ver zr.vers (1, 0)) != (-1)) = false := by decide
  have q47 : ver zr.vers (1, 0) = (-1) := by simpa using c46
  refine L_guard rfl rfl rfl rfl c46 ?_
  refine L_val (v := (ptr b37 0)) (w' := w44) rfl rfl rfl rfl ?_
  refine L_guard rfl rfl rfl rfl c46 ?_
  have hst48 := hst45
  refine L_callS [c40] [c18] hst48 rfl rfl rfl (x_call (vs := #[(ptr b37 0), (.int .i64 2), (.slice none 0 0)]) rfl rfl (by kernel_rfl) ent_11) (Add_spec 2 (RdS.empty _ _) (by simp) (hst48.sats.take 1 rfl) hreg43) (fun v49 w50 R51 L52 hp53 hle54 hst55 => ?_)
  have hm56 := Reg.lift hreg20 hle54
  obtain ⟨c57, hv58, rfl, hreg59⟩ := hp53
  rw [zr_add] at hv58
  subst hv58
  have hreg60 : Reg R51 b37 z1 c57 := hreg59
  refine L_guard rfl rfl rfl rfl c46 ?_
  refine L_val (v := (.bool false)) (w' := w50) rfl rfl rfl (by kernel_rfl) ?_
  refine L_val (v := (.bool false)) (w' := w50) rfl rfl rfl (x_pick rfl rfl (by rw [c46]; rfl)) ?_
  refine L_val (v := (.bool false)) (w' := w50) rfl rfl rfl rfl ?_
  refine L_guard rfl rfl rfl rfl rfl ?_
  refine L_val (v := (ptr b37 0)) (w' := w50) rfl rfl rfl rfl ?_
  refine L_guard rfl rfl rfl rfl rfl ?_
  refine L_callG hst55 (v := (.bool (holds z1.vers z1.mods 2))) rfl rfl rfl (x_call (vs := #[(ptr b37 0), (.int .i64 2)]) rfl rfl (by kernel_rfl) ent_15) (Holds_reg (w := w50) 2 hreg60 hst55.rle' (hst55.get (i := 0) rfl)) (fun w61 hst62 => ?_)
  refine L_guard rfl rfl rfl rfl rfl ?_
  refine L_val (v := (.bool (!(holds z1.vers z1.mods 2)))) (w' := w61) rfl rfl rfl rfl ?_
  refine L_val (v := (.bool (!(holds z1.vers z1.mods 2)))) (w' := w61) rfl rfl rfl rfl ?_
  refine L_val (v := (.bool (!(holds z1.vers z1.mods 2)))) (w' := w61) rfl rfl rfl rfl ?_
  have c63 : (holds z1.vers z1.mods 2) = true := by decide
  refine L_guard rfl rfl rfl rfl (by rw [c63]; rfl) ?_
  refine L_val (v := (ptr b37 0)) (w' := w61) rfl rfl rfl rfl ?_
  refine L_guard rfl rfl rfl rfl (by rw [c63]; rfl) ?_
  have hst64 := hst62
  refine L_callS [c57] [c18] hst64 rfl rfl rfl (x_call (vs := #[(ptr b37 0), (.int .i64 3)]) rfl rfl (by kernel_rfl) ent_21) (Remove_spec 3 (hst64.sats.take 1 rfl) hreg60) (fun v65 w66 R67 L68 hp69 hle70 hst71 => ?_)
  have hm72 := Reg.lift hm56 hle70
  obtain ⟨c73, rfl, rfl, hreg74⟩ := hp69
  have hreg75 : Reg R67 b37 (RS.remove z1 3) c73 := hreg74
  refine L_val (v := (.bool ((AL.get z1.mods 3).isSome))) (w' := w66) rfl rfl rfl (x_pick rfl rfl (by rw [c63]; rfl)) ?_
  refine L_val (v := (.bool ((AL.get z1.mods 3).isSome))) (w' := w66) rfl rfl rfl rfl ?_
  have c76 : ((AL.get z1.mods 3).isSome) = false := by decide
  refine L_guard rfl rfl rfl rfl c76 ?_
  refine L_val (v := (ptr b37 0)) (w' := w66) rfl rfl rfl rfl ?_
  refine L_guard rfl rfl rfl rfl c76 ?_
  have hst77 := hst71
  refine L_callS [c73] [c18] hst77 rfl rfl rfl (x_call (vs := #[(ptr b37 0), (.int .i64 1), (.int .i64 0)]) rfl rfl (by kernel_rfl) ent_14) (Bump_spec 1 0 (hst77.sats.take 1 rfl) hreg75 z1_rm (by decide)) (fun v78 w79 R80 L81 hp82 hle83 hst84 => ?_)
  have hm85 := Reg.lift hm72 hle83
  obtain ⟨c86, co87, rfl, hreg88, ho89⟩ := hp82
  have hreg90 : Reg R80 b37 (RS.bump (RS.remove z1 3) 1 0) c86 := hreg88
  refine L_guard rfl rfl rfl rfl c76 ?_
  obtain ⟨a91, cap92, e93, hc94⟩ := ho89.value
  subst e93
  refine L_val (v := (.int .i64 (((RS.bumpL (RS.remove z1 3) 1 0).length : Nat) : Int))) (w' := w79) rfl rfl rfl (x_len_slice rfl sl_31 rfl) ?_
  refine L_guard rfl rfl rfl rfl c76 ?_
  have hq95 : ((((RS.bumpL (RS.remove z1 3) 1 0).length : Nat) : Int) != 0) = false := by decide
  refine L_val (v := .bool ((((RS.bumpL (RS.remove z1 3) 1 0).length : Nat) : Int) != 0)) (w' := w79) rfl rfl rfl (by kernel_rfl) ?_
  refine L_val (v := (.bool ((((RS.bumpL (RS.remove z1 3) 1 0).length : Nat) : Int) != 0))) (w' := w79) rfl rfl rfl (x_pick rfl rfl (by rw [c76]; rfl)) ?_
  refine L_nil ?_
  refine W_cond_false (by show Value.bool _ = _; exact congrArg Value.bool hq95) ?_
  refine W_skip ?_
  refine W_seq ?_
  refine W_region_lit ?_
  have hst96 := hst84
  refine L_callS [] [c86, co87, c18] hst96 rfl rfl rfl (x_call (vs := #[(.int .i64 4), (.int .i64 3)]) rfl rfl (by kernel_rfl) ent_10) (New_spec (f := 4) (c := 3) (hst96.sats.take 0 rfl) (by decide) (by decide)) (fun v97 w98 R99 L100 hp101 hle102 hst103 => ?_)
  have hm104 := Reg.lift hreg90 hle102
  have hm105 := OwnL.mono ho89 hle102
  have hm106 := Reg.lift hm85 hle102
  obtain ⟨p107, c108, rfl, rfl, hreg109⟩ := hp101
  have hreg110 : Reg R99 p107 (RS.new 4 3) c108 := hreg109
  refine L_val (v := (ptr p107 0)) (w' := w98) rfl rfl rfl rfl ?_
  refine L_nil ?_
  refine W_seq ?_
  refine W_region_lit ?_
  refine L_val (v := v) (w' := w98) rfl rfl rfl rfl ?_
  obtain ⟨a111, cap112, e113, hc114⟩ := hv.shape
  subst e113
  have hst115 := hst103
  refine L_callS [] [c108, c86, co87, c18] hst115 rfl rfl rfl (x_call (vs := #[(.slice a111 xs.length cap112)]) rfl rfl (by kernel_rfl) ent_23) (Clone_specB (v := (.slice a111 xs.length cap112)) (xs := xs) (hst115.sats.take 0 rfl) hv (Le.trans hle7 (Le.trans hle15 (Le.trans hle54 (Le.trans hle70 (Le.trans hle83 (Le.trans hle102 hst103.rle')))))) (by omega)) (fun v116 w117 R118 L119 hp120 hle121 hst122 => ?_)
  have hm123 := Reg.lift hreg110 hle121
  have hm124 := Reg.lift hm104 hle121
  have hm125 := OwnL.mono hm105 hle121
  have hm126 := Reg.lift hm106 hle121
  obtain ⟨c127, rfl, ho128⟩ := hp120
  refine L_val (v := v116) (w' := w117) rfl rfl rfl rfl ?_
  refine L_nil ?_
  refine W_seq ?_
  refine W_region_lit ?_
  refine L_val (v := (ptr p107 0)) (w' := w117) rfl rfl rfl rfl ?_
  refine L_val (v := v116) (w' := w117) rfl rfl rfl rfl ?_
  have hrd129 : RdS tyFact c127 v116 xs := OwnL.freeze (OwnL.refact (R' := c127) ho128) (Le.refl _) (Le.refl _)
  have hd130 := djAt ((((((hst122.front 4 rfl rfl).front 4 rfl rfl).front 4 rfl rfl).front 3 rfl rfl).front 4 rfl rfl)).sats.dj (i := 0) (j := 1) rfl rfl rfl
  have hst131 := (hst122.front 1 rfl rfl)
  refine L_callS [c108] [c127, c86, co87, c18] hst131 rfl rfl rfl (x_call (vs := #[(ptr p107 0), (.int .i64 1), v116]) rfl rfl (by kernel_rfl) ent_11) (Add_specB (v := v116) 1 hrd129 (hst122.get (i := 0) rfl) hd130.symm (by omega) (hst131.sats.take 1 rfl) hm123) (fun v132 w133 R134 L135 hp136 hle137 hst138 => ?_)
  have hm139 := OwnL.mono ho128 hle137
  have hm140 := Reg.lift hm124 hle137
  have hm141 := OwnL.mono hm125 hle137
  have hm142 := Reg.lift hm126 hle137
  obtain ⟨c143, rfl, rfl, hreg144⟩ := hp136
  have hreg145 : Reg R134 p107 (RS.add (RS.new 4 3) 1 xs) c143 := hreg144
  refine L_val (v := (.int .i64 (RS.addE (RS.new 4 3) 1 xs))) (w' := w133) rfl rfl rfl rfl ?_
  refine L_nil ?_
  refine W_seq ?_
  refine W_seq ?_
  obtain ⟨a146, cap147, e148, hc149⟩ := hm139.value
  subst e148
  refine W_region_lit ?_
  refine L_val (v := (.slice a146 xs.length cap147)) (w' := w133) rfl rfl rfl rfl ?_
  refine L_val (v := (.int .i64 (xs.length : Int))) (w' := w133) rfl rfl rfl (x_len_slice rfl sl_29 rfl) ?_
  refine L_val (v := (.int .i64 0)) (w' := w133) rfl rfl rfl rfl ?_
  refine L_nil ?_
  refine W_block ?_
  refine W_loop (I := fun σ w_ m_ => ∃ (σ0 : Fr) (k_ : Nat) (ys : List Fact) (co : Hp), σ = upd (upd (upd (upd (upd (upd (upd (upd (upd (upd (upd (upd (upd (upd (upd (upd (upd (upd (upd (upd (upd (upd (upd (upd (upd (upd (upd (upd (upd (upd (upd (upd (upd (upd (upd (upd (upd (upd (upd (upd (upd (upd (upd (upd (upd (upd (upd (upd (upd (upd (upd (upd (upd (upd (upd (upd (upd (upd (upd (upd (upd (upd (upd (upd (upd (upd (upd (upd (upd (upd (upd (upd (upd (upd (upd (upd (upd (upd (upd (upd (upd (upd (upd (upd (upd (upd σ0 0 (.int .i64 (f : Int))) 1 (.int .i64 (c : Int))) 2 (.slice a111 xs.length cap112)) 6 (.bool false)) 7 (.bool true)) 8 (ptr p17 0)) 9 (.pointer none)) 10 (ptr b37 0)) 11 (ptr p107 0)) 12 (.slice a146 xs.length cap147)) 13 (.int .i64 (RS.addE (RS.new 4 3) 1 xs))) 17 (.bool true)) 18 (.int .i64 (f : Int))) 19 (.int .i64 (c : Int))) 20 (ptr p17 0)) 21 (ptr p17 0)) 22 (.bool true)) 23 (.int .i64 (f : Int))) 24 (.int .i64 (c : Int))) 25 (.bool true)) 26 (.bool false)) 27 (.pointer none)) 28 (.int .i64 (-1))) 29 (.bool false)) 30 (.bool false)) 31 (.pointer none)) 32 (.int .i64 1)) 33 (.bool false)) 34 (.bool false)) 35 (.bool false)) 36 (.pointer none)) 37 (.bool false)) 38 (.bool false)) 39 (.bool false)) 40 (.pointer none)) 41 (.bool false)) 42 (.bool false)) 43 (.bool false)) 44 (.pointer none)) 45 (.slice none 0 0)) 46 (.int .i64 0)) 47 (.pointer none)) 48 (.slice none 0 0)) 49 (.int .i64 0)) 50 (.int .i64 0)) 51 (.pointer none)) 52 (.agg #[(.int .i64 0), (.int .i64 0), (.slice none 0 0), (.slice none 0 0)])) 53 (.slice none 0 0)) 54 (.int .i64 0)) 55 (.int .i64 0)) 56 (.bool false)) 57 (.bool false)) 58 (.agg #[(.map none), (.map none)])) 59 (ptr b37 0)) 60 (ptr b37 0)) 61 (.int .i64 (ver zr.vers (1, 0)))) 62 (.bool ((ver zr.vers (1, 0)) != (-1)))) 63 (.bool ((ver zr.vers (1, 0)) != (-1)))) 64 (ptr b37 0)) 65 (.int .i64 0)) 66 (.bool false)) 67 (.bool false)) 68 (.bool false)) 69 (ptr b37 0)) 70 (.bool (holds z1.vers z1.mods 2))) 71 (.bool (!(holds z1.vers z1.mods 2)))) 72 (.bool (!(holds z1.vers z1.mods 2)))) 73 (.bool (!(holds z1.vers z1.mods 2)))) 74 (ptr b37 0)) 75 (.bool ((AL.get z1.mods 3).isSome))) 76 (.bool ((AL.get z1.mods 3).isSome))) 77 (.bool ((AL.get z1.mods 3).isSome))) 78 (ptr b37 0)) 79 (.slice a91 ((RS.bumpL (RS.remove z1 3) 1 0).length) cap92)) 80 (.int .i64 (((RS.bumpL (RS.remove z1 3) 1 0).length : Nat) : Int))) 81 (.bool ((((RS.bumpL (RS.remove z1 3) 1 0).length : Nat) : Int) != 0))) 82 (.bool ((((RS.bumpL (RS.remove z1 3) 1 0).length : Nat) : Int) != 0))) 83 (ptr p107 0)) 84 (.slice a111 xs.length cap112)) 85 (.slice a146 xs.length cap147)) 86 (ptr p107 0)) 87 (.slice a146 xs.length cap147)) 88 (.int .i64 (RS.addE (RS.new 4 3) 1 xs))) 89 (.slice a146 xs.length cap147)) 90 (.int .i64 (xs.length : Int))) 91 (.int .i64 (k_ : Int)) ∧ mks (σ0 0) = [] ∧ Step w R [] w_ R134 [c143, co] ∧ OwnL tyFact 38 R134 (.slice a146 xs.length cap147) ys co ∧ k_ ≤ xs.length ∧ ys.length = xs.length ∧ m_ = xs.length - k_) (m := xs.length - 0) ?_ ?_
  · skip
    exact ⟨_, 0, xs, c127, (upd_of (upd_of (upd_of (upd_of (upd_of (upd_of (upd_of (upd_of (upd_of (upd_of (upd_of (upd_of (upd_of (upd_of (upd_of (upd_of (upd_of (upd_of (upd_of (upd_of (upd_of (upd_of (upd_of (upd_of (upd_of (upd_of (upd_of (upd_of (upd_of (upd_of (upd_of (upd_of (upd_of (upd_of (upd_of (upd_of (upd_of (upd_of (upd_of (upd_of (upd_of (upd_of (upd_of (upd_of (upd_of (upd_of (upd_of (upd_of (upd_of (upd_of (upd_of (upd_of (upd_of (upd_of (upd_of (upd_of (upd_of (upd_of (upd_of (upd_of (upd_of (upd_of (upd_of (upd_of (upd_of (upd_of (upd_of (upd_of (upd_of (upd_of (upd_of (upd_of (upd_of (upd_of (upd_of (upd_of (upd_of (upd_of (upd_of (upd_of (upd_of (upd_of (upd_of (upd_of (upd_of (upd_of rfl rfl) rfl) rfl) rfl) rfl) rfl) rfl) rfl) rfl) rfl) rfl) rfl) rfl) rfl) rfl) rfl) rfl) rfl) rfl) rfl) rfl) rfl) rfl) rfl) rfl) rfl) rfl) rfl) rfl) rfl) rfl) rfl) rfl) rfl) rfl) rfl) rfl) rfl) rfl) rfl) rfl) rfl) rfl) rfl) rfl) rfl) rfl) rfl) rfl) rfl) rfl) rfl) rfl) rfl) rfl) rfl) rfl) rfl) rfl) rfl) rfl) rfl) rfl) rfl) rfl) rfl) rfl) rfl) rfl) rfl) rfl) rfl) rfl) rfl) rfl) rfl) rfl) rfl) rfl) rfl) rfl) rfl) rfl) rfl) rfl) rfl), rfl, (((hst138.front 1 rfl rfl).front 1 rfl rfl).keepN 2 rfl), hm139, (by omega), rfl, rfl⟩
  · skip
    rintro m161 σ_ w152 ⟨s157, k_158, ys159, co160, rfl, hmk150, hst151, hi154, hf155, hf156, rfl⟩
    refine W_seq ?_
    refine W_region_lit ?_
    refine L_val (v := (.bool (decide ((k_158 : Int) < (xs.length : Int))))) (w' := w152) rfl rfl rfl (by kernel_rfl) ?_
    refine L_nil ?_
    refine W_seq ?_
    rcases Bool.eq_false_or_eq_true (decide ((k_158 : Int) < (xs.length : Int))) with c162 | c162
    · skip
      have q163 := of_decide_eq_true c162
      refine W_cond_true (by show Value.bool _ = _; exact congrArg Value.bool c162) ?_
      refine W_skip ?_
      refine W_seq ?_
      refine W_block ?_
      refine W_seq ?_
      refine W_region_lit ?_
      refine L_val (v := (.int .i64 (k_158 : Int))) (w' := w152) rfl rfl rfl rfl ?_
      refine L_val (v := (.int .i64 (k_158 : Int))) (w' := w152) rfl rfl rfl rfl ?_
      refine L_nil ?_
      refine W_region_lit ?_
      refine L_val (v := (.slice a146 xs.length cap147)) (w' := w152) rfl rfl rfl rfl ?_
      refine L_val (v := (.int .i64 (k_158 : Int))) (w' := w152) rfl rfl rfl rfl ?_
      refine L_val (v := (.agg #[(.int .i64 0), (.int .i64 0), (.int .i64 0)])) (w' := w152) rfl rfl rfl (by kernel_rfl) ?_
      obtain ⟨b164, cap165, N166, e167, hc168, hrow169, hback170⟩ := OwnL.row hi154 (by omega)
      obtain ⟨rfl, hl171, rfl⟩ := Value.slice.inj e167
      try rw [← hl171] at hback170
      obtain ⟨cl172, cs173, hr174, hcb175, hsg176⟩ := Row.at hrow169 k_158 (by omega)
      obtain rfl := tyFact_open hr174
      refine L_val (v := (ptr b164 (0 + k_158 * 3))) (w' := w152) rfl rfl rfl (x_indexAddr' rfl sl_29 ti_38 rfl rfl (by omega)) ?_
      obtain ⟨c177, w178, hr179, hrow180, hst181⟩ := Row.store (P := Try.prog) (v := (.agg #[(.int .i64 0), (.int .i64 0), (.int .i64 0)])) (y := (⟨0, 0, 0⟩ : Fact)) hrow169 (hst151.front 1 rfl rfl) ti_38 k_158 (by omega) (tyFact_mk _ _ _ _)
      refine L_skip rfl rfl (x_store rfl rfl rfl hr179) ?_
      refine L_nil ?_
      refine W_region_lit ?_
      refine L_val (v := (.int .i64 ((k_158 + 1 : Nat) : Int))) (w' := w178) rfl rfl rfl (x_add_nat rfl rfl rfl (by omega)) ?_
      refine L_val (v := (.int .i64 ((k_158 + 1 : Nat) : Int))) (w' := w178) rfl rfl rfl rfl ?_
      refine L_nil ?_
      refine ⟨xs.length - (k_158 + 1), by first | omega | (simp only [List.length_append, List.length_cons, List.length_nil]; omega), ?_⟩
      exact ⟨_, (k_158 + 1), (ys159.set k_158 (⟨0, 0, 0⟩ : Fact)), c177, (upd_of (upd_of (upd_of (upd_of (upd_of (upd_of (upd_of (upd_of (upd_of (upd_of (upd_of (upd_of (upd_of (upd_of (upd_of (upd_of (upd_of (upd_of (upd_of (upd_of (upd_of (upd_of (upd_of (upd_of (upd_of (upd_of (upd_of (upd_of (upd_of (upd_of (upd_of (upd_of (upd_of (upd_of (upd_of (upd_of (upd_of (upd_of (upd_of (upd_of (upd_of (upd_of (upd_of (upd_of (upd_of (upd_of (upd_of (upd_of (upd_of (upd_of (upd_of (upd_of (upd_of (upd_of (upd_of (upd_of (upd_of (upd_of (upd_of (upd_of (upd_of (upd_of (upd_of (upd_of (upd_of (upd_of (upd_of (upd_of (upd_of (upd_of (upd_of (upd_of (upd_of (upd_of (upd_of (upd_of (upd_of (upd_of (upd_of (upd_of (upd_of (upd_of (upd_of (upd_of (upd_of (upd_of rfl rfl) rfl) rfl) rfl) rfl) rfl) rfl) rfl) rfl) rfl) rfl) rfl) rfl) rfl) rfl) rfl) rfl) rfl) rfl) rfl) rfl) rfl) rfl) rfl) rfl) rfl) rfl) rfl) rfl) rfl) rfl) rfl) rfl) rfl) rfl) rfl) rfl) rfl) rfl) rfl) rfl) rfl) rfl) rfl) rfl) rfl) rfl) rfl) rfl) rfl) rfl) rfl) rfl) rfl) rfl) rfl) rfl) rfl) rfl) rfl) rfl) rfl) rfl) rfl) rfl) rfl) rfl) rfl) rfl) rfl) rfl) rfl) rfl) rfl) rfl) rfl) rfl) rfl) rfl) rfl) rfl) rfl) rfl) rfl) rfl) rfl), hmk150, (hst181.front 1 rfl rfl), (hback170 R134 (ys159.set k_158 (⟨0, 0, 0⟩ : Fact)) c177 (by simp only [List.length_set]; omega) hrow180), (by omega), (by simp only [List.length_set]; omega), rfl⟩
    · skip
      have q182 := of_decide_eq_false c162
      refine W_cond_false (by show Value.bool _ = _; exact congrArg Value.bool c162) ?_
      refine W_exit ?_
      refine W_seq ?_
      refine W_region_lit ?_
      refine L_val (v := (ptr p107 0)) (w' := w152) rfl rfl rfl rfl ?_
      refine L_call rfl rfl rfl (x_call (vs := #[(ptr p107 0)]) rfl rfl (by kernel_rfl) ent_13) (Modules_reg hreg145 (hst151.get (i := 0) rfl) (by rw [add_vers]; decide) (Nat.le_trans (add_len _ _ _) (by decide))) ?_
      rintro e183 w184 ⟨v185, R186, L187, rfl, hst188, hp189⟩
      obtain ⟨c191, rfl, ho192⟩ := hp189
      have ho193 := OwnL.reint (R' := R134) ho192
      have hst190 := Step.gain hst151 hst188
      refine ⟨_, rfl, ?_⟩
      refine L_val (v := v185) (w' := w184) rfl rfl rfl rfl ?_
      refine L_nil ?_
      refine W_seq ?_
      refine W_seq ?_
      obtain ⟨a194, cap195, e196, hc197⟩ := ho193.value
      subst e196
      have hmx := RS.modules_len (RS.add (RS.new 4 3) 1 xs)
      have hml := add_len (RS.new 4 3) 1 xs
      have hm0 : (RS.new 4 3).mods.length = 0 := rfl
      refine W_region_lit ?_
      refine L_val (v := (.slice a194 ((RS.modules (RS.add (RS.new 4 3) 1 xs)).length) cap195)) (w' := w184) rfl rfl rfl rfl ?_
      refine L_val (v := (.int .i64 (((RS.modules (RS.add (RS.new 4 3) 1 xs)).length : Nat) : Int))) (w' := w184) rfl rfl rfl (x_len_slice rfl sl_31 rfl) ?_
      refine L_val (v := (.int .i64 0)) (w' := w184) rfl rfl rfl rfl ?_
      refine L_nil ?_
      refine W_block ?_
      refine W_loop (I := fun σ w_ m_ => ∃ (σ0 : Fr) (k_ : Nat) (ys : List Int) (co : Hp), σ = upd (upd (upd (upd (upd (upd (upd (upd (upd (upd (upd (upd (upd (upd (upd (upd (upd (upd (upd (upd (upd (upd (upd (upd (upd (upd (upd (upd (upd (upd (upd (upd (upd (upd (upd (upd (upd (upd (upd (upd (upd (upd (upd (upd (upd (upd (upd (upd (upd (upd (upd (upd (upd (upd (upd (upd (upd (upd (upd (upd (upd (upd (upd (upd (upd (upd (upd (upd (upd (upd (upd (upd (upd (upd (upd (upd (upd (upd (upd (upd (upd (upd (upd (upd (upd (upd (upd (upd (upd (upd (upd (upd (upd σ0 0 (.int .i64 (f : Int))) 1 (.int .i64 (c : Int))) 2 (.slice a111 xs.length cap112)) 6 (.bool false)) 7 (.bool true)) 8 (ptr p17 0)) 9 (.pointer none)) 10 (ptr b37 0)) 11 (ptr p107 0)) 12 (.slice a146 xs.length cap147)) 13 (.int .i64 (RS.addE (RS.new 4 3) 1 xs))) 15 (.slice a194 ((RS.modules (RS.add (RS.new 4 3) 1 xs)).length) cap195)) 17 (.bool true)) 18 (.int .i64 (f : Int))) 19 (.int .i64 (c : Int))) 20 (ptr p17 0)) 21 (ptr p17 0)) 22 (.bool true)) 23 (.int .i64 (f : Int))) 24 (.int .i64 (c : Int))) 25 (.bool true)) 26 (.bool false)) 27 (.pointer none)) 28 (.int .i64 (-1))) 29 (.bool false)) 30 (.bool false)) 31 (.pointer none)) 32 (.int .i64 1)) 33 (.bool false)) 34 (.bool false)) 35 (.bool false)) 36 (.pointer none)) 37 (.bool false)) 38 (.bool false)) 39 (.bool false)) 40 (.pointer none)) 41 (.bool false)) 42 (.bool false)) 43 (.bool false)) 44 (.pointer none)) 45 (.slice none 0 0)) 46 (.int .i64 0)) 47 (.pointer none)) 48 (.slice none 0 0)) 49 (.int .i64 0)) 50 (.int .i64 0)) 51 (.pointer none)) 52 (.agg #[(.int .i64 0), (.int .i64 0), (.slice none 0 0), (.slice none 0 0)])) 53 (.slice none 0 0)) 54 (.int .i64 0)) 55 (.int .i64 0)) 56 (.bool false)) 57 (.bool false)) 58 (.agg #[(.map none), (.map none)])) 59 (ptr b37 0)) 60 (ptr b37 0)) 61 (.int .i64 (ver zr.vers (1, 0)))) 62 (.bool ((ver zr.vers (1, 0)) != (-1)))) 63 (.bool ((ver zr.vers (1, 0)) != (-1)))) 64 (ptr b37 0)) 65 (.int .i64 0)) 66 (.bool false)) 67 (.bool false)) 68 (.bool false)) 69 (ptr b37 0)) 70 (.bool (holds z1.vers z1.mods 2))) 71 (.bool (!(holds z1.vers z1.mods 2)))) 72 (.bool (!(holds z1.vers z1.mods 2)))) 73 (.bool (!(holds z1.vers z1.mods 2)))) 74 (ptr b37 0)) 75 (.bool ((AL.get z1.mods 3).isSome))) 76 (.bool ((AL.get z1.mods 3).isSome))) 77 (.bool ((AL.get z1.mods 3).isSome))) 78 (ptr b37 0)) 79 (.slice a91 ((RS.bumpL (RS.remove z1 3) 1 0).length) cap92)) 80 (.int .i64 (((RS.bumpL (RS.remove z1 3) 1 0).length : Nat) : Int))) 81 (.bool ((((RS.bumpL (RS.remove z1 3) 1 0).length : Nat) : Int) != 0))) 82 (.bool ((((RS.bumpL (RS.remove z1 3) 1 0).length : Nat) : Int) != 0))) 83 (ptr p107 0)) 84 (.slice a111 xs.length cap112)) 85 (.slice a146 xs.length cap147)) 86 (ptr p107 0)) 87 (.slice a146 xs.length cap147)) 88 (.int .i64 (RS.addE (RS.new 4 3) 1 xs))) 89 (.slice a146 xs.length cap147)) 90 (.int .i64 (xs.length : Int))) 91 (.int .i64 (k_158 : Int))) 92 (.bool (decide ((k_158 : Int) < (xs.length : Int))))) 99 (ptr p107 0)) 100 (.slice a194 ((RS.modules (RS.add (RS.new 4 3) 1 xs)).length) cap195)) 101 (.slice a194 ((RS.modules (RS.add (RS.new 4 3) 1 xs)).length) cap195)) 102 (.int .i64 (((RS.modules (RS.add (RS.new 4 3) 1 xs)).length : Nat) : Int))) 103 (.int .i64 (k_ : Int)) ∧ mks (σ0 0) = [] ∧ Step w R [] w_ R134 [c143, co] ∧ OwnL Ty.int 3 R134 (.slice a194 ((RS.modules (RS.add (RS.new 4 3) 1 xs)).length) cap195) ys co ∧ k_ ≤ (RS.modules (RS.add (RS.new 4 3) 1 xs)).length ∧ ys.length = (RS.modules (RS.add (RS.new 4 3) 1 xs)).length ∧ m_ = (RS.modules (RS.add (RS.new 4 3) 1 xs)).length - k_) (m := (RS.modules (RS.add (RS.new 4 3) 1 xs)).length - 0) ?_ ?_
      · skip
        exact ⟨_, 0, (RS.modules (RS.add (RS.new 4 3) 1 xs)), c191, (upd_of (upd_of (upd_of (upd_of (upd_of (upd_of (upd_of (upd_of (upd_of (upd_of (upd_of (upd_of (upd_of (upd_of (upd_of (upd_of (upd_of (upd_of (upd_of (upd_of (upd_of (upd_of (upd_of (upd_of (upd_of (upd_of (upd_of (upd_of (upd_of (upd_of (upd_of (upd_of (upd_of (upd_of (upd_of (upd_of (upd_of (upd_of (upd_of (upd_of (upd_of (upd_of (upd_of (upd_of (upd_of (upd_of (upd_of (upd_of (upd_of (upd_of (upd_of (upd_of (upd_of (upd_of (upd_of (upd_of (upd_of (upd_of (upd_of (upd_of (upd_of (upd_of (upd_of (upd_of (upd_of (upd_of (upd_of (upd_of (upd_of (upd_of (upd_of (upd_of (upd_of (upd_of (upd_of (upd_of (upd_of (upd_of (upd_of (upd_of (upd_of (upd_of (upd_of (upd_of (upd_of (upd_of (upd_of (upd_of (upd_of (upd_of (upd_of (upd_of (upd_of rfl rfl) rfl) rfl) rfl) rfl) rfl) rfl) rfl) rfl) rfl) rfl) rfl) rfl) rfl) rfl) rfl) rfl) rfl) rfl) rfl) rfl) rfl) rfl) rfl) rfl) rfl) rfl) rfl) rfl) rfl) rfl) rfl) rfl) rfl) rfl) rfl) rfl) rfl) rfl) rfl) rfl) rfl) rfl) rfl) rfl) rfl) rfl) rfl) rfl) rfl) rfl) rfl) rfl) rfl) rfl) rfl) rfl) rfl) rfl) rfl) rfl) rfl) rfl) rfl) rfl) rfl) rfl) rfl) rfl) rfl) rfl) rfl) rfl) rfl) rfl) rfl) rfl) rfl) rfl) rfl) rfl) rfl) rfl) rfl) rfl) rfl) rfl) rfl) rfl) rfl) rfl) rfl) rfl), hmk150, ((hst190.front 1 rfl rfl).keepN 2 rfl), ho193, (by omega), rfl, rfl⟩
      · skip
        rintro m209 σ_ w200 ⟨s205, k_206, ys207, co208, rfl, hmk198, hst199, hi202, hf203, hf204, rfl⟩
        refine W_seq ?_
        refine W_region_lit ?_
        refine L_val (v := (.bool (decide ((k_206 : Int) < (((RS.modules (RS.add (RS.new 4 3) 1 xs)).length : Nat) : Int))))) (w' := w200) rfl rfl rfl (by kernel_rfl) ?_
        refine L_nil ?_
        refine W_seq ?_
        rcases Bool.eq_false_or_eq_true (decide ((k_206 : Int) < (((RS.modules (RS.add (RS.new 4 3) 1 xs)).length : Nat) : Int))) with c210 | c210
        · skip
          have q211 := of_decide_eq_true c210
          refine W_cond_true (by show Value.bool _ = _; exact congrArg Value.bool c210) ?_
          refine W_skip ?_
          refine W_seq ?_
          refine W_block ?_
          refine W_seq ?_
          refine W_region_lit ?_
          refine L_val (v := (.int .i64 (k_206 : Int))) (w' := w200) rfl rfl rfl rfl ?_
          refine L_val (v := (.int .i64 (k_206 : Int))) (w' := w200) rfl rfl rfl rfl ?_
          refine L_nil ?_
          refine W_region_lit ?_
          refine L_val (v := (.slice a194 ((RS.modules (RS.add (RS.new 4 3) 1 xs)).length) cap195)) (w' := w200) rfl rfl rfl rfl ?_
          refine L_val (v := (.int .i64 (k_206 : Int))) (w' := w200) rfl rfl rfl rfl ?_
          obtain ⟨b212, cap213, N214, e215, hc216, hrow217, hback218⟩ := OwnL.row hi202 (by omega)
          obtain ⟨rfl, hl219, rfl⟩ := Value.slice.inj e215
          try rw [← hl219] at hback218
          obtain ⟨cl220, cs221, hr222, hcb223, hsg224⟩ := Row.at hrow217 k_206 (by omega)
          have hx225 : cl220 = [.int .i64 (ys207[k_206]'(by omega))] := hr222
          subst hx225
          refine L_val (v := (ptr b212 (0 + k_206 * 1))) (w' := w200) rfl rfl rfl (x_indexAddr' rfl sl_31 ti_3 rfl rfl (by omega)) ?_
          obtain ⟨c226, w227, hr228, hrow229, hst230⟩ := Row.store (P := Try.prog) (v := (.int .i64 (-9))) (y := (-9)) hrow217 (hst199.front 1 rfl rfl) ti_3 k_206 (by omega) rfl
          refine L_skip rfl rfl (x_store rfl rfl rfl hr228) ?_
          refine L_nil ?_
          refine W_region_lit ?_
          refine L_val (v := (.int .i64 ((k_206 + 1 : Nat) : Int))) (w' := w227) rfl rfl rfl (x_add_nat rfl rfl rfl (by omega)) ?_
          refine L_val (v := (.int .i64 ((k_206 + 1 : Nat) : Int))) (w' := w227) rfl rfl rfl rfl ?_
          refine L_nil ?_
          refine ⟨(RS.modules (RS.add (RS.new 4 3) 1 xs)).length - (k_206 + 1), by first | omega | (simp only [List.length_append, List.length_cons, List.length_nil]; omega), ?_⟩
          exact ⟨_, (k_206 + 1), (ys207.set k_206 (-9)), c226, (upd_of (upd_of (upd_of (upd_of (upd_of (upd_of (upd_of (upd_of (upd_of (upd_of (upd_of (upd_of (upd_of (upd_of (upd_of (upd_of (upd_of (upd_of (upd_of (upd_of (upd_of (upd_of (upd_of (upd_of (upd_of (upd_of (upd_of (upd_of (upd_of (upd_of (upd_of (upd_of (upd_of (upd_of (upd_of (upd_of (upd_of (upd_of (upd_of (upd_of (upd_of (upd_of (upd_of (upd_of (upd_of (upd_of (upd_of (upd_of (upd_of (upd_of (upd_of (upd_of (upd_of (upd_of (upd_of (upd_of (upd_of (upd_of (upd_of (upd_of (upd_of (upd_of (upd_of (upd_of (upd_of (upd_of (upd_of (upd_of (upd_of (upd_of (upd_of (upd_of (upd_of (upd_of (upd_of (upd_of (upd_of (upd_of (upd_of (upd_of (upd_of (upd_of (upd_of (upd_of (upd_of (upd_of (upd_of (upd_of (upd_of (upd_of (upd_of (upd_of (upd_of rfl rfl) rfl) rfl) rfl) rfl) rfl) rfl) rfl) rfl) rfl) rfl) rfl) rfl) rfl) rfl) rfl) rfl) rfl) rfl) rfl) rfl) rfl) rfl) rfl) rfl) rfl) rfl) rfl) rfl) rfl) rfl) rfl) rfl) rfl) rfl) rfl) rfl) rfl) rfl) rfl) rfl) rfl) rfl) rfl) rfl) rfl) rfl) rfl) rfl) rfl) rfl) rfl) rfl) rfl) rfl) rfl) rfl) rfl) rfl) rfl) rfl) rfl) rfl) rfl) rfl) rfl) rfl) rfl) rfl) rfl) rfl) rfl) rfl) rfl) rfl) rfl) rfl) rfl) rfl) rfl) rfl) rfl) rfl) rfl) rfl) rfl) rfl) rfl) rfl) rfl) rfl) rfl) rfl), hmk198, (hst230.front 1 rfl rfl), (hback218 R134 (ys207.set k_206 (-9)) c226 (by simp only [List.length_set]; omega) hrow229), (by omega), (by simp only [List.length_set]; omega), rfl⟩
        · skip
          have q231 := of_decide_eq_false c210
          refine W_cond_false (by show Value.bool _ = _; exact congrArg Value.bool c210) ?_
          refine W_exit ?_
          refine W_seq ?_
          refine W_region_lit ?_
          refine L_val (v := (.bool true)) (w' := w200) rfl rfl rfl rfl ?_
          refine L_val (v := (.bool true)) (w' := w200) rfl rfl rfl rfl ?_
          refine L_guard rfl rfl rfl rfl rfl ?_
          refine L_val (v := (ptr p107 0)) (w' := w200) rfl rfl rfl rfl ?_
          refine L_guard rfl rfl rfl rfl rfl ?_
          refine L_callG hst199 (v := (.bool (holds (RS.add (RS.new 4 3) 1 xs).vers (RS.add (RS.new 4 3) 1 xs).mods 1))) rfl rfl rfl (x_call (vs := #[(ptr p107 0), (.int .i64 1)]) rfl rfl (by kernel_rfl) ent_15) (Holds_reg (w := w200) 1 hreg145 hst199.rle' (hst199.get (i := 0) rfl)) (fun w232 hst233 => ?_)
          refine L_guard rfl rfl rfl rfl rfl ?_
          refine L_val (v := (.int .i64 (RS.addE (RS.new 4 3) 1 xs))) (w' := w232) rfl rfl rfl rfl ?_
          refine L_guard rfl rfl rfl rfl rfl ?_
          refine L_val (v := (.bool ((RS.addE (RS.new 4 3) 1 xs) == 0))) (w' := w232) rfl rfl rfl (by kernel_rfl) ?_
          refine L_guard rfl rfl rfl rfl rfl ?_
          have hq234 : ((holds (RS.add (RS.new 4 3) 1 xs).vers (RS.add (RS.new 4 3) 1 xs).mods 1) == ((RS.addE (RS.new 4 3) 1 xs) == 0)) = true := by rw [holds_new rfl]; exact beq_self_eq_true _
          refine L_val (v := .bool ((holds (RS.add (RS.new 4 3) 1 xs).vers (RS.add (RS.new 4 3) 1 xs).mods 1) == ((RS.addE (RS.new 4 3) 1 xs) == 0))) (w' := w232) rfl rfl rfl (by kernel_rfl) ?_
          refine L_val (v := (.bool ((holds (RS.add (RS.new 4 3) 1 xs).vers (RS.add (RS.new 4 3) 1 xs).mods 1) == ((RS.addE (RS.new 4 3) 1 xs) == 0)))) (w' := w232) rfl rfl rfl rfl ?_
          refine L_val (v := (.bool ((holds (RS.add (RS.new 4 3) 1 xs).vers (RS.add (RS.new 4 3) 1 xs).mods 1) == ((RS.addE (RS.new 4 3) 1 xs) == 0)))) (w' := w232) rfl rfl rfl rfl ?_
          refine L_nil ?_
          refine W_ret ?_
          refine ⟨_, _, res_run (rs := [.tmp 6]) (vs := [(.bool ((holds (RS.add (RS.new 4 3) 1 xs).vers (RS.add (RS.new 4 3) 1 xs).mods 1) == ((RS.addE (RS.new 4 3) 1 xs) == 0)))]) Try.results6 (.cons (.tmp rfl) .nil) hmk198, ?_⟩
          exact ⟨_, _, [], rfl, hst233.keepN 0 rfl, congrArg Value.bool hq234, rfl⟩

theorem Nil_walk_no {w : World} {R : Hp} {v : Value} {xs : List Fact} {f c : Int} (h : f < 0 ∨ 24 < f ∨ c < 0 ∨ 12 < c) (hs : Sats w R []) (hv : RdS tyFact R v xs) (hmax : xs.length ≤ 1048576) :
    Calls Try.prog 6 #[(.int .i64 f), (.int .i64 c), v] w (Comes' w R [] fun v' R' L' => v' = .bool true ∧ L' = []) := by
  have hst := Step.refl hs
  refine calls_of_W (n := 118) Try.func6 rfl Try.ntmps6 (Nat.le_of_ble_eq_true rfl) ?_
  refine W_seq ?_
  refine W_region_lit ?_
  refine L_val (v := (.bool false)) (w' := w) rfl rfl rfl rfl ?_
  refine L_nil ?_
  refine W_seq ?_
  refine W_region_lit ?_
  have hst1 := hst
  refine L_callS [] [] hst1 rfl rfl rfl (x_call (vs := #[]) rfl rfl (by kernel_rfl) ent_9) (sanity_spec (hst1.sats.take 0 rfl)) (fun v2 w3 R4 L5 hp6 hle7 hst8 => ?_)
  obtain ⟨rfl, rfl⟩ := hp6
  refine L_val (v := (.bool true)) (w' := w3) rfl rfl rfl rfl ?_
  refine L_nil ?_
  refine W_seq ?_
  refine W_region_lit ?_
  refine L_val (v := (.int .i64 f)) (w' := w3) rfl rfl rfl rfl ?_
  refine L_val (v := (.int .i64 c)) (w' := w3) rfl rfl rfl rfl ?_
  refine L_callG hst8 (v := (.pointer none)) rfl rfl rfl (x_call (vs := #[(.int .i64 f), (.int .i64 c)]) rfl rfl (by kernel_rfl) ent_10) (New_nil h (Le.refl _)) (fun w9 hst10 => ?_)
  refine L_val (v := (.pointer none)) (w' := w9) rfl rfl rfl rfl ?_
  refine L_nil ?_
  refine W_seq ?_
  refine W_seq ?_
  refine W_region_lit ?_
  refine L_val (v := (.pointer none)) (w' := w9) rfl rfl rfl rfl ?_
  refine L_val (v := (.bool false)) (w' := w9) rfl rfl rfl (by kernel_rfl) ?_
  refine L_val (v := (.int .i64 f)) (w' := w9) rfl rfl rfl rfl ?_
  refine L_val (v := (.int .i64 c)) (w' := w9) rfl rfl rfl rfl ?_
  refine L_callG hst10 (v := (.bool false)) rfl rfl rfl (x_call (vs := #[(.int .i64 f), (.int .i64 c)]) rfl rfl (by kernel_rfl) ent_20) (by have h_ := Permitted_spec (w := w9) f c (Le.refl _); rw [decide_eq_false (by omega)] at h_; exact h_) (fun w11 hst12 => ?_)
  refine L_val (v := (.bool false)) (w' := w11) rfl rfl rfl (by kernel_rfl) ?_
  refine L_nil ?_
  refine W_cond_false (by show Value.bool _ = _; exact congrArg Value.bool rfl) ?_
  refine W_skip ?_
  refine W_seq ?_
  refine W_region_lit ?_
  refine L_val (v := (.pointer none)) (w' := w11) rfl rfl rfl rfl ?_
  refine L_nil ?_
  refine W_seq ?_
  refine W_seq ?_
  refine W_region_lit ?_
  refine L_val (v := (.pointer none)) (w' := w11) rfl rfl rfl rfl ?_
  refine L_callG hst12 (v := (.int .i64 (-1))) rfl rfl rfl (x_call (vs := #[(.pointer none), (.int .i64 1), (.int .i64 0)]) rfl rfl (by kernel_rfl) ent_16) (Version_nil 1 0 (Le.refl _)) (fun w13 hst14 => ?_)
  refine L_val (v := (.bool false)) (w' := w13) rfl rfl rfl (by kernel_rfl) ?_
  refine L_val (v := (.bool false)) (w' := w13) rfl rfl rfl rfl ?_
  refine L_guard rfl rfl rfl rfl rfl ?_
  refine L_val (v := (.pointer none)) (w' := w13) rfl rfl rfl rfl ?_
  refine L_guard rfl rfl rfl rfl rfl ?_
  refine L_callG hst14 (v := (.int .i64 1)) rfl rfl rfl (x_call (vs := #[(.pointer none), (.int .i64 1), (.slice none 0 0)]) rfl rfl (by kernel_rfl) ent_11) (Add_nil 1 (Le.refl _)) (fun w15 hst16 => ?_)
  refine L_guard rfl rfl rfl rfl rfl ?_
  refine L_val (v := (.bool false)) (w' := w15) rfl rfl rfl (by kernel_rfl) ?_
  refine L_val (v := (.bool false)) (w' := w15) rfl rfl rfl rfl ?_
  refine L_val (v := (.bool false)) (w' := w15) rfl rfl rfl rfl ?_
  refine L_guard rfl rfl rfl rfl rfl ?_
  refine L_val (v := (.pointer none)) (w' := w15) rfl rfl rfl rfl ?_
  refine L_guard rfl rfl rfl rfl rfl ?_
  refine L_callG hst16 (v := (.bool false)) rfl rfl rfl (x_call (vs := #[(.pointer none), (.int .i64 1)]) rfl rfl (by kernel_rfl) ent_21) (Remove_nil 1 (Le.refl _)) (fun w17 hst18 => ?_)
  refine L_val (v := (.bool false)) (w' := w17) rfl rfl rfl rfl ?_
  refine L_val (v := (.bool false)) (w' := w17) rfl rfl rfl rfl ?_
  refine L_guard rfl rfl rfl rfl rfl ?_
  refine L_val (v := (.pointer none)) (w' := w17) rfl rfl rfl rfl ?_
  refine L_guard rfl rfl rfl rfl rfl ?_
  refine L_callG hst18 (v := (.bool false)) rfl rfl rfl (x_call (vs := #[(.pointer none), (.int .i64 1)]) rfl rfl (by kernel_rfl) ent_15) (Holds_nil 1 (Le.refl _)) (fun w19 hst20 => ?_)
  refine L_val (v := (.bool false)) (w' := w19) rfl rfl rfl rfl ?_
  refine L_val (v := (.bool false)) (w' := w19) rfl rfl rfl rfl ?_
  refine L_guard rfl rfl rfl rfl rfl ?_
  refine L_val (v := (.pointer none)) (w' := w19) rfl rfl rfl rfl ?_
  refine L_guard rfl rfl rfl rfl rfl ?_
  refine L_callG hst20 (v := (.slice none 0 0)) rfl rfl rfl (x_call (vs := #[(.pointer none), (.int .i64 1), (.int .i64 0)]) rfl rfl (by kernel_rfl) ent_14) (Bump_nil 1 0 (Le.refl _)) (fun w21 hst22 => ?_)
  refine L_guard rfl rfl rfl rfl rfl ?_
  refine L_val (v := (.int .i64 0)) (w' := w21) rfl rfl rfl (x_len_slice rfl sl_31 rfl) ?_
  refine L_guard rfl rfl rfl rfl rfl ?_
  refine L_val (v := (.pointer none)) (w' := w21) rfl rfl rfl rfl ?_
  refine L_guard rfl rfl rfl rfl rfl ?_
  refine L_callG hst22 (v := (.slice none 0 0)) rfl rfl rfl (x_call (vs := #[(.pointer none)]) rfl rfl (by kernel_rfl) ent_13) (Modules_nil  (Le.refl _)) (fun w23 hst24 => ?_)
  refine L_guard rfl rfl rfl rfl rfl ?_
  refine L_val (v := (.int .i64 0)) (w' := w23) rfl rfl rfl (x_len_slice rfl sl_31 rfl) ?_
  refine L_guard rfl rfl rfl rfl rfl ?_
  refine L_val (v := (.int .i64 0)) (w' := w23) rfl rfl rfl (by kernel_rfl) ?_
  refine L_guard rfl rfl rfl rfl rfl ?_
  refine L_val (v := (.pointer none)) (w' := w23) rfl rfl rfl rfl ?_
  refine L_guard rfl rfl rfl rfl rfl ?_
  refine L_val (v := (.agg #[(.int .i64 0), (.int .i64 0), (.slice none 0 0), (.slice none 0 0)])) (w' := w23) rfl rfl rfl (by kernel_rfl) ?_
  refine L_guard rfl rfl rfl rfl rfl ?_
  refine L_callG hst24 (v := (.slice none 0 0)) rfl rfl rfl (x_call (vs := #[(.pointer none), (.agg #[(.int .i64 0), (.int .i64 0), (.slice none 0 0), (.slice none 0 0)])]) rfl rfl (by kernel_rfl) ent_22) (Facts_nil  (Le.refl _)) (fun w25 hst26 => ?_)
  refine L_guard rfl rfl rfl rfl rfl ?_
  refine L_val (v := (.int .i64 0)) (w' := w25) rfl rfl rfl (x_len_slice rfl sl_29 rfl) ?_
  refine L_guard rfl rfl rfl rfl rfl ?_
  refine L_val (v := (.int .i64 0)) (w' := w25) rfl rfl rfl (by kernel_rfl) ?_
  refine L_guard rfl rfl rfl rfl rfl ?_
  refine L_val (v := (.bool false)) (w' := w25) rfl rfl rfl (by kernel_rfl) ?_
  refine L_val (v := (.bool false)) (w' := w25) rfl rfl rfl rfl ?_
  refine L_nil ?_
  refine W_cond_false (by show Value.bool _ = _; exact congrArg Value.bool rfl) ?_
  refine W_skip ?_
  refine W_seq ?_
  refine W_region_lit ?_
  refine L_val (v := (.agg #[(.map none), (.map none)])) (w' := w25) rfl rfl rfl (by kernel_rfl) ?_
  refine L_new hst26 (v := fun b => ptr b 0) (ob := .cells #[(.map none), (.map none)] 60 (0, 0)) rfl rfl rfl (by kernel_rfl) (fun b27 w28 hst29 => ?_)
  refine L_val (v := (ptr b27 0)) (w' := w28) rfl rfl rfl rfl ?_
  refine L_nil ?_
  refine W_seq ?_
  refine W_seq ?_
  obtain ⟨c30, hst31, hreg32⟩ := Reg.zero hst29
  have hreg33 : Reg R4 b27 zr c30 := hreg32
  refine W_region_lit ?_
  refine L_val (v := (ptr b27 0)) (w' := w28) rfl rfl rfl rfl ?_
  refine L_callG hst31 (v := (.int .i64 (ver zr.vers (1, 0)))) rfl rfl rfl (x_call (vs := #[(ptr b27 0), (.int .i64 1), (.int .i64 0)]) rfl rfl (by kernel_rfl) ent_16) (Version_reg (w := w28) 1 0 hreg33 (hst31.get (i := 0) rfl)) (fun w34 hst35 => ?_)
  refine L_val (v := (.bool ((ver zr.vers (1, 0)) != (-1)))) (w' := w34) rfl rfl rfl (by kernel_rfl) ?_
  refine L_val (v := (.bool ((ver zr.vers (1, 0)) != (-1)))) (w' := w34) rfl rfl rfl rfl ?_
  have c36 : ((ver zr.vers (1, 0)) != (-1)) = false := by decide
  have q37 : ver zr.vers (1, 0) = (-1) := by simpa using c36
  refine L_guard rfl rfl rfl rfl c36 ?_
  refine L_val (v := (ptr b27 0)) (w' := w34) rfl rfl rfl rfl ?_
  refine L_guard rfl rfl rfl rfl c36 ?_
  have hst38 := hst35
  refine L_callS [c30] [] hst38 rfl rfl rfl (x_call (vs := #[(ptr b27 0), (.int .i64 2), (.slice none 0 0)]) rfl rfl (by kernel_rfl) ent_11) (Add_spec 2 (RdS.empty _ _) (by simp) (hst38.sats.take 1 rfl) hreg33) (fun v39 w40 R41 L42 hp43 hle44 hst45 => ?_)
  obtain ⟨c46, hv47, rfl, hreg48⟩ := hp43
  rw [zr_add] at hv47
  subst hv47
  have hreg49 : Reg R41 b27 z1 c46 := hreg48
  refine L_guard rfl rfl rfl rfl c36 ?_
  refine L_val (v := (.bool false)) (w' := w40) rfl rfl rfl (by kernel_rfl) ?_
  refine L_val (v := (.bool false)) (w' := w40) rfl rfl rfl (x_pick rfl rfl (by rw [c36]; rfl)) ?_
  refine L_val (v := (.bool false)) (w' := w40) rfl rfl rfl rfl ?_
  refine L_guard rfl rfl rfl rfl rfl ?_
  refine L_val (v := (ptr b27 0)) (w' := w40) rfl rfl rfl rfl ?_
  refine L_guard rfl rfl rfl rfl rfl ?_
  refine L_callG hst45 (v := (.bool (holds z1.vers z1.mods 2))) rfl rfl rfl (x_call (vs := #[(ptr b27 0), (.int .i64 2)]) rfl rfl (by kernel_rfl) ent_15) (Holds_reg (w := w40) 2 hreg49 hst45.rle' (hst45.get (i := 0) rfl)) (fun w50 hst51 => ?_)
  refine L_guard rfl rfl rfl rfl rfl ?_
  refine L_val (v := (.bool (!(holds z1.vers z1.mods 2)))) (w' := w50) rfl rfl rfl rfl ?_
  refine L_val (v := (.bool (!(holds z1.vers z1.mods 2)))) (w' := w50) rfl rfl rfl rfl ?_
  refine L_val (v := (.bool (!(holds z1.vers z1.mods 2)))) (w' := w50) rfl rfl rfl rfl ?_
  have c52 : (holds z1.vers z1.mods 2) = true := by decide
  refine L_guard rfl rfl rfl rfl (by rw [c52]; rfl) ?_
  refine L_val (v := (ptr b27 0)) (w' := w50) rfl rfl rfl rfl ?_
  refine L_guard rfl rfl rfl rfl (by rw [c52]; rfl) ?_
  have hst53 := hst51
  refine L_callS [c46] [] hst53 rfl rfl rfl (x_call (vs := #[(ptr b27 0), (.int .i64 3)]) rfl rfl (by kernel_rfl) ent_21) (Remove_spec 3 (hst53.sats.take 1 rfl) hreg49) (fun v54 w55 R56 L57 hp58 hle59 hst60 => ?_)
  obtain ⟨c61, rfl, rfl, hreg62⟩ := hp58
  have hreg63 : Reg R56 b27 (RS.remove z1 3) c61 := hreg62
  refine L_val (v := (.bool ((AL.get z1.mods 3).isSome))) (w' := w55) rfl rfl rfl (x_pick rfl rfl (by rw [c52]; rfl)) ?_
  refine L_val (v := (.bool ((AL.get z1.mods 3).isSome))) (w' := w55) rfl rfl rfl rfl ?_
  have c64 : ((AL.get z1.mods 3).isSome) = false := by decide
  refine L_guard rfl rfl rfl rfl c64 ?_
  refine L_val (v := (ptr b27 0)) (w' := w55) rfl rfl rfl rfl ?_
  refine L_guard rfl rfl rfl rfl c64 ?_
  have hst65 := hst60
  refine L_callS [c61] [] hst65 rfl rfl rfl (x_call (vs := #[(ptr b27 0), (.int .i64 1), (.int .i64 0)]) rfl rfl (by kernel_rfl) ent_14) (Bump_spec 1 0 (hst65.sats.take 1 rfl) hreg63 z1_rm (by decide)) (fun v66 w67 R68 L69 hp70 hle71 hst72 => ?_)
  obtain ⟨c73, co74, rfl, hreg75, ho76⟩ := hp70
  have hreg77 : Reg R68 b27 (RS.bump (RS.remove z1 3) 1 0) c73 := hreg75
  refine L_guard rfl rfl rfl rfl c64 ?_
  obtain ⟨a78, cap79, e80, hc81⟩ := ho76.value
  subst e80
  refine L_val (v := (.int .i64 (((RS.bumpL (RS.remove z1 3) 1 0).length : Nat) : Int))) (w' := w67) rfl rfl rfl (x_len_slice rfl sl_31 rfl) ?_
  refine L_guard rfl rfl rfl rfl c64 ?_
  have hq82 : ((((RS.bumpL (RS.remove z1 3) 1 0).length : Nat) : Int) != 0) = false := by decide
  refine L_val (v := .bool ((((RS.bumpL (RS.remove z1 3) 1 0).length : Nat) : Int) != 0)) (w' := w67) rfl rfl rfl (by kernel_rfl) ?_
  refine L_val (v := (.bool ((((RS.bumpL (RS.remove z1 3) 1 0).length : Nat) : Int) != 0))) (w' := w67) rfl rfl rfl (x_pick rfl rfl (by rw [c64]; rfl)) ?_
  refine L_nil ?_
  refine W_cond_false (by show Value.bool _ = _; exact congrArg Value.bool hq82) ?_
  refine W_skip ?_
  refine W_seq ?_
  refine W_region_lit ?_
  have hst83 := hst72
  refine L_callS [] [c73, co74] hst83 rfl rfl rfl (x_call (vs := #[(.int .i64 4), (.int .i64 3)]) rfl rfl (by kernel_rfl) ent_10) (New_spec (f := 4) (c := 3) (hst83.sats.take 0 rfl) (by decide) (by decide)) (fun v84 w85 R86 L87 hp88 hle89 hst90 => ?_)
  have hm91 := Reg.lift hreg77 hle89
  have hm92 := OwnL.mono ho76 hle89
  obtain ⟨p93, c94, rfl, rfl, hreg95⟩ := hp88
  have hreg96 : Reg R86 p93 (RS.new 4 3) c94 := hreg95
  refine L_val (v := (ptr p93 0)) (w' := w85) rfl rfl rfl rfl ?_
  refine L_nil ?_
  refine W_seq ?_
  refine W_region_lit ?_
  refine L_val (v := v) (w' := w85) rfl rfl rfl rfl ?_
  obtain ⟨a97, cap98, e99, hc100⟩ := hv.shape
  subst e99
  have hst101 := hst90
  refine L_callS [] [c94, c73, co74] hst101 rfl rfl rfl (x_call (vs := #[(.slice a97 xs.length cap98)]) rfl rfl (by kernel_rfl) ent_23) (Clone_specB (v := (.slice a97 xs.length cap98)) (xs := xs) (hst101.sats.take 0 rfl) hv (Le.trans hle7 (Le.trans hle44 (Le.trans hle59 (Le.trans hle71 (Le.trans hle89 hst90.rle'))))) (by omega)) (fun v102 w103 R104 L105 hp106 hle107 hst108 => ?_)
  have hm109 := Reg.lift hreg96 hle107
  have hm110 := Reg.lift hm91 hle107
  have hm111 := OwnL.mono hm92 hle107
  obtain ⟨c112, rfl, ho113⟩ := hp106
  refine L_val (v := v102) (w' := w103) rfl rfl rfl rfl ?_
  refine L_nil ?_
  refine W_seq ?_
  refine W_region_lit ?_
  refine L_val (v := (ptr p93 0)) (w' := w103) rfl rfl rfl rfl ?_
  refine L_val (v := v102) (w' := w103) rfl rfl rfl rfl ?_
  have hrd114 : RdS tyFact c112 v102 xs := OwnL.freeze (OwnL.refact (R' := c112) ho113) (Le.refl _) (Le.refl _)
  have hd115 := djAt (((((hst108.front 3 rfl rfl).front 3 rfl rfl).front 2 rfl rfl).front 3 rfl rfl)).sats.dj (i := 0) (j := 1) rfl rfl rfl
  have hst116 := (hst108.front 1 rfl rfl)
  refine L_callS [c94] [c112, c73, co74] hst116 rfl rfl rfl (x_call (vs := #[(ptr p93 0), (.int .i64 1), v102]) rfl rfl (by kernel_rfl) ent_11) (Add_specB (v := v102) 1 hrd114 (hst108.get (i := 0) rfl) hd115.symm (by omega) (hst116.sats.take 1 rfl) hm109) (fun v117 w118 R119 L120 hp121 hle122 hst123 => ?_)
  have hm124 := OwnL.mono ho113 hle122
  have hm125 := Reg.lift hm110 hle122
  have hm126 := OwnL.mono hm111 hle122
  obtain ⟨c127, rfl, rfl, hreg128⟩ := hp121
  have hreg129 : Reg R119 p93 (RS.add (RS.new 4 3) 1 xs) c127 := hreg128
  refine L_val (v := (.int .i64 (RS.addE (RS.new 4 3) 1 xs))) (w' := w118) rfl rfl rfl rfl ?_
  refine L_nil ?_
  refine W_seq ?_
  refine W_seq ?_
  obtain ⟨a130, cap131, e132, hc133⟩ := hm124.value
  subst e132
  refine W_region_lit ?_
  refine L_val (v := (.slice a130 xs.length cap131)) (w' := w118) rfl rfl rfl rfl ?_
  refine L_val (v := (.int .i64 (xs.length : Int))) (w' := w118) rfl rfl rfl (x_len_slice rfl sl_29 rfl) ?_
  refine L_val (v := (.int .i64 0)) (w' := w118) rfl rfl rfl rfl ?_
  refine L_nil ?_
  refine W_block ?_
  refine W_loop (I := fun σ w_ m_ => ∃ (σ0 : Fr) (k_ : Nat) (ys : List Fact) (co : Hp), σ = upd (upd (upd (upd (upd (upd (upd (upd (upd (upd (upd (upd (upd (upd (upd (upd (upd (upd (upd (upd (upd (upd (upd (upd (upd (upd (upd (upd (upd (upd (upd (upd (upd (upd (upd (upd (upd (upd (upd (upd (upd (upd (upd (upd (upd (upd (upd (upd (upd (upd (upd (upd (upd (upd (upd (upd (upd (upd (upd (upd (upd (upd (upd (upd (upd (upd (upd (upd (upd (upd (upd (upd (upd (upd (upd (upd (upd (upd (upd (upd (upd (upd (upd (upd (upd (upd σ0 0 (.int .i64 f)) 1 (.int .i64 c)) 2 (.slice a97 xs.length cap98)) 6 (.bool false)) 7 (.bool true)) 8 (.pointer none)) 9 (.pointer none)) 10 (ptr b27 0)) 11 (ptr p93 0)) 12 (.slice a130 xs.length cap131)) 13 (.int .i64 (RS.addE (RS.new 4 3) 1 xs))) 17 (.bool true)) 18 (.int .i64 f)) 19 (.int .i64 c)) 20 (.pointer none)) 21 (.pointer none)) 22 (.bool false)) 23 (.int .i64 f)) 24 (.int .i64 c)) 25 (.bool false)) 26 (.bool false)) 27 (.pointer none)) 28 (.int .i64 (-1))) 29 (.bool false)) 30 (.bool false)) 31 (.pointer none)) 32 (.int .i64 1)) 33 (.bool false)) 34 (.bool false)) 35 (.bool false)) 36 (.pointer none)) 37 (.bool false)) 38 (.bool false)) 39 (.bool false)) 40 (.pointer none)) 41 (.bool false)) 42 (.bool false)) 43 (.bool false)) 44 (.pointer none)) 45 (.slice none 0 0)) 46 (.int .i64 0)) 47 (.pointer none)) 48 (.slice none 0 0)) 49 (.int .i64 0)) 50 (.int .i64 0)) 51 (.pointer none)) 52 (.agg #[(.int .i64 0), (.int .i64 0), (.slice none 0 0), (.slice none 0 0)])) 53 (.slice none 0 0)) 54 (.int .i64 0)) 55 (.int .i64 0)) 56 (.bool false)) 57 (.bool false)) 58 (.agg #[(.map none), (.map none)])) 59 (ptr b27 0)) 60 (ptr b27 0)) 61 (.int .i64 (ver zr.vers (1, 0)))) 62 (.bool ((ver zr.vers (1, 0)) != (-1)))) 63 (.bool ((ver zr.vers (1, 0)) != (-1)))) 64 (ptr b27 0)) 65 (.int .i64 0)) 66 (.bool false)) 67 (.bool false)) 68 (.bool false)) 69 (ptr b27 0)) 70 (.bool (holds z1.vers z1.mods 2))) 71 (.bool (!(holds z1.vers z1.mods 2)))) 72 (.bool (!(holds z1.vers z1.mods 2)))) 73 (.bool (!(holds z1.vers z1.mods 2)))) 74 (ptr b27 0)) 75 (.bool ((AL.get z1.mods 3).isSome))) 76 (.bool ((AL.get z1.mods 3).isSome))) 77 (.bool ((AL.get z1.mods 3).isSome))) 78 (ptr b27 0)) 79 (.slice a78 ((RS.bumpL (RS.remove z1 3) 1 0).length) cap79)) 80 (.int .i64 (((RS.bumpL (RS.remove z1 3) 1 0).length : Nat) : Int))) 81 (.bool ((((RS.bumpL (RS.remove z1 3) 1 0).length : Nat) : Int) != 0))) 82 (.bool ((((RS.bumpL (RS.remove z1 3) 1 0).length : Nat) : Int) != 0))) 83 (ptr p93 0)) 84 (.slice a97 xs.length cap98)) 85 (.slice a130 xs.length cap131)) 86 (ptr p93 0)) 87 (.slice a130 xs.length cap131)) 88 (.int .i64 (RS.addE (RS.new 4 3) 1 xs))) 89 (.slice a130 xs.length cap131)) 90 (.int .i64 (xs.length : Int))) 91 (.int .i64 (k_ : Int)) ∧ mks (σ0 0) = [] ∧ Step w R [] w_ R119 [c127, co] ∧ OwnL tyFact 38 R119 (.slice a130 xs.length cap131) ys co ∧ k_ ≤ xs.length ∧ ys.length = xs.length ∧ m_ = xs.length - k_) (m := xs.length - 0) ?_ ?_
  · skip
    exact ⟨_, 0, xs, c112, (upd_of (upd_of (upd_of (upd_of (upd_of (upd_of (upd_of (upd_of (upd_of (upd_of (upd_of (upd_of (upd_of (upd_of (upd_of (upd_of (upd_of (upd_of (upd_of (upd_of (upd_of (upd_of (upd_of (upd_of (upd_of (upd_of (upd_of (upd_of (upd_of (upd_of (upd_of (upd_of (upd_of (upd_of (upd_of (upd_of (upd_of (upd_of (upd_of (upd_of (upd_of (upd_of (upd_of (upd_of (upd_of (upd_of (upd_of (upd_of (upd_of (upd_of (upd_of (upd_of (upd_of (upd_of (upd_of (upd_of (upd_of (upd_of (upd_of (upd_of (upd_of (upd_of (upd_of (upd_of (upd_of (upd_of (upd_of (upd_of (upd_of (upd_of (upd_of (upd_of (upd_of (upd_of (upd_of (upd_of (upd_of (upd_of (upd_of (upd_of (upd_of (upd_of (upd_of (upd_of (upd_of (upd_of rfl rfl) rfl) rfl) rfl) rfl) rfl) rfl) rfl) rfl) rfl) rfl) rfl) rfl) rfl) rfl) rfl) rfl) rfl) rfl) rfl) rfl) rfl) rfl) rfl) rfl) rfl) rfl) rfl) rfl) rfl) rfl) rfl) rfl) rfl) rfl) rfl) rfl) rfl) rfl) rfl) rfl) rfl) rfl) rfl) rfl) rfl) rfl) rfl) rfl) rfl) rfl) rfl) rfl) rfl) rfl) rfl) rfl) rfl) rfl) rfl) rfl) rfl) rfl) rfl) rfl) rfl) rfl) rfl) rfl) rfl) rfl) rfl) rfl) rfl) rfl) rfl) rfl) rfl) rfl) rfl) rfl) rfl) rfl) rfl) rfl) rfl), rfl, (((hst123.front 1 rfl rfl).front 1 rfl rfl).keepN 2 rfl), hm124, (by omega), rfl, rfl⟩
  · skip
    rintro m145 σ_ w136 ⟨s141, k_142, ys143, co144, rfl, hmk134, hst135, hi138, hf139, hf140, rfl⟩
    refine W_seq ?_
    refine W_region_lit ?_
    refine L_val (v := (.bool (decide ((k_142 : Int) < (xs.length : Int))))) (w' := w136) rfl rfl rfl (by kernel_rfl) ?_
    refine L_nil ?_
    refine W_seq ?_
    rcases Bool.eq_false_or_eq_true (decide ((k_142 : Int) < (xs.length : Int))) with c146 | c146
    · skip
      have q147 := of_decide_eq_true c146
      refine W_cond_true (by show Value.bool _ = _; exact congrArg Value.bool c146) ?_
      refine W_skip ?_
      refine W_seq ?_
      refine W_block ?_
      refine W_seq ?_
      refine W_region_lit ?_
      refine L_val (v := (.int .i64 (k_142 : Int))) (w' := w136) rfl rfl rfl rfl ?_
      refine L_val (v := (.int .i64 (k_142 : Int))) (w' := w136) rfl rfl rfl rfl ?_
      refine L_nil ?_
      refine W_region_lit ?_
      refine L_val (v := (.slice a130 xs.length cap131)) (w' := w136) rfl rfl rfl rfl ?_
      refine L_val (v := (.int .i64 (k_142 : Int))) (w' := w136) rfl rfl rfl rfl ?_
      refine L_val (v := (.agg #[(.int .i64 0), (.int .i64 0), (.int .i64 0)])) (w' := w136) rfl rfl rfl (by kernel_rfl) ?_
      obtain ⟨b148, cap149, N150, e151, hc152, hrow153, hback154⟩ := OwnL.row hi138 (by omega)
      obtain ⟨rfl, hl155, rfl⟩ := Value.slice.inj e151
      try rw [← hl155] at hback154
      obtain ⟨cl156, cs157, hr158, hcb159, hsg160⟩ := Row.at hrow153 k_142 (by omega)
      obtain rfl := tyFact_open hr158
      refine L_val (v := (ptr b148 (0 + k_142 * 3))) (w' := w136) rfl rfl rfl (x_indexAddr' rfl sl_29 ti_38 rfl rfl (by omega)) ?_
      obtain ⟨c161, w162, hr163, hrow164, hst165⟩ := Row.store (P := Try.prog) (v := (.agg #[(.int .i64 0), (.int .i64 0), (.int .i64 0)])) (y := (⟨0, 0, 0⟩ : Fact)) hrow153 (hst135.front 1 rfl rfl) ti_38 k_142 (by omega) (tyFact_mk _ _ _ _)
      refine L_skip rfl rfl (x_store rfl rfl rfl hr163) ?_
      refine L_nil ?_
      refine W_region_lit ?_
      refine L_val (v := (.int .i64 ((k_142 + 1 : Nat) : Int))) (w' := w162) rfl rfl rfl (x_add_nat rfl rfl rfl (by omega)) ?_
      refine L_val (v := (.int .i64 ((k_142 + 1 : Nat) : Int))) (w' := w162) rfl rfl rfl rfl ?_
      refine L_nil ?_
      refine ⟨xs.length - (k_142 + 1), by first | omega | (simp only [List.length_append, List.length_cons, List.length_nil]; omega), ?_⟩
      exact ⟨_, (k_142 + 1), (ys143.set k_142 (⟨0, 0, 0⟩ : Fact)), c161, (upd_of (upd_of (upd_of (upd_of (upd_of (upd_of (upd_of (upd_of (upd_of (upd_of (upd_of (upd_of (upd_of (upd_of (upd_of (upd_of (upd_of (upd_of (upd_of (upd_of (upd_of (upd_of (upd_of (upd_of (upd_of (upd_of (upd_of (upd_of (upd_of (upd_of (upd_of (upd_of (upd_of (upd_of (upd_of (upd_of (upd_of (upd_of (upd_of (upd_of (upd_of (upd_of (upd_of (upd_of (upd_of (upd_of (upd_of (upd_of (upd_of (upd_of (upd_of (upd_of (upd_of (upd_of (upd_of (upd_of (upd_of (upd_of (upd_of (upd_of (upd_of (upd_of (upd_of (upd_of (upd_of (upd_of (upd_of (upd_of (upd_of (upd_of (upd_of (upd_of (upd_of (upd_of (upd_of (upd_of (upd_of (upd_of (upd_of (upd_of (upd_of (upd_of (upd_of (upd_of (upd_of (upd_of rfl rfl) rfl) rfl) rfl) rfl) rfl) rfl) rfl) rfl) rfl) rfl) rfl) rfl) rfl) rfl) rfl) rfl) rfl) rfl) rfl) rfl) rfl) rfl) rfl) rfl) rfl) rfl) rfl) rfl) rfl) rfl) rfl) rfl) rfl) rfl) rfl) rfl) rfl) rfl) rfl) rfl) rfl) rfl) rfl) rfl) rfl) rfl) rfl) rfl) rfl) rfl) rfl) rfl) rfl) rfl) rfl) rfl) rfl) rfl) rfl) rfl) rfl) rfl) rfl) rfl) rfl) rfl) rfl) rfl) rfl) rfl) rfl) rfl) rfl) rfl) rfl) rfl) rfl) rfl) rfl) rfl) rfl) rfl) rfl) rfl) rfl), hmk134, (hst165.front 1 rfl rfl), (hback154 R119 (ys143.set k_142 (⟨0, 0, 0⟩ : Fact)) c161 (by simp only [List.length_set]; omega) hrow164), (by omega), (by simp only [List.length_set]; omega), rfl⟩
    · skip
      have q166 := of_decide_eq_false c146
      refine W_cond_false (by show Value.bool _ = _; exact congrArg Value.bool c146) ?_
      refine W_exit ?_
      refine W_seq ?_
      refine W_region_lit ?_
      refine L_val (v := (ptr p93 0)) (w' := w136) rfl rfl rfl rfl ?_
      refine L_call rfl rfl rfl (x_call (vs := #[(ptr p93 0)]) rfl rfl (by kernel_rfl) ent_13) (Modules_reg hreg129 (hst135.get (i := 0) rfl) (by rw [add_vers]; decide) (Nat.le_trans (add_len _ _ _) (by decide))) ?_
      rintro e167 w168 ⟨v169, R170, L171, rfl, hst172, hp173⟩
      obtain ⟨c175, rfl, ho176⟩ := hp173
      have ho177 := OwnL.reint (R' := R119) ho176
      have hst174 := Step.gain hst135 hst172
      refine ⟨_, rfl, ?_⟩
      refine L_val (v := v169) (w' := w168) rfl rfl rfl rfl ?_
      refine L_nil ?_
      refine W_seq ?_
      refine W_seq ?_
      obtain ⟨a178, cap179, e180, hc181⟩ := ho177.value
      subst e180
      have hmx := RS.modules_len (RS.add (RS.new 4 3) 1 xs)
      have hml := add_len (RS.new 4 3) 1 xs
      have hm0 : (RS.new 4 3).mods.length = 0 := rfl
      refine W_region_lit ?_
      refine L_val (v := (.slice a178 ((RS.modules (RS.add (RS.new 4 3) 1 xs)).length) cap179)) (w' := w168) rfl rfl rfl rfl ?_
      refine L_val (v := (.int .i64 (((RS.modules (RS.add (RS.new 4 3) 1 xs)).length : Nat) : Int))) (w' := w168) rfl rfl rfl (x_len_slice rfl sl_31 rfl) ?_
      refine L_val (v := (.int .i64 0)) (w' := w168) rfl rfl rfl rfl ?_
      refine L_nil ?_
      refine W_block ?_
      refine W_loop (I := fun σ w_ m_ => ∃ (σ0 : Fr) (k_ : Nat) (ys : List Int) (co : Hp), σ = upd (upd (upd (upd (upd (upd (upd (upd (upd (upd (upd (upd (upd (upd (upd (upd (upd (upd (upd (upd (upd (upd (upd (upd (upd (upd (upd (upd (upd (upd (upd (upd (upd (upd (upd (upd (upd (upd (upd (upd (upd (upd (upd (upd (upd (upd (upd (upd (upd (upd (upd (upd (upd (upd (upd (upd (upd (upd (upd (upd (upd (upd (upd (upd (upd (upd (upd (upd (upd (upd (upd (upd (upd (upd (upd (upd (upd (upd (upd (upd (upd (upd (upd (upd (upd (upd (upd (upd (upd (upd (upd (upd (upd σ0 0 (.int .i64 f)) 1 (.int .i64 c)) 2 (.slice a97 xs.length cap98)) 6 (.bool false)) 7 (.bool true)) 8 (.pointer none)) 9 (.pointer none)) 10 (ptr b27 0)) 11 (ptr p93 0)) 12 (.slice a130 xs.length cap131)) 13 (.int .i64 (RS.addE (RS.new 4 3) 1 xs))) 15 (.slice a178 ((RS.modules (RS.add (RS.new 4 3) 1 xs)).length) cap179)) 17 (.bool true)) 18 (.int .i64 f)) 19 (.int .i64 c)) 20 (.pointer none)) 21 (.pointer none)) 22 (.bool false)) 23 (.int .i64 f)) 24 (.int .i64 c)) 25 (.bool false)) 26 (.bool false)) 27 (.pointer none)) 28 (.int .i64 (-1))) 29 (.bool false)) 30 (.bool false)) 31 (.pointer none)) 32 (.int .i64 1)) 33 (.bool false)) 34 (.bool false)) 35 (.bool false)) 36 (.pointer none)) 37 (.bool false)) 38 (.bool false)) 39 (.bool false)) 40 (.pointer none)) 41 (.bool false)) 42 (.bool false)) 43 (.bool false)) 44 (.pointer none)) 45 (.slice none 0 0)) 46 (.int .i64 0)) 47 (.pointer none)) 48 (.slice none 0 0)) 49 (.int .i64 0)) 50 (.int .i64 0)) 51 (.pointer none)) 52 (.agg #[(.int .i64 0), (.int .i64 0), (.slice none 0 0), (.slice none 0 0)])) 53 (.slice none 0 0)) 54 (.int .i64 0)) 55 (.int .i64 0)) 56 (.bool false)) 57 (.bool false)) 58 (.agg #[(.map none), (.map none)])) 59 (ptr b27 0)) 60 (ptr b27 0)) 61 (.int .i64 (ver zr.vers (1, 0)))) 62 (.bool ((ver zr.vers (1, 0)) != (-1)))) 63 (.bool ((ver zr.vers (1, 0)) != (-1)))) 64 (ptr b27 0)) 65 (.int .i64 0)) 66 (.bool false)) 67 (.bool false)) 68 (.bool false)) 69 (ptr b27 0)) 70 (.bool (holds z1.vers z1.mods 2))) 71 (.bool (!(holds z1.vers z1.mods 2)))) 72 (.bool (!(holds z1.vers z1.mods 2)))) 73 (.bool (!(holds z1.vers z1.mods 2)))) 74 (ptr b27 0)) 75 (.bool ((AL.get z1.mods 3).isSome))) 76 (.bool ((AL.get z1.mods 3).isSome))) 77 (.bool ((AL.get z1.mods 3).isSome))) 78 (ptr b27 0)) 79 (.slice a78 ((RS.bumpL (RS.remove z1 3) 1 0).length) cap79)) 80 (.int .i64 (((RS.bumpL (RS.remove z1 3) 1 0).length : Nat) : Int))) 81 (.bool ((((RS.bumpL (RS.remove z1 3) 1 0).length : Nat) : Int) != 0))) 82 (.bool ((((RS.bumpL (RS.remove z1 3) 1 0).length : Nat) : Int) != 0))) 83 (ptr p93 0)) 84 (.slice a97 xs.length cap98)) 85 (.slice a130 xs.length cap131)) 86 (ptr p93 0)) 87 (.slice a130 xs.length cap131)) 88 (.int .i64 (RS.addE (RS.new 4 3) 1 xs))) 89 (.slice a130 xs.length cap131)) 90 (.int .i64 (xs.length : Int))) 91 (.int .i64 (k_142 : Int))) 92 (.bool (decide ((k_142 : Int) < (xs.length : Int))))) 99 (ptr p93 0)) 100 (.slice a178 ((RS.modules (RS.add (RS.new 4 3) 1 xs)).length) cap179)) 101 (.slice a178 ((RS.modules (RS.add (RS.new 4 3) 1 xs)).length) cap179)) 102 (.int .i64 (((RS.modules (RS.add (RS.new 4 3) 1 xs)).length : Nat) : Int))) 103 (.int .i64 (k_ : Int)) ∧ mks (σ0 0) = [] ∧ Step w R [] w_ R119 [c127, co] ∧ OwnL Ty.int 3 R119 (.slice a178 ((RS.modules (RS.add (RS.new 4 3) 1 xs)).length) cap179) ys co ∧ k_ ≤ (RS.modules (RS.add (RS.new 4 3) 1 xs)).length ∧ ys.length = (RS.modules (RS.add (RS.new 4 3) 1 xs)).length ∧ m_ = (RS.modules (RS.add (RS.new 4 3) 1 xs)).length - k_) (m := (RS.modules (RS.add (RS.new 4 3) 1 xs)).length - 0) ?_ ?_
      · skip
        exact ⟨_, 0, (RS.modules (RS.add (RS.new 4 3) 1 xs)), c175, (upd_of (upd_of (upd_of (upd_of (upd_of (upd_of (upd_of (upd_of (upd_of (upd_of (upd_of (upd_of (upd_of (upd_of (upd_of (upd_of (upd_of (upd_of (upd_of (upd_of (upd_of (upd_of (upd_of (upd_of (upd_of (upd_of (upd_of (upd_of (upd_of (upd_of (upd_of (upd_of (upd_of (upd_of (upd_of (upd_of (upd_of (upd_of (upd_of (upd_of (upd_of (upd_of (upd_of (upd_of (upd_of (upd_of (upd_of (upd_of (upd_of (upd_of (upd_of (upd_of (upd_of (upd_of (upd_of (upd_of (upd_of (upd_of (upd_of (upd_of (upd_of (upd_of (upd_of (upd_of (upd_of (upd_of (upd_of (upd_of (upd_of (upd_of (upd_of (upd_of (upd_of (upd_of (upd_of (upd_of (upd_of (upd_of (upd_of (upd_of (upd_of (upd_of (upd_of (upd_of (upd_of (upd_of (upd_of (upd_of (upd_of (upd_of (upd_of (upd_of (upd_of rfl rfl) rfl) rfl) rfl) rfl) rfl) rfl) rfl) rfl) rfl) rfl) rfl) rfl) rfl) rfl) rfl) rfl) rfl) rfl) rfl) rfl) rfl) rfl) rfl) rfl) rfl) rfl) rfl) rfl) rfl) rfl) rfl) rfl) rfl) rfl) rfl) rfl) rfl) rfl) rfl) rfl) rfl) rfl) rfl) rfl) rfl) rfl) rfl) rfl) rfl) rfl) rfl) rfl) rfl) rfl) rfl) rfl) rfl) rfl) rfl) rfl) rfl) rfl) rfl) rfl) rfl) rfl) rfl) rfl) rfl) rfl) rfl) rfl) rfl) rfl) rfl) rfl) rfl) rfl) rfl) rfl) rfl) rfl) rfl) rfl) rfl) rfl) rfl) rfl) rfl) rfl) rfl) rfl), hmk134, ((hst174.front 1 rfl rfl).keepN 2 rfl), ho177, (by omega), rfl, rfl⟩
      · skip
        rintro m193 σ_ w184 ⟨s189, k_190, ys191, co192, rfl, hmk182, hst183, hi186, hf187, hf188, rfl⟩
        refine W_seq ?_
        refine W_region_lit ?_
        refine L_val (v := (.bool (decide ((k_190 : Int) < (((RS.modules (RS.add (RS.new 4 3) 1 xs)).length : Nat) : Int))))) (w' := w184) rfl rfl rfl (by kernel_rfl) ?_
        refine L_nil ?_
        refine W_seq ?_
        rcases Bool.eq_false_or_eq_true (decide ((k_190 : Int) < (((RS.modules (RS.add (RS.new 4 3) 1 xs)).length : Nat) : Int))) with c194 | c194
        · skip
          have q195 := of_decide_eq_true c194
          refine W_cond_true (by show Value.bool _ = _; exact congrArg Value.bool c194) ?_
          refine W_skip ?_
          refine W_seq ?_
          refine W_block ?_
          refine W_seq ?_
          refine W_region_lit ?_
          refine L_val (v := (.int .i64 (k_190 : Int))) (w' := w184) rfl rfl rfl rfl ?_
          refine L_val (v := (.int .i64 (k_190 : Int))) (w' := w184) rfl rfl rfl rfl ?_
          refine L_nil ?_
          refine W_region_lit ?_
          refine L_val (v := (.slice a178 ((RS.modules (RS.add (RS.new 4 3) 1 xs)).length) cap179)) (w' := w184) rfl rfl rfl rfl ?_
          refine L_val (v := (.int .i64 (k_190 : Int))) (w' := w184) rfl rfl rfl rfl ?_
          obtain ⟨b196, cap197, N198, e199, hc200, hrow201, hback202⟩ := OwnL.row hi186 (by omega)
          obtain ⟨rfl, hl203, rfl⟩ := Value.slice.inj e199
          try rw [← hl203] at hback202
          obtain ⟨cl204, cs205, hr206, hcb207, hsg208⟩ := Row.at hrow201 k_190 (by omega)
          have hx209 : cl204 = [.int .i64 (ys191[k_190]'(by omega))] := hr206
          subst hx209
          refine L_val (v := (ptr b196 (0 + k_190 * 1))) (w' := w184) rfl rfl rfl (x_indexAddr' rfl sl_31 ti_3 rfl rfl (by omega)) ?_
          obtain ⟨c210, w211, hr212, hrow213, hst214⟩ := Row.store (P := Try.prog) (v := (.int .i64 (-9))) (y := (-9)) hrow201 (hst183.front 1 rfl rfl) ti_3 k_190 (by omega) rfl
          refine L_skip rfl rfl (x_store rfl rfl rfl hr212) ?_
          refine L_nil ?_
          refine W_region_lit ?_
          refine L_val (v := (.int .i64 ((k_190 + 1 : Nat) : Int))) (w' := w211) rfl rfl rfl (x_add_nat rfl rfl rfl (by omega)) ?_
          refine L_val (v := (.int .i64 ((k_190 + 1 : Nat) : Int))) (w' := w211) rfl rfl rfl rfl ?_
          refine L_nil ?_
          refine ⟨(RS.modules (RS.add (RS.new 4 3) 1 xs)).length - (k_190 + 1), by first | omega | (simp only [List.length_append, List.length_cons, List.length_nil]; omega), ?_⟩
          exact ⟨_, (k_190 + 1), (ys191.set k_190 (-9)), c210, (upd_of (upd_of (upd_of (upd_of (upd_of (upd_of (upd_of (upd_of (upd_of (upd_of (upd_of (upd_of (upd_of (upd_of (upd_of (upd_of (upd_of (upd_of (upd_of (upd_of (upd_of (upd_of (upd_of (upd_of (upd_of (upd_of (upd_of (upd_of (upd_of (upd_of (upd_of (upd_of (upd_of (upd_of (upd_of (upd_of (upd_of (upd_of (upd_of (upd_of (upd_of (upd_of (upd_of (upd_of (upd_of (upd_of (upd_of (upd_of (upd_of (upd_of (upd_of (upd_of (upd_of (upd_of (upd_of (upd_of (upd_of (upd_of (upd_of (upd_of (upd_of (upd_of (upd_of (upd_of (upd_of (upd_of (upd_of (upd_of (upd_of (upd_of (upd_of (upd_of (upd_of (upd_of (upd_of (upd_of (upd_of (upd_of (upd_of (upd_of (upd_of (upd_of (upd_of (upd_of (upd_of (upd_of (upd_of (upd_of (upd_of (upd_of (upd_of (upd_of (upd_of rfl rfl) rfl) rfl) rfl) rfl) rfl) rfl) rfl) rfl) rfl) rfl) rfl) rfl) rfl) rfl) rfl) rfl) rfl) rfl) rfl) rfl) rfl) rfl) rfl) rfl) rfl) rfl) rfl) rfl) rfl) rfl) rfl) rfl) rfl) rfl) rfl) rfl) rfl) rfl) rfl) rfl) rfl) rfl) rfl) rfl) rfl) rfl) rfl) rfl) rfl) rfl) rfl) rfl) rfl) rfl) rfl) rfl) rfl) rfl) rfl) rfl) rfl) rfl) rfl) rfl) rfl) rfl) rfl) rfl) rfl) rfl) rfl) rfl) rfl) rfl) rfl) rfl) rfl) rfl) rfl) rfl) rfl) rfl) rfl) rfl) rfl) rfl) rfl) rfl) rfl) rfl) rfl) rfl), hmk182, (hst214.front 1 rfl rfl), (hback202 R119 (ys191.set k_190 (-9)) c210 (by simp only [List.length_set]; omega) hrow213), (by omega), (by simp only [List.length_set]; omega), rfl⟩
        · skip
          have q215 := of_decide_eq_false c194
          refine W_cond_false (by show Value.bool _ = _; exact congrArg Value.bool c194) ?_
          refine W_exit ?_
          refine W_seq ?_
          refine W_region_lit ?_
          refine L_val (v := (.bool true)) (w' := w184) rfl rfl rfl rfl ?_
          refine L_val (v := (.bool true)) (w' := w184) rfl rfl rfl rfl ?_
          refine L_guard rfl rfl rfl rfl rfl ?_
          refine L_val (v := (ptr p93 0)) (w' := w184) rfl rfl rfl rfl ?_
          refine L_guard rfl rfl rfl rfl rfl ?_
          refine L_callG hst183 (v := (.bool (holds (RS.add (RS.new 4 3) 1 xs).vers (RS.add (RS.new 4 3) 1 xs).mods 1))) rfl rfl rfl (x_call (vs := #[(ptr p93 0), (.int .i64 1)]) rfl rfl (by kernel_rfl) ent_15) (Holds_reg (w := w184) 1 hreg129 hst183.rle' (hst183.get (i := 0) rfl)) (fun w216 hst217 => ?_)
          refine L_guard rfl rfl rfl rfl rfl ?_
          refine L_val (v := (.int .i64 (RS.addE (RS.new 4 3) 1 xs))) (w' := w216) rfl rfl rfl rfl ?_
          refine L_guard rfl rfl rfl rfl rfl ?_
          refine L_val (v := (.bool ((RS.addE (RS.new 4 3) 1 xs) == 0))) (w' := w216) rfl rfl rfl (by kernel_rfl) ?_
          refine L_guard rfl rfl rfl rfl rfl ?_
          have hq218 : ((holds (RS.add (RS.new 4 3) 1 xs).vers (RS.add (RS.new 4 3) 1 xs).mods 1) == ((RS.addE (RS.new 4 3) 1 xs) == 0)) = true := by rw [holds_new rfl]; exact beq_self_eq_true _
          refine L_val (v := .bool ((holds (RS.add (RS.new 4 3) 1 xs).vers (RS.add (RS.new 4 3) 1 xs).mods 1) == ((RS.addE (RS.new 4 3) 1 xs) == 0))) (w' := w216) rfl rfl rfl (by kernel_rfl) ?_
          refine L_val (v := (.bool ((holds (RS.add (RS.new 4 3) 1 xs).vers (RS.add (RS.new 4 3) 1 xs).mods 1) == ((RS.addE (RS.new 4 3) 1 xs) == 0)))) (w' := w216) rfl rfl rfl rfl ?_
          refine L_val (v := (.bool ((holds (RS.add (RS.new 4 3) 1 xs).vers (RS.add (RS.new 4 3) 1 xs).mods 1) == ((RS.addE (RS.new 4 3) 1 xs) == 0)))) (w' := w216) rfl rfl rfl rfl ?_
          refine L_nil ?_
          refine W_ret ?_
          refine ⟨_, _, res_run (rs := [.tmp 6]) (vs := [(.bool ((holds (RS.add (RS.new 4 3) 1 xs).vers (RS.add (RS.new 4 3) 1 xs).mods 1) == ((RS.addE (RS.new 4 3) 1 xs) == 0)))]) Try.results6 (.cons (.tmp rfl) .nil) hmk182, ?_⟩
          exact ⟨_, _, [], rfl, hst217.keepN 0 rfl, congrArg Value.bool hq218, rfl⟩

end Go.Fx.Ytlfabjfajcbdcaa
