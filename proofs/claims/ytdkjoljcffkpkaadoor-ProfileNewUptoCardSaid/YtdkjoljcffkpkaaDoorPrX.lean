/-
  Chapter 14: ProfileNew, printed by genn.py
-/
import Derived.Test.YtdkjoljcffkpkaaDoorPrX0
set_option linter.unusedSimpArgs false
set_option linter.unusedVariables false
namespace Go.Fx.YtdkjoljcffkpkaaDoor
open Go Go.Fx Go.Proofs
set_option maxRecDepth 20000

theorem ent_25 : Ent Tryd.prog 25 := fun _ _ => by kernel_rfl
theorem ent_49 : Ent Tryd.prog 49 := fun _ _ => by kernel_rfl
theorem sl_58 : SL Tryd.prog 58 5 := Tryd.underlying58
theorem sl_68 : SL Tryd.prog 68 26 := Tryd.underlying68

theorem New_bad {w : World} {R : Hp} {a b c d : Int} (hR : Le R (hp w)) (ha : I64 a) (hb : I64 b) (hc : I64 c) (hd : I64 d) (hbad : ¬ (1 ≤ a ∧ a ≤ 1000 ∧ 1 ≤ b ∧ b ≤ 1000000 ∧ b + 1 ≤ c ∧ c ≤ 1000000 ∧ 1 ≤ d ∧ d ≤ 1000000)) :
    Calls Tryd.prog 22 #[int a, int b, int c, int d] w fun e w' => e = .returned (.tuple #[.pointer none, int 1]) ∧ Grow w w' := by
  obtain ⟨ha1, ha2⟩ := ha
  obtain ⟨hb1, hb2⟩ := hb
  obtain ⟨hc1, hc2⟩ := hc
  obtain ⟨hd1, hd2⟩ := hd
  have hst := Step.ro hR
  refine calls_of_W (n := 42) Tryd.func22 rfl Tryd.ntmps22 (Nat.le_of_ble_eq_true rfl) ?_
  refine W_seq ?_
  refine W_region_lit ?_
  refine L_val (v := (.pointer none)) (w' := w) rfl rfl rfl rfl ?_
  refine L_val (v := (.int .i64 0)) (w' := w) rfl rfl rfl rfl ?_
  refine L_nil ?_
  refine W_seq ?_
  refine W_region_lit ?_
  refine L_val (v := (.func (.func 46) #[] #[])) (w' := w) rfl rfl rfl rfl ?_
  refine L_nil ?_
  refine W_seq ?_
  refine W_seq ?_
  refine W_region_lit ?_
  refine L_val (v := (.func (.func 46) #[] #[])) (w' := w) rfl rfl rfl rfl ?_
  refine L_val (v := (.int .i64 a)) (w' := w) rfl rfl rfl rfl ?_
  refine L_call rfl rfl rfl (x_callv (vs := #[(.int .i64 a), (.int .i64 1), (.int .i64 1000)]) rfl rfl (by kernel_rfl) ent_46) ?_ (fun _ _ h => h)
  refine calls_of_W (n := 15) Tryd.func46 rfl Tryd.ntmps46 (Nat.le_of_ble_eq_true rfl) ?_
  refine W_seq ?_
  refine W_region_lit ?_
  refine L_val (v := (.bool false)) (w' := w) rfl rfl rfl rfl ?_
  refine L_nil ?_
  refine W_seq ?_
  refine W_region_lit ?_
  refine L_val (v := (.int .i64 1)) (w' := w) rfl rfl rfl rfl ?_
  refine L_val (v := (.int .i64 a)) (w' := w) rfl rfl rfl rfl ?_
  refine L_val (v := (.bool (decide (1 ≤ a)))) (w' := w) rfl rfl rfl (by kernel_rfl) ?_
  refine L_val (v := (.bool (decide (1 ≤ a)))) (w' := w) rfl rfl rfl rfl ?_
  rcases Bool.eq_false_or_eq_true (decide (1 ≤ a)) with c1 | c1
  · skip
    have q2 := of_decide_eq_true c1
    refine L_guard rfl rfl rfl rfl c1 ?_
    refine L_val (v := (.int .i64 a)) (w' := w) rfl rfl rfl rfl ?_
    refine L_guard rfl rfl rfl rfl c1 ?_
    refine L_val (v := (.int .i64 1000)) (w' := w) rfl rfl rfl rfl ?_
    refine L_guard rfl rfl rfl rfl c1 ?_
    refine L_val (v := (.bool (decide (a ≤ 1000)))) (w' := w) rfl rfl rfl (by kernel_rfl) ?_
    refine L_val (v := (.bool (decide (a ≤ 1000)))) (w' := w) rfl rfl rfl (x_pick rfl rfl (by rw [c1]; rfl)) ?_
    refine L_val (v := (.bool (decide (a ≤ 1000)))) (w' := w) rfl rfl rfl rfl ?_
    refine L_nil ?_
    refine W_ret ?_
    refine ⟨_, _, res_run (rs := [.tmp 6]) (vs := [(.bool (decide (a ≤ 1000)))]) Tryd.results46 (.cons (.tmp rfl) .nil) rfl, ?_⟩
    refine ⟨_, rfl, ?_⟩
    refine L_val (v := (.bool (!(decide (a ≤ 1000))))) (w' := w) rfl rfl rfl rfl ?_
    refine L_val (v := (.bool (!(decide (a ≤ 1000))))) (w' := w) rfl rfl rfl rfl ?_
    rcases Bool.eq_false_or_eq_true (decide (a ≤ 1000)) with c3 | c3
    · skip
      have q4 := of_decide_eq_true c3
      refine L_guard rfl rfl rfl rfl (by rw [c3]; rfl) ?_
      refine L_val (v := (.func (.func 46) #[] #[])) (w' := w) rfl rfl rfl rfl ?_
      refine L_guard rfl rfl rfl rfl (by rw [c3]; rfl) ?_
      refine L_val (v := (.int .i64 b)) (w' := w) rfl rfl rfl rfl ?_
      refine L_guard rfl rfl rfl rfl (by rw [c3]; rfl) ?_
      refine L_call rfl rfl rfl (x_callv (vs := #[(.int .i64 b), (.int .i64 1), (.int .i64 1000000)]) rfl rfl (by kernel_rfl) ent_46) ?_ (fun _ _ h => h)
      refine calls_of_W (n := 15) Tryd.func46 rfl Tryd.ntmps46 (Nat.le_of_ble_eq_true rfl) ?_
      refine W_seq ?_
      refine W_region_lit ?_
      refine L_val (v := (.bool false)) (w' := w) rfl rfl rfl rfl ?_
      refine L_nil ?_
      refine W_seq ?_
      refine W_region_lit ?_
      refine L_val (v := (.int .i64 1)) (w' := w) rfl rfl rfl rfl ?_
      refine L_val (v := (.int .i64 b)) (w' := w) rfl rfl rfl rfl ?_
      refine L_val (v := (.bool (decide (1 ≤ b)))) (w' := w) rfl rfl rfl (by kernel_rfl) ?_
      refine L_val (v := (.bool (decide (1 ≤ b)))) (w' := w) rfl rfl rfl rfl ?_
      rcases Bool.eq_false_or_eq_true (decide (1 ≤ b)) with c5 | c5
      · skip
        have q6 := of_decide_eq_true c5
        refine L_guard rfl rfl rfl rfl c5 ?_
        refine L_val (v := (.int .i64 b)) (w' := w) rfl rfl rfl rfl ?_
        refine L_guard rfl rfl rfl rfl c5 ?_
        refine L_val (v := (.int .i64 1000000)) (w' := w) rfl rfl rfl rfl ?_
        refine L_guard rfl rfl rfl rfl c5 ?_
        refine L_val (v := (.bool (decide (b ≤ 1000000)))) (w' := w) rfl rfl rfl (by kernel_rfl) ?_
        refine L_val (v := (.bool (decide (b ≤ 1000000)))) (w' := w) rfl rfl rfl (x_pick rfl rfl (by rw [c5]; rfl)) ?_
        refine L_val (v := (.bool (decide (b ≤ 1000000)))) (w' := w) rfl rfl rfl rfl ?_
        refine L_nil ?_
        refine W_ret ?_
        refine ⟨_, _, res_run (rs := [.tmp 6]) (vs := [(.bool (decide (b ≤ 1000000)))]) Tryd.results46 (.cons (.tmp rfl) .nil) rfl, ?_⟩
        refine ⟨_, rfl, ?_⟩
        refine L_guard rfl rfl rfl rfl (by rw [c3]; rfl) ?_
        refine L_val (v := (.bool (!(decide (b ≤ 1000000))))) (w' := w) rfl rfl rfl rfl ?_
        refine L_val (v := (.bool (!(decide (b ≤ 1000000))))) (w' := w) rfl rfl rfl (x_pick rfl rfl (by rw [c3]; rfl)) ?_
        refine L_val (v := (.bool (!(decide (b ≤ 1000000))))) (w' := w) rfl rfl rfl rfl ?_
        rcases Bool.eq_false_or_eq_true (decide (b ≤ 1000000)) with c7 | c7
        · skip
          have q8 := of_decide_eq_true c7
          refine L_guard rfl rfl rfl rfl (by rw [c7]; rfl) ?_
          refine L_val (v := (.func (.func 46) #[] #[])) (w' := w) rfl rfl rfl rfl ?_
          refine L_guard rfl rfl rfl rfl (by rw [c7]; rfl) ?_
          refine L_val (v := (.int .i64 c)) (w' := w) rfl rfl rfl rfl ?_
          refine L_guard rfl rfl rfl rfl (by rw [c7]; rfl) ?_
          refine L_val (v := (.int .i64 b)) (w' := w) rfl rfl rfl rfl ?_
          refine L_guard rfl rfl rfl rfl (by rw [c7]; rfl) ?_
          refine L_val (v := (.int .i64 (b + 1))) (w' := w) rfl rfl rfl (x_add rfl rfl rfl (by constructor <;> omega)) ?_
          refine L_guard rfl rfl rfl rfl (by rw [c7]; rfl) ?_
          refine L_call rfl rfl rfl (x_callv (vs := #[(.int .i64 c), (.int .i64 (b + 1)), (.int .i64 1000000)]) rfl rfl (by kernel_rfl) ent_46) ?_ (fun _ _ h => h)
          refine calls_of_W (n := 15) Tryd.func46 rfl Tryd.ntmps46 (Nat.le_of_ble_eq_true rfl) ?_
          refine W_seq ?_
          refine W_region_lit ?_
          refine L_val (v := (.bool false)) (w' := w) rfl rfl rfl rfl ?_
          refine L_nil ?_
          refine W_seq ?_
          refine W_region_lit ?_
          refine L_val (v := (.int .i64 (b + 1))) (w' := w) rfl rfl rfl rfl ?_
          refine L_val (v := (.int .i64 c)) (w' := w) rfl rfl rfl rfl ?_
          refine L_val (v := (.bool (decide (b + 1 ≤ c)))) (w' := w) rfl rfl rfl (by kernel_rfl) ?_
          refine L_val (v := (.bool (decide (b + 1 ≤ c)))) (w' := w) rfl rfl rfl rfl ?_
          rcases Bool.eq_false_or_eq_true (decide (b + 1 ≤ c)) with c9 | c9
          · skip
            have q10 := of_decide_eq_true c9
            refine L_guard rfl rfl rfl rfl c9 ?_
            refine L_val (v := (.int .i64 c)) (w' := w) rfl rfl rfl rfl ?_
            refine L_guard rfl rfl rfl rfl c9 ?_
            refine L_val (v := (.int .i64 1000000)) (w' := w) rfl rfl rfl rfl ?_
            refine L_guard rfl rfl rfl rfl c9 ?_
            refine L_val (v := (.bool (decide (c ≤ 1000000)))) (w' := w) rfl rfl rfl (by kernel_rfl) ?_
            refine L_val (v := (.bool (decide (c ≤ 1000000)))) (w' := w) rfl rfl rfl (x_pick rfl rfl (by rw [c9]; rfl)) ?_
            refine L_val (v := (.bool (decide (c ≤ 1000000)))) (w' := w) rfl rfl rfl rfl ?_
            refine L_nil ?_
            refine W_ret ?_
            refine ⟨_, _, res_run (rs := [.tmp 6]) (vs := [(.bool (decide (c ≤ 1000000)))]) Tryd.results46 (.cons (.tmp rfl) .nil) rfl, ?_⟩
            refine ⟨_, rfl, ?_⟩
            refine L_guard rfl rfl rfl rfl (by rw [c7]; rfl) ?_
            refine L_val (v := (.bool (!(decide (c ≤ 1000000))))) (w' := w) rfl rfl rfl rfl ?_
            refine L_val (v := (.bool (!(decide (c ≤ 1000000))))) (w' := w) rfl rfl rfl (x_pick rfl rfl (by rw [c7]; rfl)) ?_
            refine L_val (v := (.bool (!(decide (c ≤ 1000000))))) (w' := w) rfl rfl rfl rfl ?_
            rcases Bool.eq_false_or_eq_true (decide (c ≤ 1000000)) with c11 | c11
            · skip
              have q12 := of_decide_eq_true c11
              refine L_guard rfl rfl rfl rfl (by rw [c11]; rfl) ?_
              refine L_val (v := (.func (.func 46) #[] #[])) (w' := w) rfl rfl rfl rfl ?_
              refine L_guard rfl rfl rfl rfl (by rw [c11]; rfl) ?_
              refine L_val (v := (.int .i64 d)) (w' := w) rfl rfl rfl rfl ?_
              refine L_guard rfl rfl rfl rfl (by rw [c11]; rfl) ?_
              refine L_call rfl rfl rfl (x_callv (vs := #[(.int .i64 d), (.int .i64 1), (.int .i64 1000000)]) rfl rfl (by kernel_rfl) ent_46) ?_ (fun _ _ h => h)
              refine calls_of_W (n := 15) Tryd.func46 rfl Tryd.ntmps46 (Nat.le_of_ble_eq_true rfl) ?_
              refine W_seq ?_
              refine W_region_lit ?_
              refine L_val (v := (.bool false)) (w' := w) rfl rfl rfl rfl ?_
              refine L_nil ?_
              refine W_seq ?_
              refine W_region_lit ?_
              refine L_val (v := (.int .i64 1)) (w' := w) rfl rfl rfl rfl ?_
              refine L_val (v := (.int .i64 d)) (w' := w) rfl rfl rfl rfl ?_
              refine L_val (v := (.bool (decide (1 ≤ d)))) (w' := w) rfl rfl rfl (by kernel_rfl) ?_
              refine L_val (v := (.bool (decide (1 ≤ d)))) (w' := w) rfl rfl rfl rfl ?_
              rcases Bool.eq_false_or_eq_true (decide (1 ≤ d)) with c13 | c13
              · skip
                have q14 := of_decide_eq_true c13
                refine L_guard rfl rfl rfl rfl c13 ?_
                refine L_val (v := (.int .i64 d)) (w' := w) rfl rfl rfl rfl ?_
                refine L_guard rfl rfl rfl rfl c13 ?_
                refine L_val (v := (.int .i64 1000000)) (w' := w) rfl rfl rfl rfl ?_
                refine L_guard rfl rfl rfl rfl c13 ?_
                refine L_val (v := (.bool (decide (d ≤ 1000000)))) (w' := w) rfl rfl rfl (by kernel_rfl) ?_
                refine L_val (v := (.bool (decide (d ≤ 1000000)))) (w' := w) rfl rfl rfl (x_pick rfl rfl (by rw [c13]; rfl)) ?_
                refine L_val (v := (.bool (decide (d ≤ 1000000)))) (w' := w) rfl rfl rfl rfl ?_
                refine L_nil ?_
                refine W_ret ?_
                refine ⟨_, _, res_run (rs := [.tmp 6]) (vs := [(.bool (decide (d ≤ 1000000)))]) Tryd.results46 (.cons (.tmp rfl) .nil) rfl, ?_⟩
                refine ⟨_, rfl, ?_⟩
                refine L_guard rfl rfl rfl rfl (by rw [c11]; rfl) ?_
                refine L_val (v := (.bool (!(decide (d ≤ 1000000))))) (w' := w) rfl rfl rfl rfl ?_
                refine L_val (v := (.bool (!(decide (d ≤ 1000000))))) (w' := w) rfl rfl rfl (x_pick rfl rfl (by rw [c11]; rfl)) ?_
                refine L_nil ?_
                rcases Bool.eq_false_or_eq_true (decide (d ≤ 1000000)) with c15 | c15
                · skip
                  have q16 := of_decide_eq_true c15
                  refine W_cond_false (by show Value.bool _ = _; exact congrArg Value.bool (by rw [c15]; rfl)) ?_
                  refine W_skip ?_
                  refine W_seq ?_
                  refine W_region_lit ?_
                  refine L_val (v := (.int .i64 a)) (w' := w) rfl rfl rfl rfl ?_
                  refine L_val (v := (.int .i64 b)) (w' := w) rfl rfl rfl rfl ?_
                  refine L_val (v := (.int .i64 c)) (w' := w) rfl rfl rfl rfl ?_
                  refine L_val (v := (.int .i64 d)) (w' := w) rfl rfl rfl rfl ?_
                  refine L_new hst (v := fun b => .map (some b)) (ob := .map #[] 0) rfl rfl rfl (by kernel_rfl) (fun b17 w18 hst19 => ?_)
                  have hm20 : MapC kk (vE vP) (some b17) [] _ := MapC.made b17
                  generalize one b17 (.map #[] 0) = c21 at hm20 hst19
                  refine L_val (v := (.agg #[(.int .i64 a), (.int .i64 b), (.int .i64 c), (.int .i64 d), (.map (some b17)), (.slice none 0 0)])) (w' := w18) rfl rfl rfl (by kernel_rfl) ?_
                  refine L_new hst19 (v := fun b => ptr b 0) (ob := .cells #[(.int .i64 a), (.int .i64 b), (.int .i64 c), (.int .i64 d), (.map (some b17)), (.slice none 0 0)] 67 (0, 0)) rfl rfl rfl (by kernel_rfl) (fun b22 w23 hst24 => ?_)
                  refine L_val (v := (ptr b22 0)) (w' := w23) rfl rfl rfl rfl ?_
                  refine L_val (v := (.int .i64 0)) (w' := w23) rfl rfl rfl rfl ?_
                  refine L_nil ?_
                  refine W_ret ?_
                  refine ⟨_, _, res_run (rs := [.tmp 8, .tmp 9]) (vs := [(ptr b22 0), (.int .i64 0)]) Tryd.results22 (.cons (.tmp rfl) (.cons (.tmp rfl) .nil)) rfl, ?_⟩
                  exfalso; omega
                · skip
                  have q25 := of_decide_eq_false c15
                  refine W_cond_true (by show Value.bool _ = _; exact congrArg Value.bool (by rw [c15]; rfl)) ?_
                  refine W_seq ?_
                  refine W_region_lit ?_
                  refine L_val (v := (.pointer none)) (w' := w) rfl rfl rfl rfl ?_
                  refine L_val (v := (.int .i64 1)) (w' := w) rfl rfl rfl rfl ?_
                  refine L_nil ?_
                  refine W_ret ?_
                  refine ⟨_, _, res_run (rs := [.tmp 8, .tmp 9]) (vs := [(.pointer none), (.int .i64 1)]) Tryd.results22 (.cons (.tmp rfl) (.cons (.tmp rfl) .nil)) rfl, ?_⟩
                  exact ⟨rfl, hst.grow⟩
              · skip
                have q26 := of_decide_eq_false c13
                refine L_unwanted rfl rfl rfl rfl (by rw [c13]; try rfl) rfl rfl ?_
                refine L_unwanted rfl rfl rfl rfl (by rw [c13]; try rfl) rfl rfl ?_
                refine L_unwanted rfl rfl rfl rfl (by rw [c13]; try rfl) rfl rfl ?_
                refine L_val (v := (.bool false)) (w' := w) rfl rfl rfl (x_pick rfl rfl (by rw [c13]; rfl)) ?_
                refine L_val (v := (.bool false)) (w' := w) rfl rfl rfl rfl ?_
                refine L_nil ?_
                refine W_ret ?_
                refine ⟨_, _, res_run (rs := [.tmp 6]) (vs := [(.bool false)]) Tryd.results46 (.cons (.tmp rfl) .nil) rfl, ?_⟩
                refine ⟨_, rfl, ?_⟩
                refine L_guard rfl rfl rfl rfl (by rw [c11]; rfl) ?_
                refine L_val (v := (.bool true)) (w' := w) rfl rfl rfl rfl ?_
                refine L_val (v := (.bool true)) (w' := w) rfl rfl rfl (x_pick rfl rfl (by rw [c11]; rfl)) ?_
                refine L_nil ?_
                refine W_cond_true (by show Value.bool _ = _; exact congrArg Value.bool rfl) ?_
                refine W_seq ?_
                refine W_region_lit ?_
                refine L_val (v := (.pointer none)) (w' := w) rfl rfl rfl rfl ?_
                refine L_val (v := (.int .i64 1)) (w' := w) rfl rfl rfl rfl ?_
                refine L_nil ?_
                refine W_ret ?_
                refine ⟨_, _, res_run (rs := [.tmp 8, .tmp 9]) (vs := [(.pointer none), (.int .i64 1)]) Tryd.results22 (.cons (.tmp rfl) (.cons (.tmp rfl) .nil)) rfl, ?_⟩
                exact ⟨rfl, hst.grow⟩
            · skip
              have q27 := of_decide_eq_false c11
              refine L_unwanted rfl rfl rfl rfl (by rw [c11]; try rfl) rfl rfl ?_
              refine L_unwanted rfl rfl rfl rfl (by rw [c11]; try rfl) rfl rfl ?_
              refine L_unwanted rfl rfl rfl rfl (by rw [c11]; try rfl) rfl rfl ?_
              refine L_unwanted rfl rfl rfl rfl (by rw [c11]; try rfl) rfl rfl ?_
              refine L_val (v := (.bool true)) (w' := w) rfl rfl rfl (x_pick rfl rfl (by rw [c11]; rfl)) ?_
              refine L_nil ?_
              refine W_cond_true (by show Value.bool _ = _; exact congrArg Value.bool rfl) ?_
              refine W_seq ?_
              refine W_region_lit ?_
              refine L_val (v := (.pointer none)) (w' := w) rfl rfl rfl rfl ?_
              refine L_val (v := (.int .i64 1)) (w' := w) rfl rfl rfl rfl ?_
              refine L_nil ?_
              refine W_ret ?_
              refine ⟨_, _, res_run (rs := [.tmp 8, .tmp 9]) (vs := [(.pointer none), (.int .i64 1)]) Tryd.results22 (.cons (.tmp rfl) (.cons (.tmp rfl) .nil)) rfl, ?_⟩
              exact ⟨rfl, hst.grow⟩
          · skip
            have q28 := of_decide_eq_false c9
            refine L_unwanted rfl rfl rfl rfl (by rw [c9]; try rfl) rfl rfl ?_
            refine L_unwanted rfl rfl rfl rfl (by rw [c9]; try rfl) rfl rfl ?_
            refine L_unwanted rfl rfl rfl rfl (by rw [c9]; try rfl) rfl rfl ?_
            refine L_val (v := (.bool false)) (w' := w) rfl rfl rfl (x_pick rfl rfl (by rw [c9]; rfl)) ?_
            refine L_val (v := (.bool false)) (w' := w) rfl rfl rfl rfl ?_
            refine L_nil ?_
            refine W_ret ?_
            refine ⟨_, _, res_run (rs := [.tmp 6]) (vs := [(.bool false)]) Tryd.results46 (.cons (.tmp rfl) .nil) rfl, ?_⟩
            refine ⟨_, rfl, ?_⟩
            refine L_guard rfl rfl rfl rfl (by rw [c7]; rfl) ?_
            refine L_val (v := (.bool true)) (w' := w) rfl rfl rfl rfl ?_
            refine L_val (v := (.bool true)) (w' := w) rfl rfl rfl (x_pick rfl rfl (by rw [c7]; rfl)) ?_
            refine L_val (v := (.bool true)) (w' := w) rfl rfl rfl rfl ?_
            refine L_unwanted rfl rfl rfl rfl rfl rfl rfl ?_
            refine L_unwanted rfl rfl rfl rfl rfl rfl rfl ?_
            refine L_unwanted rfl rfl rfl rfl rfl rfl rfl ?_
            refine L_unwanted rfl rfl rfl rfl rfl rfl rfl ?_
            refine L_val (v := (.bool true)) (w' := w) rfl rfl rfl rfl ?_
            refine L_nil ?_
            refine W_cond_true (by show Value.bool _ = _; exact congrArg Value.bool rfl) ?_
            refine W_seq ?_
            refine W_region_lit ?_
            refine L_val (v := (.pointer none)) (w' := w) rfl rfl rfl rfl ?_
            refine L_val (v := (.int .i64 1)) (w' := w) rfl rfl rfl rfl ?_
            refine L_nil ?_
            refine W_ret ?_
            refine ⟨_, _, res_run (rs := [.tmp 8, .tmp 9]) (vs := [(.pointer none), (.int .i64 1)]) Tryd.results22 (.cons (.tmp rfl) (.cons (.tmp rfl) .nil)) rfl, ?_⟩
            exact ⟨rfl, hst.grow⟩
        · skip
          have q29 := of_decide_eq_false c7
          refine L_unwanted rfl rfl rfl rfl (by rw [c7]; try rfl) rfl rfl ?_
          refine L_unwanted rfl rfl rfl rfl (by rw [c7]; try rfl) rfl rfl ?_
          refine L_unwanted rfl rfl rfl rfl (by rw [c7]; try rfl) rfl rfl ?_
          refine L_unwanted rfl rfl rfl rfl (by rw [c7]; try rfl) rfl rfl ?_
          refine L_unwanted rfl rfl rfl rfl (by rw [c7]; try rfl) rfl rfl ?_
          refine L_unwanted rfl rfl rfl rfl (by rw [c7]; try rfl) rfl rfl ?_
          refine L_val (v := (.bool true)) (w' := w) rfl rfl rfl (x_pick rfl rfl (by rw [c7]; rfl)) ?_
          refine L_val (v := (.bool true)) (w' := w) rfl rfl rfl rfl ?_
          refine L_unwanted rfl rfl rfl rfl rfl rfl rfl ?_
          refine L_unwanted rfl rfl rfl rfl rfl rfl rfl ?_
          refine L_unwanted rfl rfl rfl rfl rfl rfl rfl ?_
          refine L_unwanted rfl rfl rfl rfl rfl rfl rfl ?_
          refine L_val (v := (.bool true)) (w' := w) rfl rfl rfl rfl ?_
          refine L_nil ?_
          refine W_cond_true (by show Value.bool _ = _; exact congrArg Value.bool rfl) ?_
          refine W_seq ?_
          refine W_region_lit ?_
          refine L_val (v := (.pointer none)) (w' := w) rfl rfl rfl rfl ?_
          refine L_val (v := (.int .i64 1)) (w' := w) rfl rfl rfl rfl ?_
          refine L_nil ?_
          refine W_ret ?_
          refine ⟨_, _, res_run (rs := [.tmp 8, .tmp 9]) (vs := [(.pointer none), (.int .i64 1)]) Tryd.results22 (.cons (.tmp rfl) (.cons (.tmp rfl) .nil)) rfl, ?_⟩
          exact ⟨rfl, hst.grow⟩
      · skip
        have q30 := of_decide_eq_false c5
        refine L_unwanted rfl rfl rfl rfl (by rw [c5]; try rfl) rfl rfl ?_
        refine L_unwanted rfl rfl rfl rfl (by rw [c5]; try rfl) rfl rfl ?_
        refine L_unwanted rfl rfl rfl rfl (by rw [c5]; try rfl) rfl rfl ?_
        refine L_val (v := (.bool false)) (w' := w) rfl rfl rfl (x_pick rfl rfl (by rw [c5]; rfl)) ?_
        refine L_val (v := (.bool false)) (w' := w) rfl rfl rfl rfl ?_
        refine L_nil ?_
        refine W_ret ?_
        refine ⟨_, _, res_run (rs := [.tmp 6]) (vs := [(.bool false)]) Tryd.results46 (.cons (.tmp rfl) .nil) rfl, ?_⟩
        refine ⟨_, rfl, ?_⟩
        refine L_guard rfl rfl rfl rfl (by rw [c3]; rfl) ?_
        refine L_val (v := (.bool true)) (w' := w) rfl rfl rfl rfl ?_
        refine L_val (v := (.bool true)) (w' := w) rfl rfl rfl (x_pick rfl rfl (by rw [c3]; rfl)) ?_
        refine L_val (v := (.bool true)) (w' := w) rfl rfl rfl rfl ?_
        refine L_unwanted rfl rfl rfl rfl rfl rfl rfl ?_
        refine L_unwanted rfl rfl rfl rfl rfl rfl rfl ?_
        refine L_unwanted rfl rfl rfl rfl rfl rfl rfl ?_
        refine L_unwanted rfl rfl rfl rfl rfl rfl rfl ?_
        refine L_unwanted rfl rfl rfl rfl rfl rfl rfl ?_
        refine L_unwanted rfl rfl rfl rfl rfl rfl rfl ?_
        refine L_val (v := (.bool true)) (w' := w) rfl rfl rfl rfl ?_
        refine L_val (v := (.bool true)) (w' := w) rfl rfl rfl rfl ?_
        refine L_unwanted rfl rfl rfl rfl rfl rfl rfl ?_
        refine L_unwanted rfl rfl rfl rfl rfl rfl rfl ?_
        refine L_unwanted rfl rfl rfl rfl rfl rfl rfl ?_
        refine L_unwanted rfl rfl rfl rfl rfl rfl rfl ?_
        refine L_val (v := (.bool true)) (w' := w) rfl rfl rfl rfl ?_
        refine L_nil ?_
        refine W_cond_true (by show Value.bool _ = _; exact congrArg Value.bool rfl) ?_
        refine W_seq ?_
        refine W_region_lit ?_
        refine L_val (v := (.pointer none)) (w' := w) rfl rfl rfl rfl ?_
        refine L_val (v := (.int .i64 1)) (w' := w) rfl rfl rfl rfl ?_
        refine L_nil ?_
        refine W_ret ?_
        refine ⟨_, _, res_run (rs := [.tmp 8, .tmp 9]) (vs := [(.pointer none), (.int .i64 1)]) Tryd.results22 (.cons (.tmp rfl) (.cons (.tmp rfl) .nil)) rfl, ?_⟩
        exact ⟨rfl, hst.grow⟩
    · skip
      have q31 := of_decide_eq_false c3
      refine L_unwanted rfl rfl rfl rfl (by rw [c3]; try rfl) rfl rfl ?_
      refine L_unwanted rfl rfl rfl rfl (by rw [c3]; try rfl) rfl rfl ?_
      refine L_unwanted rfl rfl rfl rfl (by rw [c3]; try rfl) rfl rfl ?_
      refine L_unwanted rfl rfl rfl rfl (by rw [c3]; try rfl) rfl rfl ?_
      refine L_val (v := (.bool true)) (w' := w) rfl rfl rfl (x_pick rfl rfl (by rw [c3]; rfl)) ?_
      refine L_val (v := (.bool true)) (w' := w) rfl rfl rfl rfl ?_
      refine L_unwanted rfl rfl rfl rfl rfl rfl rfl ?_
      refine L_unwanted rfl rfl rfl rfl rfl rfl rfl ?_
      refine L_unwanted rfl rfl rfl rfl rfl rfl rfl ?_
      refine L_unwanted rfl rfl rfl rfl rfl rfl rfl ?_
      refine L_unwanted rfl rfl rfl rfl rfl rfl rfl ?_
      refine L_unwanted rfl rfl rfl rfl rfl rfl rfl ?_
      refine L_val (v := (.bool true)) (w' := w) rfl rfl rfl rfl ?_
      refine L_val (v := (.bool true)) (w' := w) rfl rfl rfl rfl ?_
      refine L_unwanted rfl rfl rfl rfl rfl rfl rfl ?_
      refine L_unwanted rfl rfl rfl rfl rfl rfl rfl ?_
      refine L_unwanted rfl rfl rfl rfl rfl rfl rfl ?_
      refine L_unwanted rfl rfl rfl rfl rfl rfl rfl ?_
      refine L_val (v := (.bool true)) (w' := w) rfl rfl rfl rfl ?_
      refine L_nil ?_
      refine W_cond_true (by show Value.bool _ = _; exact congrArg Value.bool rfl) ?_
      refine W_seq ?_
      refine W_region_lit ?_
      refine L_val (v := (.pointer none)) (w' := w) rfl rfl rfl rfl ?_
      refine L_val (v := (.int .i64 1)) (w' := w) rfl rfl rfl rfl ?_
      refine L_nil ?_
      refine W_ret ?_
      refine ⟨_, _, res_run (rs := [.tmp 8, .tmp 9]) (vs := [(.pointer none), (.int .i64 1)]) Tryd.results22 (.cons (.tmp rfl) (.cons (.tmp rfl) .nil)) rfl, ?_⟩
      exact ⟨rfl, hst.grow⟩
  · skip
    have q32 := of_decide_eq_false c1
    refine L_unwanted rfl rfl rfl rfl (by rw [c1]; try rfl) rfl rfl ?_
    refine L_unwanted rfl rfl rfl rfl (by rw [c1]; try rfl) rfl rfl ?_
    refine L_unwanted rfl rfl rfl rfl (by rw [c1]; try rfl) rfl rfl ?_
    refine L_val (v := (.bool false)) (w' := w) rfl rfl rfl (x_pick rfl rfl (by rw [c1]; rfl)) ?_
    refine L_val (v := (.bool false)) (w' := w) rfl rfl rfl rfl ?_
    refine L_nil ?_
    refine W_ret ?_
    refine ⟨_, _, res_run (rs := [.tmp 6]) (vs := [(.bool false)]) Tryd.results46 (.cons (.tmp rfl) .nil) rfl, ?_⟩
    refine ⟨_, rfl, ?_⟩
    refine L_val (v := (.bool true)) (w' := w) rfl rfl rfl rfl ?_
    refine L_val (v := (.bool true)) (w' := w) rfl rfl rfl rfl ?_
    refine L_unwanted rfl rfl rfl rfl rfl rfl rfl ?_
    refine L_unwanted rfl rfl rfl rfl rfl rfl rfl ?_
    refine L_unwanted rfl rfl rfl rfl rfl rfl rfl ?_
    refine L_unwanted rfl rfl rfl rfl rfl rfl rfl ?_
    refine L_val (v := (.bool true)) (w' := w) rfl rfl rfl rfl ?_
    refine L_val (v := (.bool true)) (w' := w) rfl rfl rfl rfl ?_
    refine L_unwanted rfl rfl rfl rfl rfl rfl rfl ?_
    refine L_unwanted rfl rfl rfl rfl rfl rfl rfl ?_
    refine L_unwanted rfl rfl rfl rfl rfl rfl rfl ?_
    refine L_unwanted rfl rfl rfl rfl rfl rfl rfl ?_
    refine L_unwanted rfl rfl rfl rfl rfl rfl rfl ?_
    refine L_unwanted rfl rfl rfl rfl rfl rfl rfl ?_
    refine L_val (v := (.bool true)) (w' := w) rfl rfl rfl rfl ?_
    refine L_val (v := (.bool true)) (w' := w) rfl rfl rfl rfl ?_
    refine L_unwanted rfl rfl rfl rfl rfl rfl rfl ?_
    refine L_unwanted rfl rfl rfl rfl rfl rfl rfl ?_
    refine L_unwanted rfl rfl rfl rfl rfl rfl rfl ?_
    refine L_unwanted rfl rfl rfl rfl rfl rfl rfl ?_
    refine L_val (v := (.bool true)) (w' := w) rfl rfl rfl rfl ?_
    refine L_nil ?_
    refine W_cond_true (by show Value.bool _ = _; exact congrArg Value.bool rfl) ?_
    refine W_seq ?_
    refine W_region_lit ?_
    refine L_val (v := (.pointer none)) (w' := w) rfl rfl rfl rfl ?_
    refine L_val (v := (.int .i64 1)) (w' := w) rfl rfl rfl rfl ?_
    refine L_nil ?_
    refine W_ret ?_
    refine ⟨_, _, res_run (rs := [.tmp 8, .tmp 9]) (vs := [(.pointer none), (.int .i64 1)]) Tryd.results22 (.cons (.tmp rfl) (.cons (.tmp rfl) .nil)) rfl, ?_⟩
    exact ⟨rfl, hst.grow⟩

theorem NewR_bad {w : World} {R : Hp} {a b c d : Int} (hR : Le R (hp w)) (ha : I64 a) (hb : I64 b) (hc : I64 c) (hd : I64 d) (hbad : ¬ (1 ≤ a ∧ a ≤ 1000 ∧ 1 ≤ b ∧ b ≤ 1000000 ∧ b + 1 ≤ c ∧ c ≤ 1000000 ∧ 1 ≤ d ∧ d ≤ 1000000)) :
    Calls Tryd.prog 25 #[int a, int b, int c, int d] w fun e w' => e = .returned (.tuple #[.pointer none, int 1]) ∧ Grow w w' := by
  obtain ⟨ha1, ha2⟩ := ha
  obtain ⟨hb1, hb2⟩ := hb
  obtain ⟨hc1, hc2⟩ := hc
  obtain ⟨hd1, hd2⟩ := hd
  have hst := Step.ro hR
  refine calls_of_W (n := 39) Tryd.func25 rfl Tryd.ntmps25 (Nat.le_of_ble_eq_true rfl) ?_
  refine W_seq ?_
  refine W_region_lit ?_
  refine L_val (v := (.pointer none)) (w' := w) rfl rfl rfl rfl ?_
  refine L_val (v := (.int .i64 0)) (w' := w) rfl rfl rfl rfl ?_
  refine L_nil ?_
  refine W_seq ?_
  refine W_seq ?_
  refine W_region_lit ?_
  refine L_val (v := (.int .i64 a)) (w' := w) rfl rfl rfl rfl ?_
  refine L_call rfl rfl rfl (x_call (vs := #[(.int .i64 a), (.int .i64 1), (.int .i64 1000)]) rfl rfl (by kernel_rfl) ent_49) ?_ (fun _ _ h => h)
  refine calls_of_W (n := 15) Tryd.func49 rfl Tryd.ntmps49 (Nat.le_of_ble_eq_true rfl) ?_
  refine W_seq ?_
  refine W_region_lit ?_
  refine L_val (v := (.bool false)) (w' := w) rfl rfl rfl rfl ?_
  refine L_nil ?_
  refine W_seq ?_
  refine W_region_lit ?_
  refine L_val (v := (.int .i64 a)) (w' := w) rfl rfl rfl rfl ?_
  refine L_val (v := (.int .i64 1)) (w' := w) rfl rfl rfl rfl ?_
  refine L_val (v := (.bool (decide (a ≥ 1)))) (w' := w) rfl rfl rfl (by kernel_rfl) ?_
  refine L_val (v := (.bool (decide (a ≥ 1)))) (w' := w) rfl rfl rfl rfl ?_
  rcases Bool.eq_false_or_eq_true (decide (a ≥ 1)) with c1 | c1
  · skip
    have q2 := of_decide_eq_true c1
    refine L_guard rfl rfl rfl rfl c1 ?_
    refine L_val (v := (.int .i64 a)) (w' := w) rfl rfl rfl rfl ?_
    refine L_guard rfl rfl rfl rfl c1 ?_
    refine L_val (v := (.int .i64 1000)) (w' := w) rfl rfl rfl rfl ?_
    refine L_guard rfl rfl rfl rfl c1 ?_
    refine L_val (v := (.bool (decide (a ≤ 1000)))) (w' := w) rfl rfl rfl (by kernel_rfl) ?_
    refine L_val (v := (.bool (decide (a ≤ 1000)))) (w' := w) rfl rfl rfl (x_pick rfl rfl (by rw [c1]; rfl)) ?_
    refine L_val (v := (.bool (decide (a ≤ 1000)))) (w' := w) rfl rfl rfl rfl ?_
    refine L_nil ?_
    refine W_ret ?_
    refine ⟨_, _, res_run (rs := [.tmp 6]) (vs := [(.bool (decide (a ≤ 1000)))]) Tryd.results49 (.cons (.tmp rfl) .nil) rfl, ?_⟩
    refine ⟨_, rfl, ?_⟩
    refine L_val (v := (.bool (!(decide (a ≤ 1000))))) (w' := w) rfl rfl rfl rfl ?_
    refine L_val (v := (.bool (!(decide (a ≤ 1000))))) (w' := w) rfl rfl rfl rfl ?_
    rcases Bool.eq_false_or_eq_true (decide (a ≤ 1000)) with c3 | c3
    · skip
      have q4 := of_decide_eq_true c3
      refine L_guard rfl rfl rfl rfl (by rw [c3]; rfl) ?_
      refine L_val (v := (.int .i64 b)) (w' := w) rfl rfl rfl rfl ?_
      refine L_guard rfl rfl rfl rfl (by rw [c3]; rfl) ?_
      refine L_call rfl rfl rfl (x_call (vs := #[(.int .i64 b), (.int .i64 1), (.int .i64 1000000)]) rfl rfl (by kernel_rfl) ent_49) ?_ (fun _ _ h => h)
      refine calls_of_W (n := 15) Tryd.func49 rfl Tryd.ntmps49 (Nat.le_of_ble_eq_true rfl) ?_
      refine W_seq ?_
      refine W_region_lit ?_
      refine L_val (v := (.bool false)) (w' := w) rfl rfl rfl rfl ?_
      refine L_nil ?_
      refine W_seq ?_
      refine W_region_lit ?_
      refine L_val (v := (.int .i64 b)) (w' := w) rfl rfl rfl rfl ?_
      refine L_val (v := (.int .i64 1)) (w' := w) rfl rfl rfl rfl ?_
      refine L_val (v := (.bool (decide (b ≥ 1)))) (w' := w) rfl rfl rfl (by kernel_rfl) ?_
      refine L_val (v := (.bool (decide (b ≥ 1)))) (w' := w) rfl rfl rfl rfl ?_
      rcases Bool.eq_false_or_eq_true (decide (b ≥ 1)) with c5 | c5
      · skip
        have q6 := of_decide_eq_true c5
        refine L_guard rfl rfl rfl rfl c5 ?_
        refine L_val (v := (.int .i64 b)) (w' := w) rfl rfl rfl rfl ?_
        refine L_guard rfl rfl rfl rfl c5 ?_
        refine L_val (v := (.int .i64 1000000)) (w' := w) rfl rfl rfl rfl ?_
        refine L_guard rfl rfl rfl rfl c5 ?_
        refine L_val (v := (.bool (decide (b ≤ 1000000)))) (w' := w) rfl rfl rfl (by kernel_rfl) ?_
        refine L_val (v := (.bool (decide (b ≤ 1000000)))) (w' := w) rfl rfl rfl (x_pick rfl rfl (by rw [c5]; rfl)) ?_
        refine L_val (v := (.bool (decide (b ≤ 1000000)))) (w' := w) rfl rfl rfl rfl ?_
        refine L_nil ?_
        refine W_ret ?_
        refine ⟨_, _, res_run (rs := [.tmp 6]) (vs := [(.bool (decide (b ≤ 1000000)))]) Tryd.results49 (.cons (.tmp rfl) .nil) rfl, ?_⟩
        refine ⟨_, rfl, ?_⟩
        refine L_guard rfl rfl rfl rfl (by rw [c3]; rfl) ?_
        refine L_val (v := (.bool (!(decide (b ≤ 1000000))))) (w' := w) rfl rfl rfl rfl ?_
        refine L_val (v := (.bool (!(decide (b ≤ 1000000))))) (w' := w) rfl rfl rfl (x_pick rfl rfl (by rw [c3]; rfl)) ?_
        refine L_val (v := (.bool (!(decide (b ≤ 1000000))))) (w' := w) rfl rfl rfl rfl ?_
        rcases Bool.eq_false_or_eq_true (decide (b ≤ 1000000)) with c7 | c7
        · skip
          have q8 := of_decide_eq_true c7
          refine L_guard rfl rfl rfl rfl (by rw [c7]; rfl) ?_
          refine L_val (v := (.int .i64 c)) (w' := w) rfl rfl rfl rfl ?_
          refine L_guard rfl rfl rfl rfl (by rw [c7]; rfl) ?_
          refine L_call rfl rfl rfl (x_call (vs := #[(.int .i64 c), (.int .i64 1), (.int .i64 1000000)]) rfl rfl (by kernel_rfl) ent_49) ?_ (fun _ _ h => h)
          refine calls_of_W (n := 15) Tryd.func49 rfl Tryd.ntmps49 (Nat.le_of_ble_eq_true rfl) ?_
          refine W_seq ?_
          refine W_region_lit ?_
          refine L_val (v := (.bool false)) (w' := w) rfl rfl rfl rfl ?_
          refine L_nil ?_
          refine W_seq ?_
          refine W_region_lit ?_
          refine L_val (v := (.int .i64 c)) (w' := w) rfl rfl rfl rfl ?_
          refine L_val (v := (.int .i64 1)) (w' := w) rfl rfl rfl rfl ?_
          refine L_val (v := (.bool (decide (c ≥ 1)))) (w' := w) rfl rfl rfl (by kernel_rfl) ?_
          refine L_val (v := (.bool (decide (c ≥ 1)))) (w' := w) rfl rfl rfl rfl ?_
          rcases Bool.eq_false_or_eq_true (decide (c ≥ 1)) with c9 | c9
          · skip
            have q10 := of_decide_eq_true c9
            refine L_guard rfl rfl rfl rfl c9 ?_
            refine L_val (v := (.int .i64 c)) (w' := w) rfl rfl rfl rfl ?_
            refine L_guard rfl rfl rfl rfl c9 ?_
            refine L_val (v := (.int .i64 1000000)) (w' := w) rfl rfl rfl rfl ?_
            refine L_guard rfl rfl rfl rfl c9 ?_
            refine L_val (v := (.bool (decide (c ≤ 1000000)))) (w' := w) rfl rfl rfl (by kernel_rfl) ?_
            refine L_val (v := (.bool (decide (c ≤ 1000000)))) (w' := w) rfl rfl rfl (x_pick rfl rfl (by rw [c9]; rfl)) ?_
            refine L_val (v := (.bool (decide (c ≤ 1000000)))) (w' := w) rfl rfl rfl rfl ?_
            refine L_nil ?_
            refine W_ret ?_
            refine ⟨_, _, res_run (rs := [.tmp 6]) (vs := [(.bool (decide (c ≤ 1000000)))]) Tryd.results49 (.cons (.tmp rfl) .nil) rfl, ?_⟩
            refine ⟨_, rfl, ?_⟩
            refine L_guard rfl rfl rfl rfl (by rw [c7]; rfl) ?_
            refine L_val (v := (.bool (!(decide (c ≤ 1000000))))) (w' := w) rfl rfl rfl rfl ?_
            refine L_val (v := (.bool (!(decide (c ≤ 1000000))))) (w' := w) rfl rfl rfl (x_pick rfl rfl (by rw [c7]; rfl)) ?_
            refine L_val (v := (.bool (!(decide (c ≤ 1000000))))) (w' := w) rfl rfl rfl rfl ?_
            rcases Bool.eq_false_or_eq_true (decide (c ≤ 1000000)) with c11 | c11
            · skip
              have q12 := of_decide_eq_true c11
              refine L_guard rfl rfl rfl rfl (by rw [c11]; rfl) ?_
              refine L_val (v := (.int .i64 c)) (w' := w) rfl rfl rfl rfl ?_
              refine L_guard rfl rfl rfl rfl (by rw [c11]; rfl) ?_
              refine L_val (v := (.int .i64 b)) (w' := w) rfl rfl rfl rfl ?_
              refine L_guard rfl rfl rfl rfl (by rw [c11]; rfl) ?_
              refine L_val (v := (.bool (decide (c ≤ b)))) (w' := w) rfl rfl rfl (by kernel_rfl) ?_
              refine L_val (v := (.bool (decide (c ≤ b)))) (w' := w) rfl rfl rfl (x_pick rfl rfl (by rw [c11]; rfl)) ?_
              refine L_val (v := (.bool (decide (c ≤ b)))) (w' := w) rfl rfl rfl rfl ?_
              rcases Bool.eq_false_or_eq_true (decide (c ≤ b)) with c13 | c13
              · skip
                have q14 := of_decide_eq_true c13
                refine L_unwanted rfl rfl rfl rfl (by rw [c13]; try rfl) rfl rfl ?_
                refine L_unwanted rfl rfl rfl rfl (by rw [c13]; try rfl) rfl rfl ?_
                refine L_unwanted rfl rfl rfl rfl (by rw [c13]; try rfl) rfl rfl ?_
                refine L_val (v := (.bool true)) (w' := w) rfl rfl rfl (x_pick rfl rfl (by rw [c13]; rfl)) ?_
                refine L_nil ?_
                refine W_cond_true (by show Value.bool _ = _; exact congrArg Value.bool rfl) ?_
                refine W_seq ?_
                refine W_region_lit ?_
                refine L_val (v := (.pointer none)) (w' := w) rfl rfl rfl rfl ?_
                refine L_val (v := (.int .i64 1)) (w' := w) rfl rfl rfl rfl ?_
                refine L_nil ?_
                refine W_ret ?_
                refine ⟨_, _, res_run (rs := [.tmp 8, .tmp 9]) (vs := [(.pointer none), (.int .i64 1)]) Tryd.results25 (.cons (.tmp rfl) (.cons (.tmp rfl) .nil)) rfl, ?_⟩
                exact ⟨rfl, hst.grow⟩
              · skip
                have q15 := of_decide_eq_false c13
                refine L_guard rfl rfl rfl rfl c13 ?_
                refine L_val (v := (.int .i64 d)) (w' := w) rfl rfl rfl rfl ?_
                refine L_guard rfl rfl rfl rfl c13 ?_
                refine L_call rfl rfl rfl (x_call (vs := #[(.int .i64 d), (.int .i64 1), (.int .i64 1000000)]) rfl rfl (by kernel_rfl) ent_49) ?_ (fun _ _ h => h)
                refine calls_of_W (n := 15) Tryd.func49 rfl Tryd.ntmps49 (Nat.le_of_ble_eq_true rfl) ?_
                refine W_seq ?_
                refine W_region_lit ?_
                refine L_val (v := (.bool false)) (w' := w) rfl rfl rfl rfl ?_
                refine L_nil ?_
                refine W_seq ?_
                refine W_region_lit ?_
                refine L_val (v := (.int .i64 d)) (w' := w) rfl rfl rfl rfl ?_
                refine L_val (v := (.int .i64 1)) (w' := w) rfl rfl rfl rfl ?_
                refine L_val (v := (.bool (decide (d ≥ 1)))) (w' := w) rfl rfl rfl (by kernel_rfl) ?_
                refine L_val (v := (.bool (decide (d ≥ 1)))) (w' := w) rfl rfl rfl rfl ?_
                rcases Bool.eq_false_or_eq_true (decide (d ≥ 1)) with c16 | c16
                · skip
                  have q17 := of_decide_eq_true c16
                  refine L_guard rfl rfl rfl rfl c16 ?_
                  refine L_val (v := (.int .i64 d)) (w' := w) rfl rfl rfl rfl ?_
                  refine L_guard rfl rfl rfl rfl c16 ?_
                  refine L_val (v := (.int .i64 1000000)) (w' := w) rfl rfl rfl rfl ?_
                  refine L_guard rfl rfl rfl rfl c16 ?_
                  refine L_val (v := (.bool (decide (d ≤ 1000000)))) (w' := w) rfl rfl rfl (by kernel_rfl) ?_
                  refine L_val (v := (.bool (decide (d ≤ 1000000)))) (w' := w) rfl rfl rfl (x_pick rfl rfl (by rw [c16]; rfl)) ?_
                  refine L_val (v := (.bool (decide (d ≤ 1000000)))) (w' := w) rfl rfl rfl rfl ?_
                  refine L_nil ?_
                  refine W_ret ?_
                  refine ⟨_, _, res_run (rs := [.tmp 6]) (vs := [(.bool (decide (d ≤ 1000000)))]) Tryd.results49 (.cons (.tmp rfl) .nil) rfl, ?_⟩
                  refine ⟨_, rfl, ?_⟩
                  refine L_guard rfl rfl rfl rfl c13 ?_
                  refine L_val (v := (.bool (!(decide (d ≤ 1000000))))) (w' := w) rfl rfl rfl rfl ?_
                  refine L_val (v := (.bool (!(decide (d ≤ 1000000))))) (w' := w) rfl rfl rfl (x_pick rfl rfl (by rw [c13]; rfl)) ?_
                  refine L_nil ?_
                  rcases Bool.eq_false_or_eq_true (decide (d ≤ 1000000)) with c18 | c18
                  · skip
                    have q19 := of_decide_eq_true c18
                    refine W_cond_false (by show Value.bool _ = _; exact congrArg Value.bool (by rw [c18]; rfl)) ?_
                    refine W_skip ?_
                    refine W_seq ?_
                    refine W_region_lit ?_
                    refine L_val (v := (.int .i64 a)) (w' := w) rfl rfl rfl rfl ?_
                    refine L_val (v := (.int .i64 b)) (w' := w) rfl rfl rfl rfl ?_
                    refine L_val (v := (.int .i64 c)) (w' := w) rfl rfl rfl rfl ?_
                    refine L_val (v := (.int .i64 d)) (w' := w) rfl rfl rfl rfl ?_
                    refine L_val (v := (.agg #[(.int .i64 a), (.int .i64 b), (.int .i64 c), (.int .i64 d), (.slice none 0 0), (.slice none 0 0)])) (w' := w) rfl rfl rfl (by kernel_rfl) ?_
                    refine L_new hst (v := fun b => ptr b 0) (ob := .cells #[(.int .i64 a), (.int .i64 b), (.int .i64 c), (.int .i64 d), (.slice none 0 0), (.slice none 0 0)] 41 (0, 0)) rfl rfl rfl (by kernel_rfl) (fun b20 w21 hst22 => ?_)
                    refine L_val (v := (ptr b20 0)) (w' := w21) rfl rfl rfl rfl ?_
                    refine L_val (v := (.int .i64 0)) (w' := w21) rfl rfl rfl rfl ?_
                    refine L_nil ?_
                    refine W_ret ?_
                    refine ⟨_, _, res_run (rs := [.tmp 8, .tmp 9]) (vs := [(ptr b20 0), (.int .i64 0)]) Tryd.results25 (.cons (.tmp rfl) (.cons (.tmp rfl) .nil)) rfl, ?_⟩
                    exfalso; omega
                  · skip
                    have q23 := of_decide_eq_false c18
                    refine W_cond_true (by show Value.bool _ = _; exact congrArg Value.bool (by rw [c18]; rfl)) ?_
                    refine W_seq ?_
                    refine W_region_lit ?_
                    refine L_val (v := (.pointer none)) (w' := w) rfl rfl rfl rfl ?_
                    refine L_val (v := (.int .i64 1)) (w' := w) rfl rfl rfl rfl ?_
                    refine L_nil ?_
                    refine W_ret ?_
                    refine ⟨_, _, res_run (rs := [.tmp 8, .tmp 9]) (vs := [(.pointer none), (.int .i64 1)]) Tryd.results25 (.cons (.tmp rfl) (.cons (.tmp rfl) .nil)) rfl, ?_⟩
                    exact ⟨rfl, hst.grow⟩
                · skip
                  have q24 := of_decide_eq_false c16
                  refine L_unwanted rfl rfl rfl rfl (by rw [c16]; try rfl) rfl rfl ?_
                  refine L_unwanted rfl rfl rfl rfl (by rw [c16]; try rfl) rfl rfl ?_
                  refine L_unwanted rfl rfl rfl rfl (by rw [c16]; try rfl) rfl rfl ?_
                  refine L_val (v := (.bool false)) (w' := w) rfl rfl rfl (x_pick rfl rfl (by rw [c16]; rfl)) ?_
                  refine L_val (v := (.bool false)) (w' := w) rfl rfl rfl rfl ?_
                  refine L_nil ?_
                  refine W_ret ?_
                  refine ⟨_, _, res_run (rs := [.tmp 6]) (vs := [(.bool false)]) Tryd.results49 (.cons (.tmp rfl) .nil) rfl, ?_⟩
                  refine ⟨_, rfl, ?_⟩
                  refine L_guard rfl rfl rfl rfl c13 ?_
                  refine L_val (v := (.bool true)) (w' := w) rfl rfl rfl rfl ?_
                  refine L_val (v := (.bool true)) (w' := w) rfl rfl rfl (x_pick rfl rfl (by rw [c13]; rfl)) ?_
                  refine L_nil ?_
                  refine W_cond_true (by show Value.bool _ = _; exact congrArg Value.bool rfl) ?_
                  refine W_seq ?_
                  refine W_region_lit ?_
                  refine L_val (v := (.pointer none)) (w' := w) rfl rfl rfl rfl ?_
                  refine L_val (v := (.int .i64 1)) (w' := w) rfl rfl rfl rfl ?_
                  refine L_nil ?_
                  refine W_ret ?_
                  refine ⟨_, _, res_run (rs := [.tmp 8, .tmp 9]) (vs := [(.pointer none), (.int .i64 1)]) Tryd.results25 (.cons (.tmp rfl) (.cons (.tmp rfl) .nil)) rfl, ?_⟩
                  exact ⟨rfl, hst.grow⟩
            · skip
              have q25 := of_decide_eq_false c11
              refine L_unwanted rfl rfl rfl rfl (by rw [c11]; try rfl) rfl rfl ?_
              refine L_unwanted rfl rfl rfl rfl (by rw [c11]; try rfl) rfl rfl ?_
              refine L_unwanted rfl rfl rfl rfl (by rw [c11]; try rfl) rfl rfl ?_
              refine L_val (v := (.bool true)) (w' := w) rfl rfl rfl (x_pick rfl rfl (by rw [c11]; rfl)) ?_
              refine L_val (v := (.bool true)) (w' := w) rfl rfl rfl rfl ?_
              refine L_unwanted rfl rfl rfl rfl rfl rfl rfl ?_
              refine L_unwanted rfl rfl rfl rfl rfl rfl rfl ?_
              refine L_unwanted rfl rfl rfl rfl rfl rfl rfl ?_
              refine L_val (v := (.bool true)) (w' := w) rfl rfl rfl rfl ?_
              refine L_nil ?_
              refine W_cond_true (by show Value.bool _ = _; exact congrArg Value.bool rfl) ?_
              refine W_seq ?_
              refine W_region_lit ?_
              refine L_val (v := (.pointer none)) (w' := w) rfl rfl rfl rfl ?_
              refine L_val (v := (.int .i64 1)) (w' := w) rfl rfl rfl rfl ?_
              refine L_nil ?_
              refine W_ret ?_
              refine ⟨_, _, res_run (rs := [.tmp 8, .tmp 9]) (vs := [(.pointer none), (.int .i64 1)]) Tryd.results25 (.cons (.tmp rfl) (.cons (.tmp rfl) .nil)) rfl, ?_⟩
              exact ⟨rfl, hst.grow⟩
          · skip
            have q26 := of_decide_eq_false c9
            refine L_unwanted rfl rfl rfl rfl (by rw [c9]; try rfl) rfl rfl ?_
            refine L_unwanted rfl rfl rfl rfl (by rw [c9]; try rfl) rfl rfl ?_
            refine L_unwanted rfl rfl rfl rfl (by rw [c9]; try rfl) rfl rfl ?_
            refine L_val (v := (.bool false)) (w' := w) rfl rfl rfl (x_pick rfl rfl (by rw [c9]; rfl)) ?_
            refine L_val (v := (.bool false)) (w' := w) rfl rfl rfl rfl ?_
            refine L_nil ?_
            refine W_ret ?_
            refine ⟨_, _, res_run (rs := [.tmp 6]) (vs := [(.bool false)]) Tryd.results49 (.cons (.tmp rfl) .nil) rfl, ?_⟩
            refine ⟨_, rfl, ?_⟩
            refine L_guard rfl rfl rfl rfl (by rw [c7]; rfl) ?_
            refine L_val (v := (.bool true)) (w' := w) rfl rfl rfl rfl ?_
            refine L_val (v := (.bool true)) (w' := w) rfl rfl rfl (x_pick rfl rfl (by rw [c7]; rfl)) ?_
            refine L_val (v := (.bool true)) (w' := w) rfl rfl rfl rfl ?_
            refine L_unwanted rfl rfl rfl rfl rfl rfl rfl ?_
            refine L_unwanted rfl rfl rfl rfl rfl rfl rfl ?_
            refine L_unwanted rfl rfl rfl rfl rfl rfl rfl ?_
            refine L_val (v := (.bool true)) (w' := w) rfl rfl rfl rfl ?_
            refine L_val (v := (.bool true)) (w' := w) rfl rfl rfl rfl ?_
            refine L_unwanted rfl rfl rfl rfl rfl rfl rfl ?_
            refine L_unwanted rfl rfl rfl rfl rfl rfl rfl ?_
            refine L_unwanted rfl rfl rfl rfl rfl rfl rfl ?_
            refine L_val (v := (.bool true)) (w' := w) rfl rfl rfl rfl ?_
            refine L_nil ?_
            refine W_cond_true (by show Value.bool _ = _; exact congrArg Value.bool rfl) ?_
            refine W_seq ?_
            refine W_region_lit ?_
            refine L_val (v := (.pointer none)) (w' := w) rfl rfl rfl rfl ?_
            refine L_val (v := (.int .i64 1)) (w' := w) rfl rfl rfl rfl ?_
            refine L_nil ?_
            refine W_ret ?_
            refine ⟨_, _, res_run (rs := [.tmp 8, .tmp 9]) (vs := [(.pointer none), (.int .i64 1)]) Tryd.results25 (.cons (.tmp rfl) (.cons (.tmp rfl) .nil)) rfl, ?_⟩
            exact ⟨rfl, hst.grow⟩
        · skip
          have q27 := of_decide_eq_false c7
          refine L_unwanted rfl rfl rfl rfl (by rw [c7]; try rfl) rfl rfl ?_
          refine L_unwanted rfl rfl rfl rfl (by rw [c7]; try rfl) rfl rfl ?_
          refine L_unwanted rfl rfl rfl rfl (by rw [c7]; try rfl) rfl rfl ?_
          refine L_val (v := (.bool true)) (w' := w) rfl rfl rfl (x_pick rfl rfl (by rw [c7]; rfl)) ?_
          refine L_val (v := (.bool true)) (w' := w) rfl rfl rfl rfl ?_
          refine L_unwanted rfl rfl rfl rfl rfl rfl rfl ?_
          refine L_unwanted rfl rfl rfl rfl rfl rfl rfl ?_
          refine L_unwanted rfl rfl rfl rfl rfl rfl rfl ?_
          refine L_val (v := (.bool true)) (w' := w) rfl rfl rfl rfl ?_
          refine L_val (v := (.bool true)) (w' := w) rfl rfl rfl rfl ?_
          refine L_unwanted rfl rfl rfl rfl rfl rfl rfl ?_
          refine L_unwanted rfl rfl rfl rfl rfl rfl rfl ?_
          refine L_unwanted rfl rfl rfl rfl rfl rfl rfl ?_
          refine L_val (v := (.bool true)) (w' := w) rfl rfl rfl rfl ?_
          refine L_nil ?_
          refine W_cond_true (by show Value.bool _ = _; exact congrArg Value.bool rfl) ?_
          refine W_seq ?_
          refine W_region_lit ?_
          refine L_val (v := (.pointer none)) (w' := w) rfl rfl rfl rfl ?_
          refine L_val (v := (.int .i64 1)) (w' := w) rfl rfl rfl rfl ?_
          refine L_nil ?_
          refine W_ret ?_
          refine ⟨_, _, res_run (rs := [.tmp 8, .tmp 9]) (vs := [(.pointer none), (.int .i64 1)]) Tryd.results25 (.cons (.tmp rfl) (.cons (.tmp rfl) .nil)) rfl, ?_⟩
          exact ⟨rfl, hst.grow⟩
      · skip
        have q28 := of_decide_eq_false c5
        refine L_unwanted rfl rfl rfl rfl (by rw [c5]; try rfl) rfl rfl ?_
        refine L_unwanted rfl rfl rfl rfl (by rw [c5]; try rfl) rfl rfl ?_
        refine L_unwanted rfl rfl rfl rfl (by rw [c5]; try rfl) rfl rfl ?_
        refine L_val (v := (.bool false)) (w' := w) rfl rfl rfl (x_pick rfl rfl (by rw [c5]; rfl)) ?_
        refine L_val (v := (.bool false)) (w' := w) rfl rfl rfl rfl ?_
        refine L_nil ?_
        refine W_ret ?_
        refine ⟨_, _, res_run (rs := [.tmp 6]) (vs := [(.bool false)]) Tryd.results49 (.cons (.tmp rfl) .nil) rfl, ?_⟩
        refine ⟨_, rfl, ?_⟩
        refine L_guard rfl rfl rfl rfl (by rw [c3]; rfl) ?_
        refine L_val (v := (.bool true)) (w' := w) rfl rfl rfl rfl ?_
        refine L_val (v := (.bool true)) (w' := w) rfl rfl rfl (x_pick rfl rfl (by rw [c3]; rfl)) ?_
        refine L_val (v := (.bool true)) (w' := w) rfl rfl rfl rfl ?_
        refine L_unwanted rfl rfl rfl rfl rfl rfl rfl ?_
        refine L_unwanted rfl rfl rfl rfl rfl rfl rfl ?_
        refine L_unwanted rfl rfl rfl rfl rfl rfl rfl ?_
        refine L_val (v := (.bool true)) (w' := w) rfl rfl rfl rfl ?_
        refine L_val (v := (.bool true)) (w' := w) rfl rfl rfl rfl ?_
        refine L_unwanted rfl rfl rfl rfl rfl rfl rfl ?_
        refine L_unwanted rfl rfl rfl rfl rfl rfl rfl ?_
        refine L_unwanted rfl rfl rfl rfl rfl rfl rfl ?_
        refine L_val (v := (.bool true)) (w' := w) rfl rfl rfl rfl ?_
        refine L_val (v := (.bool true)) (w' := w) rfl rfl rfl rfl ?_
        refine L_unwanted rfl rfl rfl rfl rfl rfl rfl ?_
        refine L_unwanted rfl rfl rfl rfl rfl rfl rfl ?_
        refine L_unwanted rfl rfl rfl rfl rfl rfl rfl ?_
        refine L_val (v := (.bool true)) (w' := w) rfl rfl rfl rfl ?_
        refine L_nil ?_
        refine W_cond_true (by show Value.bool _ = _; exact congrArg Value.bool rfl) ?_
        refine W_seq ?_
        refine W_region_lit ?_
        refine L_val (v := (.pointer none)) (w' := w) rfl rfl rfl rfl ?_
        refine L_val (v := (.int .i64 1)) (w' := w) rfl rfl rfl rfl ?_
        refine L_nil ?_
        refine W_ret ?_
        refine ⟨_, _, res_run (rs := [.tmp 8, .tmp 9]) (vs := [(.pointer none), (.int .i64 1)]) Tryd.results25 (.cons (.tmp rfl) (.cons (.tmp rfl) .nil)) rfl, ?_⟩
        exact ⟨rfl, hst.grow⟩
    · skip
      have q29 := of_decide_eq_false c3
      refine L_unwanted rfl rfl rfl rfl (by rw [c3]; try rfl) rfl rfl ?_
      refine L_unwanted rfl rfl rfl rfl (by rw [c3]; try rfl) rfl rfl ?_
      refine L_unwanted rfl rfl rfl rfl (by rw [c3]; try rfl) rfl rfl ?_
      refine L_val (v := (.bool true)) (w' := w) rfl rfl rfl (x_pick rfl rfl (by rw [c3]; rfl)) ?_
      refine L_val (v := (.bool true)) (w' := w) rfl rfl rfl rfl ?_
      refine L_unwanted rfl rfl rfl rfl rfl rfl rfl ?_
      refine L_unwanted rfl rfl rfl rfl rfl rfl rfl ?_
      refine L_unwanted rfl rfl rfl rfl rfl rfl rfl ?_
      refine L_val (v := (.bool true)) (w' := w) rfl rfl rfl rfl ?_
      refine L_val (v := (.bool true)) (w' := w) rfl rfl rfl rfl ?_
      refine L_unwanted rfl rfl rfl rfl rfl rfl rfl ?_
      refine L_unwanted rfl rfl rfl rfl rfl rfl rfl ?_
      refine L_unwanted rfl rfl rfl rfl rfl rfl rfl ?_
      refine L_val (v := (.bool true)) (w' := w) rfl rfl rfl rfl ?_
      refine L_val (v := (.bool true)) (w' := w) rfl rfl rfl rfl ?_
      refine L_unwanted rfl rfl rfl rfl rfl rfl rfl ?_
      refine L_unwanted rfl rfl rfl rfl rfl rfl rfl ?_
      refine L_unwanted rfl rfl rfl rfl rfl rfl rfl ?_
      refine L_val (v := (.bool true)) (w' := w) rfl rfl rfl rfl ?_
      refine L_nil ?_
      refine W_cond_true (by show Value.bool _ = _; exact congrArg Value.bool rfl) ?_
      refine W_seq ?_
      refine W_region_lit ?_
      refine L_val (v := (.pointer none)) (w' := w) rfl rfl rfl rfl ?_
      refine L_val (v := (.int .i64 1)) (w' := w) rfl rfl rfl rfl ?_
      refine L_nil ?_
      refine W_ret ?_
      refine ⟨_, _, res_run (rs := [.tmp 8, .tmp 9]) (vs := [(.pointer none), (.int .i64 1)]) Tryd.results25 (.cons (.tmp rfl) (.cons (.tmp rfl) .nil)) rfl, ?_⟩
      exact ⟨rfl, hst.grow⟩
  · skip
    have q30 := of_decide_eq_false c1
    refine L_unwanted rfl rfl rfl rfl (by rw [c1]; try rfl) rfl rfl ?_
    refine L_unwanted rfl rfl rfl rfl (by rw [c1]; try rfl) rfl rfl ?_
    refine L_unwanted rfl rfl rfl rfl (by rw [c1]; try rfl) rfl rfl ?_
    refine L_val (v := (.bool false)) (w' := w) rfl rfl rfl (x_pick rfl rfl (by rw [c1]; rfl)) ?_
    refine L_val (v := (.bool false)) (w' := w) rfl rfl rfl rfl ?_
    refine L_nil ?_
    refine W_ret ?_
    refine ⟨_, _, res_run (rs := [.tmp 6]) (vs := [(.bool false)]) Tryd.results49 (.cons (.tmp rfl) .nil) rfl, ?_⟩
    refine ⟨_, rfl, ?_⟩
    refine L_val (v := (.bool true)) (w' := w) rfl rfl rfl rfl ?_
    refine L_val (v := (.bool true)) (w' := w) rfl rfl rfl rfl ?_
    refine L_unwanted rfl rfl rfl rfl rfl rfl rfl ?_
    refine L_unwanted rfl rfl rfl rfl rfl rfl rfl ?_
    refine L_unwanted rfl rfl rfl rfl rfl rfl rfl ?_
    refine L_val (v := (.bool true)) (w' := w) rfl rfl rfl rfl ?_
    refine L_val (v := (.bool true)) (w' := w) rfl rfl rfl rfl ?_
    refine L_unwanted rfl rfl rfl rfl rfl rfl rfl ?_
    refine L_unwanted rfl rfl rfl rfl rfl rfl rfl ?_
    refine L_unwanted rfl rfl rfl rfl rfl rfl rfl ?_
    refine L_val (v := (.bool true)) (w' := w) rfl rfl rfl rfl ?_
    refine L_val (v := (.bool true)) (w' := w) rfl rfl rfl rfl ?_
    refine L_unwanted rfl rfl rfl rfl rfl rfl rfl ?_
    refine L_unwanted rfl rfl rfl rfl rfl rfl rfl ?_
    refine L_unwanted rfl rfl rfl rfl rfl rfl rfl ?_
    refine L_val (v := (.bool true)) (w' := w) rfl rfl rfl rfl ?_
    refine L_val (v := (.bool true)) (w' := w) rfl rfl rfl rfl ?_
    refine L_unwanted rfl rfl rfl rfl rfl rfl rfl ?_
    refine L_unwanted rfl rfl rfl rfl rfl rfl rfl ?_
    refine L_unwanted rfl rfl rfl rfl rfl rfl rfl ?_
    refine L_val (v := (.bool true)) (w' := w) rfl rfl rfl rfl ?_
    refine L_nil ?_
    refine W_cond_true (by show Value.bool _ = _; exact congrArg Value.bool rfl) ?_
    refine W_seq ?_
    refine W_region_lit ?_
    refine L_val (v := (.pointer none)) (w' := w) rfl rfl rfl rfl ?_
    refine L_val (v := (.int .i64 1)) (w' := w) rfl rfl rfl rfl ?_
    refine L_nil ?_
    refine W_ret ?_
    refine ⟨_, _, res_run (rs := [.tmp 8, .tmp 9]) (vs := [(.pointer none), (.int .i64 1)]) Tryd.results25 (.cons (.tmp rfl) (.cons (.tmp rfl) .nil)) rfl, ?_⟩
    exact ⟨rfl, hst.grow⟩

theorem NewR_ok {w : World} {R : Hp} {a b c d : Int} (hR : Le R (hp w)) (ha : I64 a) (hb : I64 b) (hc : I64 c) (hd : I64 d) (hok : 1 ≤ a ∧ a ≤ 1000 ∧ 1 ≤ b ∧ b ≤ 1000000 ∧ b + 1 ≤ c ∧ c ≤ 1000000 ∧ 1 ≤ d ∧ d ≤ 1000000) :
    Calls Tryd.prog 25 #[int a, int b, int c, int d] w fun e w' => ∃ q, e = .returned (.tuple #[ptr q 0, int 0]) ∧ Grow w w' := by
  obtain ⟨ha1, ha2⟩ := ha
  obtain ⟨hb1, hb2⟩ := hb
  obtain ⟨hc1, hc2⟩ := hc
  obtain ⟨hd1, hd2⟩ := hd
  have hst := Step.ro hR
  refine calls_of_W (n := 39) Tryd.func25 rfl Tryd.ntmps25 (Nat.le_of_ble_eq_true rfl) ?_
  refine W_seq ?_
  refine W_region_lit ?_
  refine L_val (v := (.pointer none)) (w' := w) rfl rfl rfl rfl ?_
  refine L_val (v := (.int .i64 0)) (w' := w) rfl rfl rfl rfl ?_
  refine L_nil ?_
  refine W_seq ?_
  refine W_seq ?_
  refine W_region_lit ?_
  refine L_val (v := (.int .i64 a)) (w' := w) rfl rfl rfl rfl ?_
  refine L_call rfl rfl rfl (x_call (vs := #[(.int .i64 a), (.int .i64 1), (.int .i64 1000)]) rfl rfl (by kernel_rfl) ent_49) ?_ (fun _ _ h => h)
  refine calls_of_W (n := 15) Tryd.func49 rfl Tryd.ntmps49 (Nat.le_of_ble_eq_true rfl) ?_
  refine W_seq ?_
  refine W_region_lit ?_
  refine L_val (v := (.bool false)) (w' := w) rfl rfl rfl rfl ?_
  refine L_nil ?_
  refine W_seq ?_
  refine W_region_lit ?_
  refine L_val (v := (.int .i64 a)) (w' := w) rfl rfl rfl rfl ?_
  refine L_val (v := (.int .i64 1)) (w' := w) rfl rfl rfl rfl ?_
  refine L_val (v := (.bool (decide (a ≥ 1)))) (w' := w) rfl rfl rfl (by kernel_rfl) ?_
  refine L_val (v := (.bool (decide (a ≥ 1)))) (w' := w) rfl rfl rfl rfl ?_
  rcases Bool.eq_false_or_eq_true (decide (a ≥ 1)) with c1 | c1
  · skip
    have q2 := of_decide_eq_true c1
    refine L_guard rfl rfl rfl rfl c1 ?_
    refine L_val (v := (.int .i64 a)) (w' := w) rfl rfl rfl rfl ?_
    refine L_guard rfl rfl rfl rfl c1 ?_
    refine L_val (v := (.int .i64 1000)) (w' := w) rfl rfl rfl rfl ?_
    refine L_guard rfl rfl rfl rfl c1 ?_
    refine L_val (v := (.bool (decide (a ≤ 1000)))) (w' := w) rfl rfl rfl (by kernel_rfl) ?_
    refine L_val (v := (.bool (decide (a ≤ 1000)))) (w' := w) rfl rfl rfl (x_pick rfl rfl (by rw [c1]; rfl)) ?_
    refine L_val (v := (.bool (decide (a ≤ 1000)))) (w' := w) rfl rfl rfl rfl ?_
    refine L_nil ?_
    refine W_ret ?_
    refine ⟨_, _, res_run (rs := [.tmp 6]) (vs := [(.bool (decide (a ≤ 1000)))]) Tryd.results49 (.cons (.tmp rfl) .nil) rfl, ?_⟩
    refine ⟨_, rfl, ?_⟩
    refine L_val (v := (.bool (!(decide (a ≤ 1000))))) (w' := w) rfl rfl rfl rfl ?_
    refine L_val (v := (.bool (!(decide (a ≤ 1000))))) (w' := w) rfl rfl rfl rfl ?_
    rcases Bool.eq_false_or_eq_true (decide (a ≤ 1000)) with c3 | c3
    · skip
      have q4 := of_decide_eq_true c3
      refine L_guard rfl rfl rfl rfl (by rw [c3]; rfl) ?_
      refine L_val (v := (.int .i64 b)) (w' := w) rfl rfl rfl rfl ?_
      refine L_guard rfl rfl rfl rfl (by rw [c3]; rfl) ?_
      refine L_call rfl rfl rfl (x_call (vs := #[(.int .i64 b), (.int .i64 1), (.int .i64 1000000)]) rfl rfl (by kernel_rfl) ent_49) ?_ (fun _ _ h => h)
      refine calls_of_W (n := 15) Tryd.func49 rfl Tryd.ntmps49 (Nat.le_of_ble_eq_true rfl) ?_
      refine W_seq ?_
      refine W_region_lit ?_
      refine L_val (v := (.bool false)) (w' := w) rfl rfl rfl rfl ?_
      refine L_nil ?_
      refine W_seq ?_
      refine W_region_lit ?_
      refine L_val (v := (.int .i64 b)) (w' := w) rfl rfl rfl rfl ?_
      refine L_val (v := (.int .i64 1)) (w' := w) rfl rfl rfl rfl ?_
      refine L_val (v := (.bool (decide (b ≥ 1)))) (w' := w) rfl rfl rfl (by kernel_rfl) ?_
      refine L_val (v := (.bool (decide (b ≥ 1)))) (w' := w) rfl rfl rfl rfl ?_
      rcases Bool.eq_false_or_eq_true (decide (b ≥ 1)) with c5 | c5
      · skip
        have q6 := of_decide_eq_true c5
        refine L_guard rfl rfl rfl rfl c5 ?_
        refine L_val (v := (.int .i64 b)) (w' := w) rfl rfl rfl rfl ?_
        refine L_guard rfl rfl rfl rfl c5 ?_
        refine L_val (v := (.int .i64 1000000)) (w' := w) rfl rfl rfl rfl ?_
        refine L_guard rfl rfl rfl rfl c5 ?_
        refine L_val (v := (.bool (decide (b ≤ 1000000)))) (w' := w) rfl rfl rfl (by kernel_rfl) ?_
        refine L_val (v := (.bool (decide (b ≤ 1000000)))) (w' := w) rfl rfl rfl (x_pick rfl rfl (by rw [c5]; rfl)) ?_
        refine L_val (v := (.bool (decide (b ≤ 1000000)))) (w' := w) rfl rfl rfl rfl ?_
        refine L_nil ?_
        refine W_ret ?_
        refine ⟨_, _, res_run (rs := [.tmp 6]) (vs := [(.bool (decide (b ≤ 1000000)))]) Tryd.results49 (.cons (.tmp rfl) .nil) rfl, ?_⟩
        refine ⟨_, rfl, ?_⟩
        refine L_guard rfl rfl rfl rfl (by rw [c3]; rfl) ?_
        refine L_val (v := (.bool (!(decide (b ≤ 1000000))))) (w' := w) rfl rfl rfl rfl ?_
        refine L_val (v := (.bool (!(decide (b ≤ 1000000))))) (w' := w) rfl rfl rfl (x_pick rfl rfl (by rw [c3]; rfl)) ?_
        refine L_val (v := (.bool (!(decide (b ≤ 1000000))))) (w' := w) rfl rfl rfl rfl ?_
        rcases Bool.eq_false_or_eq_true (decide (b ≤ 1000000)) with c7 | c7
        · skip
          have q8 := of_decide_eq_true c7
          refine L_guard rfl rfl rfl rfl (by rw [c7]; rfl) ?_
          refine L_val (v := (.int .i64 c)) (w' := w) rfl rfl rfl rfl ?_
          refine L_guard rfl rfl rfl rfl (by rw [c7]; rfl) ?_
          refine L_call rfl rfl rfl (x_call (vs := #[(.int .i64 c), (.int .i64 1), (.int .i64 1000000)]) rfl rfl (by kernel_rfl) ent_49) ?_ (fun _ _ h => h)
          refine calls_of_W (n := 15) Tryd.func49 rfl Tryd.ntmps49 (Nat.le_of_ble_eq_true rfl) ?_
          refine W_seq ?_
          refine W_region_lit ?_
          refine L_val (v := (.bool false)) (w' := w) rfl rfl rfl rfl ?_
          refine L_nil ?_
          refine W_seq ?_
          refine W_region_lit ?_
          refine L_val (v := (.int .i64 c)) (w' := w) rfl rfl rfl rfl ?_
          refine L_val (v := (.int .i64 1)) (w' := w) rfl rfl rfl rfl ?_
          refine L_val (v := (.bool (decide (c ≥ 1)))) (w' := w) rfl rfl rfl (by kernel_rfl) ?_
          refine L_val (v := (.bool (decide (c ≥ 1)))) (w' := w) rfl rfl rfl rfl ?_
          rcases Bool.eq_false_or_eq_true (decide (c ≥ 1)) with c9 | c9
          · skip
            have q10 := of_decide_eq_true c9
            refine L_guard rfl rfl rfl rfl c9 ?_
            refine L_val (v := (.int .i64 c)) (w' := w) rfl rfl rfl rfl ?_
            refine L_guard rfl rfl rfl rfl c9 ?_
            refine L_val (v := (.int .i64 1000000)) (w' := w) rfl rfl rfl rfl ?_
            refine L_guard rfl rfl rfl rfl c9 ?_
            refine L_val (v := (.bool (decide (c ≤ 1000000)))) (w' := w) rfl rfl rfl (by kernel_rfl) ?_
            refine L_val (v := (.bool (decide (c ≤ 1000000)))) (w' := w) rfl rfl rfl (x_pick rfl rfl (by rw [c9]; rfl)) ?_
            refine L_val (v := (.bool (decide (c ≤ 1000000)))) (w' := w) rfl rfl rfl rfl ?_
            refine L_nil ?_
            refine W_ret ?_
            refine ⟨_, _, res_run (rs := [.tmp 6]) (vs := [(.bool (decide (c ≤ 1000000)))]) Tryd.results49 (.cons (.tmp rfl) .nil) rfl, ?_⟩
            refine ⟨_, rfl, ?_⟩
            refine L_guard rfl rfl rfl rfl (by rw [c7]; rfl) ?_
            refine L_val (v := (.bool (!(decide (c ≤ 1000000))))) (w' := w) rfl rfl rfl rfl ?_
            refine L_val (v := (.bool (!(decide (c ≤ 1000000))))) (w' := w) rfl rfl rfl (x_pick rfl rfl (by rw [c7]; rfl)) ?_
            refine L_val (v := (.bool (!(decide (c ≤ 1000000))))) (w' := w) rfl rfl rfl rfl ?_
            rcases Bool.eq_false_or_eq_true (decide (c ≤ 1000000)) with c11 | c11
            · skip
              have q12 := of_decide_eq_true c11
              refine L_guard rfl rfl rfl rfl (by rw [c11]; rfl) ?_
              refine L_val (v := (.int .i64 c)) (w' := w) rfl rfl rfl rfl ?_
              refine L_guard rfl rfl rfl rfl (by rw [c11]; rfl) ?_
              refine L_val (v := (.int .i64 b)) (w' := w) rfl rfl rfl rfl ?_
              refine L_guard rfl rfl rfl rfl (by rw [c11]; rfl) ?_
              refine L_val (v := (.bool (decide (c ≤ b)))) (w' := w) rfl rfl rfl (by kernel_rfl) ?_
              refine L_val (v := (.bool (decide (c ≤ b)))) (w' := w) rfl rfl rfl (x_pick rfl rfl (by rw [c11]; rfl)) ?_
              refine L_val (v := (.bool (decide (c ≤ b)))) (w' := w) rfl rfl rfl rfl ?_
              rcases Bool.eq_false_or_eq_true (decide (c ≤ b)) with c13 | c13
              · skip
                have q14 := of_decide_eq_true c13
                refine L_unwanted rfl rfl rfl rfl (by rw [c13]; try rfl) rfl rfl ?_
                refine L_unwanted rfl rfl rfl rfl (by rw [c13]; try rfl) rfl rfl ?_
                refine L_unwanted rfl rfl rfl rfl (by rw [c13]; try rfl) rfl rfl ?_
                refine L_val (v := (.bool true)) (w' := w) rfl rfl rfl (x_pick rfl rfl (by rw [c13]; rfl)) ?_
                refine L_nil ?_
                refine W_cond_true (by show Value.bool _ = _; exact congrArg Value.bool rfl) ?_
                refine W_seq ?_
                refine W_region_lit ?_
                refine L_val (v := (.pointer none)) (w' := w) rfl rfl rfl rfl ?_
                refine L_val (v := (.int .i64 1)) (w' := w) rfl rfl rfl rfl ?_
                refine L_nil ?_
                refine W_ret ?_
                refine ⟨_, _, res_run (rs := [.tmp 8, .tmp 9]) (vs := [(.pointer none), (.int .i64 1)]) Tryd.results25 (.cons (.tmp rfl) (.cons (.tmp rfl) .nil)) rfl, ?_⟩
                exfalso; omega
              · skip
                have q15 := of_decide_eq_false c13
                refine L_guard rfl rfl rfl rfl c13 ?_
                refine L_val (v := (.int .i64 d)) (w' := w) rfl rfl rfl rfl ?_
                refine L_guard rfl rfl rfl rfl c13 ?_
                refine L_call rfl rfl rfl (x_call (vs := #[(.int .i64 d), (.int .i64 1), (.int .i64 1000000)]) rfl rfl (by kernel_rfl) ent_49) ?_ (fun _ _ h => h)
                refine calls_of_W (n := 15) Tryd.func49 rfl Tryd.ntmps49 (Nat.le_of_ble_eq_true rfl) ?_
                refine W_seq ?_
                refine W_region_lit ?_
                refine L_val (v := (.bool false)) (w' := w) rfl rfl rfl rfl ?_
                refine L_nil ?_
                refine W_seq ?_
                refine W_region_lit ?_
                refine L_val (v := (.int .i64 d)) (w' := w) rfl rfl rfl rfl ?_
                refine L_val (v := (.int .i64 1)) (w' := w) rfl rfl rfl rfl ?_
                refine L_val (v := (.bool (decide (d ≥ 1)))) (w' := w) rfl rfl rfl (by kernel_rfl) ?_
                refine L_val (v := (.bool (decide (d ≥ 1)))) (w' := w) rfl rfl rfl rfl ?_
                rcases Bool.eq_false_or_eq_true (decide (d ≥ 1)) with c16 | c16
                · skip
                  have q17 := of_decide_eq_true c16
                  refine L_guard rfl rfl rfl rfl c16 ?_
                  refine L_val (v := (.int .i64 d)) (w' := w) rfl rfl rfl rfl ?_
                  refine L_guard rfl rfl rfl rfl c16 ?_
                  refine L_val (v := (.int .i64 1000000)) (w' := w) rfl rfl rfl rfl ?_
                  refine L_guard rfl rfl rfl rfl c16 ?_
                  refine L_val (v := (.bool (decide (d ≤ 1000000)))) (w' := w) rfl rfl rfl (by kernel_rfl) ?_
                  refine L_val (v := (.bool (decide (d ≤ 1000000)))) (w' := w) rfl rfl rfl (x_pick rfl rfl (by rw [c16]; rfl)) ?_
                  refine L_val (v := (.bool (decide (d ≤ 1000000)))) (w' := w) rfl rfl rfl rfl ?_
                  refine L_nil ?_
                  refine W_ret ?_
                  refine ⟨_, _, res_run (rs := [.tmp 6]) (vs := [(.bool (decide (d ≤ 1000000)))]) Tryd.results49 (.cons (.tmp rfl) .nil) rfl, ?_⟩
                  refine ⟨_, rfl, ?_⟩
                  refine L_guard rfl rfl rfl rfl c13 ?_
                  refine L_val (v := (.bool (!(decide (d ≤ 1000000))))) (w' := w) rfl rfl rfl rfl ?_
                  refine L_val (v := (.bool (!(decide (d ≤ 1000000))))) (w' := w) rfl rfl rfl (x_pick rfl rfl (by rw [c13]; rfl)) ?_
                  refine L_nil ?_
                  rcases Bool.eq_false_or_eq_true (decide (d ≤ 1000000)) with c18 | c18
                  · skip
                    have q19 := of_decide_eq_true c18
                    refine W_cond_false (by show Value.bool _ = _; exact congrArg Value.bool (by rw [c18]; rfl)) ?_
                    refine W_skip ?_
                    refine W_seq ?_
                    refine W_region_lit ?_
                    refine L_val (v := (.int .i64 a)) (w' := w) rfl rfl rfl rfl ?_
                    refine L_val (v := (.int .i64 b)) (w' := w) rfl rfl rfl rfl ?_
                    refine L_val (v := (.int .i64 c)) (w' := w) rfl rfl rfl rfl ?_
                    refine L_val (v := (.int .i64 d)) (w' := w) rfl rfl rfl rfl ?_
                    refine L_val (v := (.agg #[(.int .i64 a), (.int .i64 b), (.int .i64 c), (.int .i64 d), (.slice none 0 0), (.slice none 0 0)])) (w' := w) rfl rfl rfl (by kernel_rfl) ?_
                    refine L_new hst (v := fun b => ptr b 0) (ob := .cells #[(.int .i64 a), (.int .i64 b), (.int .i64 c), (.int .i64 d), (.slice none 0 0), (.slice none 0 0)] 41 (0, 0)) rfl rfl rfl (by kernel_rfl) (fun b20 w21 hst22 => ?_)
                    refine L_val (v := (ptr b20 0)) (w' := w21) rfl rfl rfl rfl ?_
                    refine L_val (v := (.int .i64 0)) (w' := w21) rfl rfl rfl rfl ?_
                    refine L_nil ?_
                    refine W_ret ?_
                    refine ⟨_, _, res_run (rs := [.tmp 8, .tmp 9]) (vs := [(ptr b20 0), (.int .i64 0)]) Tryd.results25 (.cons (.tmp rfl) (.cons (.tmp rfl) .nil)) rfl, ?_⟩
                    exact ⟨_, rfl, hst22.grow⟩
                  · skip
                    have q23 := of_decide_eq_false c18
                    refine W_cond_true (by show Value.bool _ = _; exact congrArg Value.bool (by rw [c18]; rfl)) ?_
                    refine W_seq ?_
                    refine W_region_lit ?_
                    refine L_val (v := (.pointer none)) (w' := w) rfl rfl rfl rfl ?_
                    refine L_val (v := (.int .i64 1)) (w' := w) rfl rfl rfl rfl ?_
                    refine L_nil ?_
                    refine W_ret ?_
                    refine ⟨_, _, res_run (rs := [.tmp 8, .tmp 9]) (vs := [(.pointer none), (.int .i64 1)]) Tryd.results25 (.cons (.tmp rfl) (.cons (.tmp rfl) .nil)) rfl, ?_⟩
                    exfalso; omega
                · skip
                  have q24 := of_decide_eq_false c16
                  refine L_unwanted rfl rfl rfl rfl (by rw [c16]; try rfl) rfl rfl ?_
                  refine L_unwanted rfl rfl rfl rfl (by rw [c16]; try rfl) rfl rfl ?_
                  refine L_unwanted rfl rfl rfl rfl (by rw [c16]; try rfl) rfl rfl ?_
                  refine L_val (v := (.bool false)) (w' := w) rfl rfl rfl (x_pick rfl rfl (by rw [c16]; rfl)) ?_
                  refine L_val (v := (.bool false)) (w' := w) rfl rfl rfl rfl ?_
                  refine L_nil ?_
                  refine W_ret ?_
                  refine ⟨_, _, res_run (rs := [.tmp 6]) (vs := [(.bool false)]) Tryd.results49 (.cons (.tmp rfl) .nil) rfl, ?_⟩
                  refine ⟨_, rfl, ?_⟩
                  refine L_guard rfl rfl rfl rfl c13 ?_
                  refine L_val (v := (.bool true)) (w' := w) rfl rfl rfl rfl ?_
                  refine L_val (v := (.bool true)) (w' := w) rfl rfl rfl (x_pick rfl rfl (by rw [c13]; rfl)) ?_
                  refine L_nil ?_
                  refine W_cond_true (by show Value.bool _ = _; exact congrArg Value.bool rfl) ?_
                  refine W_seq ?_
                  refine W_region_lit ?_
                  refine L_val (v := (.pointer none)) (w' := w) rfl rfl rfl rfl ?_
                  refine L_val (v := (.int .i64 1)) (w' := w) rfl rfl rfl rfl ?_
                  refine L_nil ?_
                  refine W_ret ?_
                  refine ⟨_, _, res_run (rs := [.tmp 8, .tmp 9]) (vs := [(.pointer none), (.int .i64 1)]) Tryd.results25 (.cons (.tmp rfl) (.cons (.tmp rfl) .nil)) rfl, ?_⟩
                  exfalso; omega
            · skip
              have q25 := of_decide_eq_false c11
              refine L_unwanted rfl rfl rfl rfl (by rw [c11]; try rfl) rfl rfl ?_
              refine L_unwanted rfl rfl rfl rfl (by rw [c11]; try rfl) rfl rfl ?_
              refine L_unwanted rfl rfl rfl rfl (by rw [c11]; try rfl) rfl rfl ?_
              refine L_val (v := (.bool true)) (w' := w) rfl rfl rfl (x_pick rfl rfl (by rw [c11]; rfl)) ?_
              refine L_val (v := (.bool true)) (w' := w) rfl rfl rfl rfl ?_
              refine L_unwanted rfl rfl rfl rfl rfl rfl rfl ?_
              refine L_unwanted rfl rfl rfl rfl rfl rfl rfl ?_
              refine L_unwanted rfl rfl rfl rfl rfl rfl rfl ?_
              refine L_val (v := (.bool true)) (w' := w) rfl rfl rfl rfl ?_
              refine L_nil ?_
              refine W_cond_true (by show Value.bool _ = _; exact congrArg Value.bool rfl) ?_
              refine W_seq ?_
              refine W_region_lit ?_
              refine L_val (v := (.pointer none)) (w' := w) rfl rfl rfl rfl ?_
              refine L_val (v := (.int .i64 1)) (w' := w) rfl rfl rfl rfl ?_
              refine L_nil ?_
              refine W_ret ?_
              refine ⟨_, _, res_run (rs := [.tmp 8, .tmp 9]) (vs := [(.pointer none), (.int .i64 1)]) Tryd.results25 (.cons (.tmp rfl) (.cons (.tmp rfl) .nil)) rfl, ?_⟩
              exfalso; omega
          · skip
            have q26 := of_decide_eq_false c9
            refine L_unwanted rfl rfl rfl rfl (by rw [c9]; try rfl) rfl rfl ?_
            refine L_unwanted rfl rfl rfl rfl (by rw [c9]; try rfl) rfl rfl ?_
            refine L_unwanted rfl rfl rfl rfl (by rw [c9]; try rfl) rfl rfl ?_
            refine L_val (v := (.bool false)) (w' := w) rfl rfl rfl (x_pick rfl rfl (by rw [c9]; rfl)) ?_
            refine L_val (v := (.bool false)) (w' := w) rfl rfl rfl rfl ?_
            refine L_nil ?_
            refine W_ret ?_
            refine ⟨_, _, res_run (rs := [.tmp 6]) (vs := [(.bool false)]) Tryd.results49 (.cons (.tmp rfl) .nil) rfl, ?_⟩
            refine ⟨_, rfl, ?_⟩
            refine L_guard rfl rfl rfl rfl (by rw [c7]; rfl) ?_
            refine L_val (v := (.bool true)) (w' := w) rfl rfl rfl rfl ?_
            refine L_val (v := (.bool true)) (w' := w) rfl rfl rfl (x_pick rfl rfl (by rw [c7]; rfl)) ?_
            refine L_val (v := (.bool true)) (w' := w) rfl rfl rfl rfl ?_
            refine L_unwanted rfl rfl rfl rfl rfl rfl rfl ?_
            refine L_unwanted rfl rfl rfl rfl rfl rfl rfl ?_
            refine L_unwanted rfl rfl rfl rfl rfl rfl rfl ?_
            refine L_val (v := (.bool true)) (w' := w) rfl rfl rfl rfl ?_
            refine L_val (v := (.bool true)) (w' := w) rfl rfl rfl rfl ?_
            refine L_unwanted rfl rfl rfl rfl rfl rfl rfl ?_
            refine L_unwanted rfl rfl rfl rfl rfl rfl rfl ?_
            refine L_unwanted rfl rfl rfl rfl rfl rfl rfl ?_
            refine L_val (v := (.bool true)) (w' := w) rfl rfl rfl rfl ?_
            refine L_nil ?_
            refine W_cond_true (by show Value.bool _ = _; exact congrArg Value.bool rfl) ?_
            refine W_seq ?_
            refine W_region_lit ?_
            refine L_val (v := (.pointer none)) (w' := w) rfl rfl rfl rfl ?_
            refine L_val (v := (.int .i64 1)) (w' := w) rfl rfl rfl rfl ?_
            refine L_nil ?_
            refine W_ret ?_
            refine ⟨_, _, res_run (rs := [.tmp 8, .tmp 9]) (vs := [(.pointer none), (.int .i64 1)]) Tryd.results25 (.cons (.tmp rfl) (.cons (.tmp rfl) .nil)) rfl, ?_⟩
            exfalso; omega
        · skip
          have q27 := of_decide_eq_false c7
          refine L_unwanted rfl rfl rfl rfl (by rw [c7]; try rfl) rfl rfl ?_
          refine L_unwanted rfl rfl rfl rfl (by rw [c7]; try rfl) rfl rfl ?_
          refine L_unwanted rfl rfl rfl rfl (by rw [c7]; try rfl) rfl rfl ?_
          refine L_val (v := (.bool true)) (w' := w) rfl rfl rfl (x_pick rfl rfl (by rw [c7]; rfl)) ?_
          refine L_val (v := (.bool true)) (w' := w) rfl rfl rfl rfl ?_
          refine L_unwanted rfl rfl rfl rfl rfl rfl rfl ?_
          refine L_unwanted rfl rfl rfl rfl rfl rfl rfl ?_
          refine L_unwanted rfl rfl rfl rfl rfl rfl rfl ?_
          refine L_val (v := (.bool true)) (w' := w) rfl rfl rfl rfl ?_
          refine L_val (v := (.bool true)) (w' := w) rfl rfl rfl rfl ?_
          refine L_unwanted rfl rfl rfl rfl rfl rfl rfl ?_
          refine L_unwanted rfl rfl rfl rfl rfl rfl rfl ?_
          refine L_unwanted rfl rfl rfl rfl rfl rfl rfl ?_
          refine L_val (v := (.bool true)) (w' := w) rfl rfl rfl rfl ?_
          refine L_nil ?_
          refine W_cond_true (by show Value.bool _ = _; exact congrArg Value.bool rfl) ?_
          refine W_seq ?_
          refine W_region_lit ?_
          refine L_val (v := (.pointer none)) (w' := w) rfl rfl rfl rfl ?_
          refine L_val (v := (.int .i64 1)) (w' := w) rfl rfl rfl rfl ?_
          refine L_nil ?_
          refine W_ret ?_
          refine ⟨_, _, res_run (rs := [.tmp 8, .tmp 9]) (vs := [(.pointer none), (.int .i64 1)]) Tryd.results25 (.cons (.tmp rfl) (.cons (.tmp rfl) .nil)) rfl, ?_⟩
          exfalso; omega
      · skip
        have q28 := of_decide_eq_false c5
        refine L_unwanted rfl rfl rfl rfl (by rw [c5]; try rfl) rfl rfl ?_
        refine L_unwanted rfl rfl rfl rfl (by rw [c5]; try rfl) rfl rfl ?_
        refine L_unwanted rfl rfl rfl rfl (by rw [c5]; try rfl) rfl rfl ?_
        refine L_val (v := (.bool false)) (w' := w) rfl rfl rfl (x_pick rfl rfl (by rw [c5]; rfl)) ?_
        refine L_val (v := (.bool false)) (w' := w) rfl rfl rfl rfl ?_
        refine L_nil ?_
        refine W_ret ?_
        refine ⟨_, _, res_run (rs := [.tmp 6]) (vs := [(.bool false)]) Tryd.results49 (.cons (.tmp rfl) .nil) rfl, ?_⟩
        refine ⟨_, rfl, ?_⟩
        refine L_guard rfl rfl rfl rfl (by rw [c3]; rfl) ?_
        refine L_val (v := (.bool true)) (w' := w) rfl rfl rfl rfl ?_
        refine L_val (v := (.bool true)) (w' := w) rfl rfl rfl (x_pick rfl rfl (by rw [c3]; rfl)) ?_
        refine L_val (v := (.bool true)) (w' := w) rfl rfl rfl rfl ?_
        refine L_unwanted rfl rfl rfl rfl rfl rfl rfl ?_
        refine L_unwanted rfl rfl rfl rfl rfl rfl rfl ?_
        refine L_unwanted rfl rfl rfl rfl rfl rfl rfl ?_
        refine L_val (v := (.bool true)) (w' := w) rfl rfl rfl rfl ?_
        refine L_val (v := (.bool true)) (w' := w) rfl rfl rfl rfl ?_
        refine L_unwanted rfl rfl rfl rfl rfl rfl rfl ?_
        refine L_unwanted rfl rfl rfl rfl rfl rfl rfl ?_
        refine L_unwanted rfl rfl rfl rfl rfl rfl rfl ?_
        refine L_val (v := (.bool true)) (w' := w) rfl rfl rfl rfl ?_
        refine L_val (v := (.bool true)) (w' := w) rfl rfl rfl rfl ?_
        refine L_unwanted rfl rfl rfl rfl rfl rfl rfl ?_
        refine L_unwanted rfl rfl rfl rfl rfl rfl rfl ?_
        refine L_unwanted rfl rfl rfl rfl rfl rfl rfl ?_
        refine L_val (v := (.bool true)) (w' := w) rfl rfl rfl rfl ?_
        refine L_nil ?_
        refine W_cond_true (by show Value.bool _ = _; exact congrArg Value.bool rfl) ?_
        refine W_seq ?_
        refine W_region_lit ?_
        refine L_val (v := (.pointer none)) (w' := w) rfl rfl rfl rfl ?_
        refine L_val (v := (.int .i64 1)) (w' := w) rfl rfl rfl rfl ?_
        refine L_nil ?_
        refine W_ret ?_
        refine ⟨_, _, res_run (rs := [.tmp 8, .tmp 9]) (vs := [(.pointer none), (.int .i64 1)]) Tryd.results25 (.cons (.tmp rfl) (.cons (.tmp rfl) .nil)) rfl, ?_⟩
        exfalso; omega
    · skip
      have q29 := of_decide_eq_false c3
      refine L_unwanted rfl rfl rfl rfl (by rw [c3]; try rfl) rfl rfl ?_
      refine L_unwanted rfl rfl rfl rfl (by rw [c3]; try rfl) rfl rfl ?_
      refine L_unwanted rfl rfl rfl rfl (by rw [c3]; try rfl) rfl rfl ?_
      refine L_val (v := (.bool true)) (w' := w) rfl rfl rfl (x_pick rfl rfl (by rw [c3]; rfl)) ?_
      refine L_val (v := (.bool true)) (w' := w) rfl rfl rfl rfl ?_
      refine L_unwanted rfl rfl rfl rfl rfl rfl rfl ?_
      refine L_unwanted rfl rfl rfl rfl rfl rfl rfl ?_
      refine L_unwanted rfl rfl rfl rfl rfl rfl rfl ?_
      refine L_val (v := (.bool true)) (w' := w) rfl rfl rfl rfl ?_
      refine L_val (v := (.bool true)) (w' := w) rfl rfl rfl rfl ?_
      refine L_unwanted rfl rfl rfl rfl rfl rfl rfl ?_
      refine L_unwanted rfl rfl rfl rfl rfl rfl rfl ?_
      refine L_unwanted rfl rfl rfl rfl rfl rfl rfl ?_
      refine L_val (v := (.bool true)) (w' := w) rfl rfl rfl rfl ?_
      refine L_val (v := (.bool true)) (w' := w) rfl rfl rfl rfl ?_
      refine L_unwanted rfl rfl rfl rfl rfl rfl rfl ?_
      refine L_unwanted rfl rfl rfl rfl rfl rfl rfl ?_
      refine L_unwanted rfl rfl rfl rfl rfl rfl rfl ?_
      refine L_val (v := (.bool true)) (w' := w) rfl rfl rfl rfl ?_
      refine L_nil ?_
      refine W_cond_true (by show Value.bool _ = _; exact congrArg Value.bool rfl) ?_
      refine W_seq ?_
      refine W_region_lit ?_
      refine L_val (v := (.pointer none)) (w' := w) rfl rfl rfl rfl ?_
      refine L_val (v := (.int .i64 1)) (w' := w) rfl rfl rfl rfl ?_
      refine L_nil ?_
      refine W_ret ?_
      refine ⟨_, _, res_run (rs := [.tmp 8, .tmp 9]) (vs := [(.pointer none), (.int .i64 1)]) Tryd.results25 (.cons (.tmp rfl) (.cons (.tmp rfl) .nil)) rfl, ?_⟩
      exfalso; omega
  · skip
    have q30 := of_decide_eq_false c1
    refine L_unwanted rfl rfl rfl rfl (by rw [c1]; try rfl) rfl rfl ?_
    refine L_unwanted rfl rfl rfl rfl (by rw [c1]; try rfl) rfl rfl ?_
    refine L_unwanted rfl rfl rfl rfl (by rw [c1]; try rfl) rfl rfl ?_
    refine L_val (v := (.bool false)) (w' := w) rfl rfl rfl (x_pick rfl rfl (by rw [c1]; rfl)) ?_
    refine L_val (v := (.bool false)) (w' := w) rfl rfl rfl rfl ?_
    refine L_nil ?_
    refine W_ret ?_
    refine ⟨_, _, res_run (rs := [.tmp 6]) (vs := [(.bool false)]) Tryd.results49 (.cons (.tmp rfl) .nil) rfl, ?_⟩
    refine ⟨_, rfl, ?_⟩
    refine L_val (v := (.bool true)) (w' := w) rfl rfl rfl rfl ?_
    refine L_val (v := (.bool true)) (w' := w) rfl rfl rfl rfl ?_
    refine L_unwanted rfl rfl rfl rfl rfl rfl rfl ?_
    refine L_unwanted rfl rfl rfl rfl rfl rfl rfl ?_
    refine L_unwanted rfl rfl rfl rfl rfl rfl rfl ?_
    refine L_val (v := (.bool true)) (w' := w) rfl rfl rfl rfl ?_
    refine L_val (v := (.bool true)) (w' := w) rfl rfl rfl rfl ?_
    refine L_unwanted rfl rfl rfl rfl rfl rfl rfl ?_
    refine L_unwanted rfl rfl rfl rfl rfl rfl rfl ?_
    refine L_unwanted rfl rfl rfl rfl rfl rfl rfl ?_
    refine L_val (v := (.bool true)) (w' := w) rfl rfl rfl rfl ?_
    refine L_val (v := (.bool true)) (w' := w) rfl rfl rfl rfl ?_
    refine L_unwanted rfl rfl rfl rfl rfl rfl rfl ?_
    refine L_unwanted rfl rfl rfl rfl rfl rfl rfl ?_
    refine L_unwanted rfl rfl rfl rfl rfl rfl rfl ?_
    refine L_val (v := (.bool true)) (w' := w) rfl rfl rfl rfl ?_
    refine L_val (v := (.bool true)) (w' := w) rfl rfl rfl rfl ?_
    refine L_unwanted rfl rfl rfl rfl rfl rfl rfl ?_
    refine L_unwanted rfl rfl rfl rfl rfl rfl rfl ?_
    refine L_unwanted rfl rfl rfl rfl rfl rfl rfl ?_
    refine L_val (v := (.bool true)) (w' := w) rfl rfl rfl rfl ?_
    refine L_nil ?_
    refine W_cond_true (by show Value.bool _ = _; exact congrArg Value.bool rfl) ?_
    refine W_seq ?_
    refine W_region_lit ?_
    refine L_val (v := (.pointer none)) (w' := w) rfl rfl rfl rfl ?_
    refine L_val (v := (.int .i64 1)) (w' := w) rfl rfl rfl rfl ?_
    refine L_nil ?_
    refine W_ret ?_
    refine ⟨_, _, res_run (rs := [.tmp 8, .tmp 9]) (vs := [(.pointer none), (.int .i64 1)]) Tryd.results25 (.cons (.tmp rfl) (.cons (.tmp rfl) .nil)) rfl, ?_⟩
    exfalso; omega

theorem Failed_nil {w : World} {R : Hp} (k : Pl) (e : Int) (hR : Le R (hp w)) :
    Calls Tryd.prog 26 #[.pointer none, kk k, int e] w fun e' w' => e' = .returned (.tuple #[]) ∧ Grow w w' := by
  have hst := Step.ro hR
  refine calls_of_W (n := 33) Tryd.func26 rfl Tryd.ntmps26 (Nat.le_of_ble_eq_true rfl) ?_
  refine W_seq ?_
  refine W_region_lit ?_
  refine L_new hst (v := fun b => ptr b 0) (ob := .cells #[(.int .i64 k.1), (.int .i64 k.2)] 43 (0, 0)) rfl rfl rfl (by kernel_rfl) (fun b1 w2 hst3 => ?_)
  refine L_nil ?_
  refine W_seq ?_
  refine W_region_lit ?_
  refine L_val (v := (.pointer none)) (w' := w2) rfl rfl rfl rfl ?_
  refine L_val (v := (.agg #[(.int .i64 k.1), (.int .i64 k.2)])) (w' := w2) rfl rfl rfl (x_load rfl rfl (run_loadVar_agg ti_43 (hst3.blk (i := 0) rfl) (l := [(.int .i64 k.1), (.int .i64 k.2)]) rfl rfl)) ?_
  refine L_call rfl rfl rfl (x_call (vs := #[(.pointer none), (.agg #[(.int .i64 k.1), (.int .i64 k.2)])]) rfl rfl (by kernel_rfl) ent_44) ?_ (fun _ _ h => h)
  refine calls_of_W (n := 13) Tryd.func44 rfl Tryd.ntmps44 (Nat.le_of_ble_eq_true rfl) ?_
  refine W_seq ?_
  refine W_region_lit ?_
  refine L_new hst3 (v := fun b => ptr b 0) (ob := .cells #[(.int .i64 k.1), (.int .i64 k.2)] 43 (0, 0)) rfl rfl rfl (by kernel_rfl) (fun b4 w5 hst6 => ?_)
  refine L_val (v := (.pointer none)) (w' := w5) rfl rfl rfl rfl ?_
  refine L_nil ?_
  refine W_seq ?_
  refine W_seq ?_
  refine W_region_lit ?_
  refine L_val (v := (.pointer none)) (w' := w5) rfl rfl rfl rfl ?_
  refine L_val (v := (.bool true)) (w' := w5) rfl rfl rfl (by kernel_rfl) ?_
  refine L_nil ?_
  refine W_cond_true (by show Value.bool _ = _; exact congrArg Value.bool rfl) ?_
  refine W_seq ?_
  refine W_region_lit ?_
  refine L_val (v := (.pointer none)) (w' := w5) rfl rfl rfl rfl ?_
  refine L_nil ?_
  refine W_ret ?_
  refine ⟨_, _, res_run (rs := [.tmp 4]) (vs := [(.pointer none)]) Tryd.results44 (.cons (.tmp rfl) .nil) rfl, ?_⟩
  refine ⟨_, rfl, ?_⟩
  refine L_val (v := (.pointer none)) (w' := w5) rfl rfl rfl rfl ?_
  refine L_nil ?_
  refine W_seq ?_
  refine W_seq ?_
  refine W_region_lit ?_
  refine L_val (v := (.pointer none)) (w' := w5) rfl rfl rfl rfl ?_
  refine L_val (v := (.bool true)) (w' := w5) rfl rfl rfl (by kernel_rfl) ?_
  refine L_val (v := (.bool true)) (w' := w5) rfl rfl rfl rfl ?_
  refine L_unwanted rfl rfl rfl rfl rfl rfl rfl ?_
  refine L_unwanted rfl rfl rfl rfl rfl rfl rfl ?_
  refine L_unwanted rfl rfl rfl rfl rfl rfl rfl ?_
  refine L_unwanted rfl rfl rfl rfl rfl rfl rfl ?_
  refine L_unwanted rfl rfl rfl rfl rfl rfl rfl ?_
  refine L_val (v := (.bool true)) (w' := w5) rfl rfl rfl rfl ?_
  refine L_val (v := (.bool true)) (w' := w5) rfl rfl rfl rfl ?_
  refine L_unwanted rfl rfl rfl rfl rfl rfl rfl ?_
  refine L_unwanted rfl rfl rfl rfl rfl rfl rfl ?_
  refine L_val (v := (.bool true)) (w' := w5) rfl rfl rfl rfl ?_
  refine L_nil ?_
  refine W_cond_true (by show Value.bool _ = _; exact congrArg Value.bool rfl) ?_
  refine W_ret ?_
  refine ⟨_, _, res_run (rs := []) (vs := []) Tryd.results26 .nil rfl, ?_⟩
  exact ⟨rfl, hst6.grow⟩

theorem Failed_zero {w : World} {R : Hp} {z : Nat} (k : Pl) (e : Int) (hz : Le (zeroB z) R) (hR : Le R (hp w)) :
    Calls Tryd.prog 26 #[ptr z 0, kk k, int e] w fun e' w' => e' = .returned (.tuple #[]) ∧ Grow w w' := by
  have hst := Step.ro hR
  refine calls_of_W (n := 33) Tryd.func26 rfl Tryd.ntmps26 (Nat.le_of_ble_eq_true rfl) ?_
  refine W_seq ?_
  refine W_region_lit ?_
  refine L_new hst (v := fun b => ptr b 0) (ob := .cells #[(.int .i64 k.1), (.int .i64 k.2)] 43 (0, 0)) rfl rfl rfl (by kernel_rfl) (fun b1 w2 hst3 => ?_)
  refine L_nil ?_
  refine W_seq ?_
  refine W_region_lit ?_
  refine L_val (v := (ptr z 0)) (w' := w2) rfl rfl rfl rfl ?_
  refine L_val (v := (.agg #[(.int .i64 k.1), (.int .i64 k.2)])) (w' := w2) rfl rfl rfl (x_load rfl rfl (run_loadVar_agg ti_43 (hst3.blk (i := 0) rfl) (l := [(.int .i64 k.1), (.int .i64 k.2)]) rfl rfl)) ?_
  refine L_call rfl rfl rfl (x_call (vs := #[(ptr z 0), (.agg #[(.int .i64 k.1), (.int .i64 k.2)])]) rfl rfl (by kernel_rfl) ent_44) ?_ (fun _ _ h => h)
  refine calls_of_W (n := 13) Tryd.func44 rfl Tryd.ntmps44 (Nat.le_of_ble_eq_true rfl) ?_
  refine W_seq ?_
  refine W_region_lit ?_
  refine L_new hst3 (v := fun b => ptr b 0) (ob := .cells #[(.int .i64 k.1), (.int .i64 k.2)] 43 (0, 0)) rfl rfl rfl (by kernel_rfl) (fun b4 w5 hst6 => ?_)
  refine L_val (v := (.pointer none)) (w' := w5) rfl rfl rfl rfl ?_
  refine L_nil ?_
  refine W_seq ?_
  refine W_seq ?_
  refine W_region_lit ?_
  refine L_val (v := (ptr z 0)) (w' := w5) rfl rfl rfl rfl ?_
  refine L_val (v := (.bool false)) (w' := w5) rfl rfl rfl (by kernel_rfl) ?_
  refine L_nil ?_
  refine W_cond_false (by show Value.bool _ = _; exact congrArg Value.bool rfl) ?_
  refine W_skip ?_
  refine W_seq ?_
  refine W_region_draw [] (fun w => Le R (hp w) ∧ Le (one b4 (.cells #[(.int .i64 k.1), (.int .i64 k.2)] 43 (0, 0))) (hp w) ∧ Le (one b1 (.cells #[(.int .i64 k.1), (.int .i64 k.2)] 43 (0, 0))) (hp w)) hmix (by decide +kernel) (fun _ _ h => h) ?_
  have hst8 := hst6.draws (w5.drawn + 1)
  generalize draws w5 (w5.drawn + 1) = w7 at hst8 ⊢
  refine LA_takeP (v := (ptr z 0)) 0 rfl rfl rfl (by decide +kernel) (by decide +kernel) (by decide +kernel) (by decide +kernel) (fun _ _ _ h => h) (Want.plain rfl) (fun u10 => rfl) (fun _ => ⟨hst8.rle', hst8.get (i := 0) rfl, hst8.get (i := 1) rfl⟩) ?_
  refine LA_takeP (v := (ptr z 0)) 1 rfl rfl rfl (by decide +kernel) (by decide +kernel) (by decide +kernel) (by decide +kernel) (fun _ _ _ h => h) (Want.plain rfl) (fun u13 => rfl) (fun _ => ⟨hst8.rle', hst8.get (i := 0) rfl, hst8.get (i := 1) rfl⟩) ?_
  refine LA_takeP (v := (ptr z 4)) 2 rfl rfl rfl (by decide +kernel) (by decide +kernel) (by decide +kernel) (by decide +kernel) (fun _ _ _ h => h) (Want.plain rfl) (fun u16 => (by kernel_rfl)) (fun _ => ⟨hst8.rle', hst8.get (i := 0) rfl, hst8.get (i := 1) rfl⟩) ?_
  refine LA_take (v := (.map none)) 3 rfl rfl rfl (by decide +kernel) (by decide +kernel) (by decide +kernel) (by decide +kernel) (by decide +kernel) (fun _ _ _ h => h) (Want.plain rfl) (fun u19 hF20 => (x_load rfl rfl (run_loadVar_one ti_65 ((Le.trans hz hF20.1) _ _ (one_self _ _)) rfl))) ⟨hst8.rle', hst8.get (i := 0) rfl, hst8.get (i := 1) rfl⟩ ?_
  refine LA_take (v := (.agg #[(.int .i64 k.1), (.int .i64 k.2)])) 4 rfl rfl rfl (by decide +kernel) (by decide +kernel) (by decide +kernel) (by decide +kernel) (by decide +kernel) (fun _ _ _ h => h) (Want.plain rfl) (fun u22 hF23 => (x_load rfl rfl (run_loadVar_agg ti_43 (hF23.2.1 _ _ (one_self _ _)) (l := [(.int .i64 k.1), (.int .i64 k.2)]) rfl rfl))) ⟨hst8.rle', hst8.get (i := 0) rfl, hst8.get (i := 1) rfl⟩ ?_
  refine LA_take (v := (.pointer none)) 5 rfl rfl rfl (by decide +kernel) (by decide +kernel) (by decide +kernel) (by decide +kernel) (by decide +kernel) (fun _ _ _ h => h) (Want.plain rfl) (fun u25 hF26 => x_lookup rfl rfl rfl (by have h_ := MapC.lookupP (w := u25) (nil_map (R := R)) (Le.trans (non_le _) hF26.1) law43 mt_65 ti_81 k false none rfl; rw [(show AL.get ([] : List (Pl × Option Nat)) k = none from rfl)] at h_; exact h_)) ⟨hst8.rle', hst8.get (i := 0) rfl, hst8.get (i := 1) rfl⟩ ?_
  refine LA_takeP (v := (.pointer none)) 6 rfl rfl rfl (by decide +kernel) (by decide +kernel) (by decide +kernel) (by decide +kernel) (fun _ _ _ h => h) (Want.plain rfl) (fun u28 => rfl) (fun _ => ⟨hst8.rle', hst8.get (i := 0) rfl, hst8.get (i := 1) rfl⟩) ?_
  refine LA_done (by decide +kernel) ?_
  refine W_ret ?_
  refine ⟨_, _, res_run (rs := [.tmp 4]) (vs := [(.pointer none)]) Tryd.results44 (.cons (.tmp rfl) .nil) rfl, ?_⟩
  refine ⟨_, rfl, ?_⟩
  refine L_val (v := (.pointer none)) (w' := w7) rfl rfl rfl rfl ?_
  refine L_nil ?_
  refine W_seq ?_
  refine W_seq ?_
  refine W_region_lit ?_
  refine L_val (v := (.pointer none)) (w' := w7) rfl rfl rfl rfl ?_
  refine L_val (v := (.bool true)) (w' := w7) rfl rfl rfl (by kernel_rfl) ?_
  refine L_val (v := (.bool true)) (w' := w7) rfl rfl rfl rfl ?_
  refine L_unwanted rfl rfl rfl rfl rfl rfl rfl ?_
  refine L_unwanted rfl rfl rfl rfl rfl rfl rfl ?_
  refine L_unwanted rfl rfl rfl rfl rfl rfl rfl ?_
  refine L_unwanted rfl rfl rfl rfl rfl rfl rfl ?_
  refine L_unwanted rfl rfl rfl rfl rfl rfl rfl ?_
  refine L_val (v := (.bool true)) (w' := w7) rfl rfl rfl rfl ?_
  refine L_val (v := (.bool true)) (w' := w7) rfl rfl rfl rfl ?_
  refine L_unwanted rfl rfl rfl rfl rfl rfl rfl ?_
  refine L_unwanted rfl rfl rfl rfl rfl rfl rfl ?_
  refine L_val (v := (.bool true)) (w' := w7) rfl rfl rfl rfl ?_
  refine L_nil ?_
  refine W_cond_true (by show Value.bool _ = _; exact congrArg Value.bool rfl) ?_
  refine W_ret ?_
  refine ⟨_, _, res_run (rs := []) (vs := []) Tryd.results26 .nil rfl, ?_⟩
  exact ⟨rfl, hst8.grow⟩

theorem Back_nil {w : World} {R : Hp} (k : Pl) (hR : Le R (hp w)) :
    Calls Tryd.prog 23 #[.pointer none, kk k] w fun e' w' => e' = .returned (.bool false) ∧ Grow w w' := by
  have hst := Step.ro hR
  refine calls_of_W (n := 119) Tryd.func23 rfl Tryd.ntmps23 (Nat.le_of_ble_eq_true rfl) ?_
  refine W_seq ?_
  refine W_region_lit ?_
  refine L_new hst (v := fun b => ptr b 0) (ob := .cells #[(.int .i64 k.1), (.int .i64 k.2)] 43 (0, 0)) rfl rfl rfl (by kernel_rfl) (fun b1 w2 hst3 => ?_)
  refine L_val (v := (.bool false)) (w' := w2) rfl rfl rfl rfl ?_
  refine L_nil ?_
  refine W_seq ?_
  refine W_seq ?_
  refine W_region_lit ?_
  refine L_val (v := (.pointer none)) (w' := w2) rfl rfl rfl rfl ?_
  refine L_val (v := (.bool true)) (w' := w2) rfl rfl rfl (by kernel_rfl) ?_
  refine L_val (v := (.bool true)) (w' := w2) rfl rfl rfl rfl ?_
  refine L_unwanted rfl rfl rfl rfl rfl rfl rfl ?_
  refine L_unwanted rfl rfl rfl rfl rfl rfl rfl ?_
  refine L_unwanted rfl rfl rfl rfl rfl rfl rfl ?_
  refine L_unwanted rfl rfl rfl rfl rfl rfl rfl ?_
  refine L_unwanted rfl rfl rfl rfl rfl rfl rfl ?_
  refine L_val (v := (.bool true)) (w' := w2) rfl rfl rfl rfl ?_
  refine L_nil ?_
  refine W_cond_true (by show Value.bool _ = _; exact congrArg Value.bool rfl) ?_
  refine W_seq ?_
  refine W_region_lit ?_
  refine L_val (v := (.bool false)) (w' := w2) rfl rfl rfl rfl ?_
  refine L_nil ?_
  refine W_ret ?_
  refine ⟨_, _, res_run (rs := [.tmp 4]) (vs := [(.bool false)]) Tryd.results23 (.cons (.tmp rfl) .nil) rfl, ?_⟩
  exact ⟨rfl, hst3.grow⟩

theorem Back_zero {w : World} {R : Hp} {z : Nat} (k : Pl) (hz : Le (zeroB z) R) (hR : Le R (hp w)) :
    Calls Tryd.prog 23 #[ptr z 0, kk k] w fun e' w' => e' = .returned (.bool false) ∧ Grow w w' := by
  have hst := Step.ro hR
  refine calls_of_W (n := 119) Tryd.func23 rfl Tryd.ntmps23 (Nat.le_of_ble_eq_true rfl) ?_
  refine W_seq ?_
  refine W_region_lit ?_
  refine L_new hst (v := fun b => ptr b 0) (ob := .cells #[(.int .i64 k.1), (.int .i64 k.2)] 43 (0, 0)) rfl rfl rfl (by kernel_rfl) (fun b1 w2 hst3 => ?_)
  refine L_val (v := (.bool false)) (w' := w2) rfl rfl rfl rfl ?_
  refine L_nil ?_
  refine W_seq ?_
  refine W_seq ?_
  refine W_region_lit ?_
  refine L_val (v := (ptr z 0)) (w' := w2) rfl rfl rfl rfl ?_
  refine L_val (v := (.bool false)) (w' := w2) rfl rfl rfl (by kernel_rfl) ?_
  refine L_val (v := (.bool false)) (w' := w2) rfl rfl rfl rfl ?_
  refine L_guard rfl rfl rfl rfl rfl ?_
  refine L_val (v := (ptr z 0)) (w' := w2) rfl rfl rfl rfl ?_
  refine L_guard rfl rfl rfl rfl rfl ?_
  refine L_val (v := (ptr z 0)) (w' := w2) rfl rfl rfl rfl ?_
  refine L_guard rfl rfl rfl rfl rfl ?_
  refine L_val (v := (ptr z 4)) (w' := w2) rfl rfl rfl (by kernel_rfl) ?_
  refine L_guard rfl rfl rfl rfl rfl ?_
  refine L_val (v := (.map none)) (w' := w2) rfl rfl rfl (x_load rfl rfl (run_loadVar_one ti_65 (hst3.rle' _ _ (hz _ _ (one_self _ _))) rfl)) ?_
  refine L_guard rfl rfl rfl rfl rfl ?_
  refine L_val (v := (.bool true)) (w' := w2) rfl rfl rfl (by kernel_rfl) ?_
  refine L_val (v := (.bool true)) (w' := w2) rfl rfl rfl rfl ?_
  refine L_nil ?_
  refine W_cond_true (by show Value.bool _ = _; exact congrArg Value.bool rfl) ?_
  refine W_seq ?_
  refine W_region_lit ?_
  refine L_val (v := (.bool false)) (w' := w2) rfl rfl rfl rfl ?_
  refine L_nil ?_
  refine W_ret ?_
  refine ⟨_, _, res_run (rs := [.tmp 4]) (vs := [(.bool false)]) Tryd.results23 (.cons (.tmp rfl) .nil) rfl, ?_⟩
  exact ⟨rfl, hst3.grow⟩

theorem Left_nil {w : World} {R : Hp} (k : Pl) (e : Int) (hR : Le R (hp w)) :
    Calls Tryd.prog 24 #[.pointer none, kk k, int e] w fun e' w' => e' = .returned (.bool false) ∧ Grow w w' := by
  have hst := Step.ro hR
  refine calls_of_W (n := 63) Tryd.func24 rfl Tryd.ntmps24 (Nat.le_of_ble_eq_true rfl) ?_
  refine W_seq ?_
  refine W_region_lit ?_
  refine L_new hst (v := fun b => ptr b 0) (ob := .cells #[(.int .i64 k.1), (.int .i64 k.2)] 43 (0, 0)) rfl rfl rfl (by kernel_rfl) (fun b1 w2 hst3 => ?_)
  refine L_val (v := (.bool false)) (w' := w2) rfl rfl rfl rfl ?_
  refine L_nil ?_
  refine W_seq ?_
  refine W_region_lit ?_
  refine L_val (v := (.pointer none)) (w' := w2) rfl rfl rfl rfl ?_
  refine L_val (v := (.agg #[(.int .i64 k.1), (.int .i64 k.2)])) (w' := w2) rfl rfl rfl (x_load rfl rfl (run_loadVar_agg ti_43 (hst3.blk (i := 0) rfl) (l := [(.int .i64 k.1), (.int .i64 k.2)]) rfl rfl)) ?_
  refine L_call rfl rfl rfl (x_call (vs := #[(.pointer none), (.agg #[(.int .i64 k.1), (.int .i64 k.2)])]) rfl rfl (by kernel_rfl) ent_44) ?_ (fun _ _ h => h)
  refine calls_of_W (n := 13) Tryd.func44 rfl Tryd.ntmps44 (Nat.le_of_ble_eq_true rfl) ?_
  refine W_seq ?_
  refine W_region_lit ?_
  refine L_new hst3 (v := fun b => ptr b 0) (ob := .cells #[(.int .i64 k.1), (.int .i64 k.2)] 43 (0, 0)) rfl rfl rfl (by kernel_rfl) (fun b4 w5 hst6 => ?_)
  refine L_val (v := (.pointer none)) (w' := w5) rfl rfl rfl rfl ?_
  refine L_nil ?_
  refine W_seq ?_
  refine W_seq ?_
  refine W_region_lit ?_
  refine L_val (v := (.pointer none)) (w' := w5) rfl rfl rfl rfl ?_
  refine L_val (v := (.bool true)) (w' := w5) rfl rfl rfl (by kernel_rfl) ?_
  refine L_nil ?_
  refine W_cond_true (by show Value.bool _ = _; exact congrArg Value.bool rfl) ?_
  refine W_seq ?_
  refine W_region_lit ?_
  refine L_val (v := (.pointer none)) (w' := w5) rfl rfl rfl rfl ?_
  refine L_nil ?_
  refine W_ret ?_
  refine ⟨_, _, res_run (rs := [.tmp 4]) (vs := [(.pointer none)]) Tryd.results44 (.cons (.tmp rfl) .nil) rfl, ?_⟩
  refine ⟨_, rfl, ?_⟩
  refine L_val (v := (.pointer none)) (w' := w5) rfl rfl rfl rfl ?_
  refine L_nil ?_
  refine W_seq ?_
  refine W_seq ?_
  refine W_region_lit ?_
  refine L_val (v := (.pointer none)) (w' := w5) rfl rfl rfl rfl ?_
  refine L_val (v := (.bool true)) (w' := w5) rfl rfl rfl (by kernel_rfl) ?_
  refine L_val (v := (.bool true)) (w' := w5) rfl rfl rfl rfl ?_
  refine L_unwanted rfl rfl rfl rfl rfl rfl rfl ?_
  refine L_unwanted rfl rfl rfl rfl rfl rfl rfl ?_
  refine L_unwanted rfl rfl rfl rfl rfl rfl rfl ?_
  refine L_unwanted rfl rfl rfl rfl rfl rfl rfl ?_
  refine L_unwanted rfl rfl rfl rfl rfl rfl rfl ?_
  refine L_val (v := (.bool true)) (w' := w5) rfl rfl rfl rfl ?_
  refine L_val (v := (.bool true)) (w' := w5) rfl rfl rfl rfl ?_
  refine L_unwanted rfl rfl rfl rfl rfl rfl rfl ?_
  refine L_unwanted rfl rfl rfl rfl rfl rfl rfl ?_
  refine L_val (v := (.bool true)) (w' := w5) rfl rfl rfl rfl ?_
  refine L_nil ?_
  refine W_cond_true (by show Value.bool _ = _; exact congrArg Value.bool rfl) ?_
  refine W_seq ?_
  refine W_region_lit ?_
  refine L_val (v := (.bool false)) (w' := w5) rfl rfl rfl rfl ?_
  refine L_nil ?_
  refine W_ret ?_
  refine ⟨_, _, res_run (rs := [.tmp 6]) (vs := [(.bool false)]) Tryd.results24 (.cons (.tmp rfl) .nil) rfl, ?_⟩
  exact ⟨rfl, hst6.grow⟩

theorem Left_zero {w : World} {R : Hp} {z : Nat} (k : Pl) (e : Int) (hz : Le (zeroB z) R) (hR : Le R (hp w)) :
    Calls Tryd.prog 24 #[ptr z 0, kk k, int e] w fun e' w' => e' = .returned (.bool false) ∧ Grow w w' := by
  have hst := Step.ro hR
  refine calls_of_W (n := 63) Tryd.func24 rfl Tryd.ntmps24 (Nat.le_of_ble_eq_true rfl) ?_
  refine W_seq ?_
  refine W_region_lit ?_
  refine L_new hst (v := fun b => ptr b 0) (ob := .cells #[(.int .i64 k.1), (.int .i64 k.2)] 43 (0, 0)) rfl rfl rfl (by kernel_rfl) (fun b1 w2 hst3 => ?_)
  refine L_val (v := (.bool false)) (w' := w2) rfl rfl rfl rfl ?_
  refine L_nil ?_
  refine W_seq ?_
  refine W_region_lit ?_
  refine L_val (v := (ptr z 0)) (w' := w2) rfl rfl rfl rfl ?_
  refine L_val (v := (.agg #[(.int .i64 k.1), (.int .i64 k.2)])) (w' := w2) rfl rfl rfl (x_load rfl rfl (run_loadVar_agg ti_43 (hst3.blk (i := 0) rfl) (l := [(.int .i64 k.1), (.int .i64 k.2)]) rfl rfl)) ?_
  refine L_call rfl rfl rfl (x_call (vs := #[(ptr z 0), (.agg #[(.int .i64 k.1), (.int .i64 k.2)])]) rfl rfl (by kernel_rfl) ent_44) ?_ (fun _ _ h => h)
  refine calls_of_W (n := 13) Tryd.func44 rfl Tryd.ntmps44 (Nat.le_of_ble_eq_true rfl) ?_
  refine W_seq ?_
  refine W_region_lit ?_
  refine L_new hst3 (v := fun b => ptr b 0) (ob := .cells #[(.int .i64 k.1), (.int .i64 k.2)] 43 (0, 0)) rfl rfl rfl (by kernel_rfl) (fun b4 w5 hst6 => ?_)
  refine L_val (v := (.pointer none)) (w' := w5) rfl rfl rfl rfl ?_
  refine L_nil ?_
  refine W_seq ?_
  refine W_seq ?_
  refine W_region_lit ?_
  refine L_val (v := (ptr z 0)) (w' := w5) rfl rfl rfl rfl ?_
  refine L_val (v := (.bool false)) (w' := w5) rfl rfl rfl (by kernel_rfl) ?_
  refine L_nil ?_
  refine W_cond_false (by show Value.bool _ = _; exact congrArg Value.bool rfl) ?_
  refine W_skip ?_
  refine W_seq ?_
  refine W_region_draw [] (fun w => Le R (hp w) ∧ Le (one b4 (.cells #[(.int .i64 k.1), (.int .i64 k.2)] 43 (0, 0))) (hp w) ∧ Le (one b1 (.cells #[(.int .i64 k.1), (.int .i64 k.2)] 43 (0, 0))) (hp w)) hmix (by decide +kernel) (fun _ _ h => h) ?_
  have hst8 := hst6.draws (w5.drawn + 1)
  generalize draws w5 (w5.drawn + 1) = w7 at hst8 ⊢
  refine LA_takeP (v := (ptr z 0)) 0 rfl rfl rfl (by decide +kernel) (by decide +kernel) (by decide +kernel) (by decide +kernel) (fun _ _ _ h => h) (Want.plain rfl) (fun u10 => rfl) (fun _ => ⟨hst8.rle', hst8.get (i := 0) rfl, hst8.get (i := 1) rfl⟩) ?_
  refine LA_takeP (v := (ptr z 0)) 1 rfl rfl rfl (by decide +kernel) (by decide +kernel) (by decide +kernel) (by decide +kernel) (fun _ _ _ h => h) (Want.plain rfl) (fun u13 => rfl) (fun _ => ⟨hst8.rle', hst8.get (i := 0) rfl, hst8.get (i := 1) rfl⟩) ?_
  refine LA_takeP (v := (ptr z 4)) 2 rfl rfl rfl (by decide +kernel) (by decide +kernel) (by decide +kernel) (by decide +kernel) (fun _ _ _ h => h) (Want.plain rfl) (fun u16 => (by kernel_rfl)) (fun _ => ⟨hst8.rle', hst8.get (i := 0) rfl, hst8.get (i := 1) rfl⟩) ?_
  refine LA_take (v := (.map none)) 3 rfl rfl rfl (by decide +kernel) (by decide +kernel) (by decide +kernel) (by decide +kernel) (by decide +kernel) (fun _ _ _ h => h) (Want.plain rfl) (fun u19 hF20 => (x_load rfl rfl (run_loadVar_one ti_65 ((Le.trans hz hF20.1) _ _ (one_self _ _)) rfl))) ⟨hst8.rle', hst8.get (i := 0) rfl, hst8.get (i := 1) rfl⟩ ?_
  refine LA_take (v := (.agg #[(.int .i64 k.1), (.int .i64 k.2)])) 4 rfl rfl rfl (by decide +kernel) (by decide +kernel) (by decide +kernel) (by decide +kernel) (by decide +kernel) (fun _ _ _ h => h) (Want.plain rfl) (fun u22 hF23 => (x_load rfl rfl (run_loadVar_agg ti_43 (hF23.2.1 _ _ (one_self _ _)) (l := [(.int .i64 k.1), (.int .i64 k.2)]) rfl rfl))) ⟨hst8.rle', hst8.get (i := 0) rfl, hst8.get (i := 1) rfl⟩ ?_
  refine LA_take (v := (.pointer none)) 5 rfl rfl rfl (by decide +kernel) (by decide +kernel) (by decide +kernel) (by decide +kernel) (by decide +kernel) (fun _ _ _ h => h) (Want.plain rfl) (fun u25 hF26 => x_lookup rfl rfl rfl (by have h_ := MapC.lookupP (w := u25) (nil_map (R := R)) (Le.trans (non_le _) hF26.1) law43 mt_65 ti_81 k false none rfl; rw [(show AL.get ([] : List (Pl × Option Nat)) k = none from rfl)] at h_; exact h_)) ⟨hst8.rle', hst8.get (i := 0) rfl, hst8.get (i := 1) rfl⟩ ?_
  refine LA_takeP (v := (.pointer none)) 6 rfl rfl rfl (by decide +kernel) (by decide +kernel) (by decide +kernel) (by decide +kernel) (fun _ _ _ h => h) (Want.plain rfl) (fun u28 => rfl) (fun _ => ⟨hst8.rle', hst8.get (i := 0) rfl, hst8.get (i := 1) rfl⟩) ?_
  refine LA_done (by decide +kernel) ?_
  refine W_ret ?_
  refine ⟨_, _, res_run (rs := [.tmp 4]) (vs := [(.pointer none)]) Tryd.results44 (.cons (.tmp rfl) .nil) rfl, ?_⟩
  refine ⟨_, rfl, ?_⟩
  refine L_val (v := (.pointer none)) (w' := w7) rfl rfl rfl rfl ?_
  refine L_nil ?_
  refine W_seq ?_
  refine W_seq ?_
  refine W_region_lit ?_
  refine L_val (v := (.pointer none)) (w' := w7) rfl rfl rfl rfl ?_
  refine L_val (v := (.bool true)) (w' := w7) rfl rfl rfl (by kernel_rfl) ?_
  refine L_val (v := (.bool true)) (w' := w7) rfl rfl rfl rfl ?_
  refine L_unwanted rfl rfl rfl rfl rfl rfl rfl ?_
  refine L_unwanted rfl rfl rfl rfl rfl rfl rfl ?_
  refine L_unwanted rfl rfl rfl rfl rfl rfl rfl ?_
  refine L_unwanted rfl rfl rfl rfl rfl rfl rfl ?_
  refine L_unwanted rfl rfl rfl rfl rfl rfl rfl ?_
  refine L_val (v := (.bool true)) (w' := w7) rfl rfl rfl rfl ?_
  refine L_val (v := (.bool true)) (w' := w7) rfl rfl rfl rfl ?_
  refine L_unwanted rfl rfl rfl rfl rfl rfl rfl ?_
  refine L_unwanted rfl rfl rfl rfl rfl rfl rfl ?_
  refine L_val (v := (.bool true)) (w' := w7) rfl rfl rfl rfl ?_
  refine L_nil ?_
  refine W_cond_true (by show Value.bool _ = _; exact congrArg Value.bool rfl) ?_
  refine W_seq ?_
  refine W_region_lit ?_
  refine L_val (v := (.bool false)) (w' := w7) rfl rfl rfl rfl ?_
  refine L_nil ?_
  refine W_ret ?_
  refine ⟨_, _, res_run (rs := [.tmp 6]) (vs := [(.bool false)]) Tryd.results24 (.cons (.tmp rfl) .nil) rfl, ?_⟩
  exact ⟨rfl, hst8.grow⟩

theorem Tier_nil {w : World} {R : Hp} (k : Pl) (hR : Le R (hp w)) :
    Calls Tryd.prog 18 #[.pointer none, kk k] w fun e' w' => e' = .returned (int 0) ∧ Grow w w' := by
  have hst := Step.ro hR
  refine calls_of_W (n := 15) Tryd.func18 rfl Tryd.ntmps18 (Nat.le_of_ble_eq_true rfl) ?_
  refine W_seq ?_
  refine W_region_lit ?_
  refine L_new hst (v := fun b => ptr b 0) (ob := .cells #[(.int .i64 k.1), (.int .i64 k.2)] 43 (0, 0)) rfl rfl rfl (by kernel_rfl) (fun b1 w2 hst3 => ?_)
  refine L_val (v := (.int .i64 0)) (w' := w2) rfl rfl rfl rfl ?_
  refine L_nil ?_
  refine W_seq ?_
  refine W_seq ?_
  refine W_region_lit ?_
  refine L_val (v := (.pointer none)) (w' := w2) rfl rfl rfl rfl ?_
  refine L_val (v := (.agg #[(.int .i64 k.1), (.int .i64 k.2)])) (w' := w2) rfl rfl rfl (x_load rfl rfl (run_loadVar_agg ti_43 (hst3.blk (i := 0) rfl) (l := [(.int .i64 k.1), (.int .i64 k.2)]) rfl rfl)) ?_
  refine L_call rfl rfl rfl (x_call (vs := #[(.pointer none), (.agg #[(.int .i64 k.1), (.int .i64 k.2)])]) rfl rfl (by kernel_rfl) ent_44) ?_ (fun _ _ h => h)
  refine calls_of_W (n := 13) Tryd.func44 rfl Tryd.ntmps44 (Nat.le_of_ble_eq_true rfl) ?_
  refine W_seq ?_
  refine W_region_lit ?_
  refine L_new hst3 (v := fun b => ptr b 0) (ob := .cells #[(.int .i64 k.1), (.int .i64 k.2)] 43 (0, 0)) rfl rfl rfl (by kernel_rfl) (fun b4 w5 hst6 => ?_)
  refine L_val (v := (.pointer none)) (w' := w5) rfl rfl rfl rfl ?_
  refine L_nil ?_
  refine W_seq ?_
  refine W_seq ?_
  refine W_region_lit ?_
  refine L_val (v := (.pointer none)) (w' := w5) rfl rfl rfl rfl ?_
  refine L_val (v := (.bool true)) (w' := w5) rfl rfl rfl (by kernel_rfl) ?_
  refine L_nil ?_
  refine W_cond_true (by show Value.bool _ = _; exact congrArg Value.bool rfl) ?_
  refine W_seq ?_
  refine W_region_lit ?_
  refine L_val (v := (.pointer none)) (w' := w5) rfl rfl rfl rfl ?_
  refine L_nil ?_
  refine W_ret ?_
  refine ⟨_, _, res_run (rs := [.tmp 4]) (vs := [(.pointer none)]) Tryd.results44 (.cons (.tmp rfl) .nil) rfl, ?_⟩
  refine ⟨_, rfl, ?_⟩
  refine L_val (v := (.pointer none)) (w' := w5) rfl rfl rfl rfl ?_
  refine L_nil ?_
  refine W_seq ?_
  refine W_region_lit ?_
  refine L_val (v := (.pointer none)) (w' := w5) rfl rfl rfl rfl ?_
  refine L_val (v := (.bool false)) (w' := w5) rfl rfl rfl (by kernel_rfl) ?_
  refine L_nil ?_
  refine W_cond_false (by show Value.bool _ = _; exact congrArg Value.bool rfl) ?_
  refine W_skip ?_
  refine W_seq ?_
  refine W_region_lit ?_
  refine L_val (v := (.int .i64 0)) (w' := w5) rfl rfl rfl rfl ?_
  refine L_nil ?_
  refine W_ret ?_
  refine ⟨_, _, res_run (rs := [.tmp 4]) (vs := [(.int .i64 0)]) Tryd.results18 (.cons (.tmp rfl) .nil) rfl, ?_⟩
  exact ⟨rfl, hst6.grow⟩

theorem Tier_zero {w : World} {R : Hp} {z : Nat} (k : Pl) (hz : Le (zeroB z) R) (hR : Le R (hp w)) :
    Calls Tryd.prog 18 #[ptr z 0, kk k] w fun e' w' => e' = .returned (int 0) ∧ Grow w w' := by
  have hst := Step.ro hR
  refine calls_of_W (n := 15) Tryd.func18 rfl Tryd.ntmps18 (Nat.le_of_ble_eq_true rfl) ?_
  refine W_seq ?_
  refine W_region_lit ?_
  refine L_new hst (v := fun b => ptr b 0) (ob := .cells #[(.int .i64 k.1), (.int .i64 k.2)] 43 (0, 0)) rfl rfl rfl (by kernel_rfl) (fun b1 w2 hst3 => ?_)
  refine L_val (v := (.int .i64 0)) (w' := w2) rfl rfl rfl rfl ?_
  refine L_nil ?_
  refine W_seq ?_
  refine W_seq ?_
  refine W_region_lit ?_
  refine L_val (v := (ptr z 0)) (w' := w2) rfl rfl rfl rfl ?_
  refine L_val (v := (.agg #[(.int .i64 k.1), (.int .i64 k.2)])) (w' := w2) rfl rfl rfl (x_load rfl rfl (run_loadVar_agg ti_43 (hst3.blk (i := 0) rfl) (l := [(.int .i64 k.1), (.int .i64 k.2)]) rfl rfl)) ?_
  refine L_call rfl rfl rfl (x_call (vs := #[(ptr z 0), (.agg #[(.int .i64 k.1), (.int .i64 k.2)])]) rfl rfl (by kernel_rfl) ent_44) ?_ (fun _ _ h => h)
  refine calls_of_W (n := 13) Tryd.func44 rfl Tryd.ntmps44 (Nat.le_of_ble_eq_true rfl) ?_
  refine W_seq ?_
  refine W_region_lit ?_
  refine L_new hst3 (v := fun b => ptr b 0) (ob := .cells #[(.int .i64 k.1), (.int .i64 k.2)] 43 (0, 0)) rfl rfl rfl (by kernel_rfl) (fun b4 w5 hst6 => ?_)
  refine L_val (v := (.pointer none)) (w' := w5) rfl rfl rfl rfl ?_
  refine L_nil ?_
  refine W_seq ?_
  refine W_seq ?_
  refine W_region_lit ?_
  refine L_val (v := (ptr z 0)) (w' := w5) rfl rfl rfl rfl ?_
  refine L_val (v := (.bool false)) (w' := w5) rfl rfl rfl (by kernel_rfl) ?_
  refine L_nil ?_
  refine W_cond_false (by show Value.bool _ = _; exact congrArg Value.bool rfl) ?_
  refine W_skip ?_
  refine W_seq ?_
  refine W_region_draw [] (fun w => Le R (hp w) ∧ Le (one b4 (.cells #[(.int .i64 k.1), (.int .i64 k.2)] 43 (0, 0))) (hp w) ∧ Le (one b1 (.cells #[(.int .i64 k.1), (.int .i64 k.2)] 43 (0, 0))) (hp w)) hmix (by decide +kernel) (fun _ _ h => h) ?_
  have hst8 := hst6.draws (w5.drawn + 1)
  generalize draws w5 (w5.drawn + 1) = w7 at hst8 ⊢
  refine LA_takeP (v := (ptr z 0)) 0 rfl rfl rfl (by decide +kernel) (by decide +kernel) (by decide +kernel) (by decide +kernel) (fun _ _ _ h => h) (Want.plain rfl) (fun u10 => rfl) (fun _ => ⟨hst8.rle', hst8.get (i := 0) rfl, hst8.get (i := 1) rfl⟩) ?_
  refine LA_takeP (v := (ptr z 0)) 1 rfl rfl rfl (by decide +kernel) (by decide +kernel) (by decide +kernel) (by decide +kernel) (fun _ _ _ h => h) (Want.plain rfl) (fun u13 => rfl) (fun _ => ⟨hst8.rle', hst8.get (i := 0) rfl, hst8.get (i := 1) rfl⟩) ?_
  refine LA_takeP (v := (ptr z 4)) 2 rfl rfl rfl (by decide +kernel) (by decide +kernel) (by decide +kernel) (by decide +kernel) (fun _ _ _ h => h) (Want.plain rfl) (fun u16 => (by kernel_rfl)) (fun _ => ⟨hst8.rle', hst8.get (i := 0) rfl, hst8.get (i := 1) rfl⟩) ?_
  refine LA_take (v := (.map none)) 3 rfl rfl rfl (by decide +kernel) (by decide +kernel) (by decide +kernel) (by decide +kernel) (by decide +kernel) (fun _ _ _ h => h) (Want.plain rfl) (fun u19 hF20 => (x_load rfl rfl (run_loadVar_one ti_65 ((Le.trans hz hF20.1) _ _ (one_self _ _)) rfl))) ⟨hst8.rle', hst8.get (i := 0) rfl, hst8.get (i := 1) rfl⟩ ?_
  refine LA_take (v := (.agg #[(.int .i64 k.1), (.int .i64 k.2)])) 4 rfl rfl rfl (by decide +kernel) (by decide +kernel) (by decide +kernel) (by decide +kernel) (by decide +kernel) (fun _ _ _ h => h) (Want.plain rfl) (fun u22 hF23 => (x_load rfl rfl (run_loadVar_agg ti_43 (hF23.2.1 _ _ (one_self _ _)) (l := [(.int .i64 k.1), (.int .i64 k.2)]) rfl rfl))) ⟨hst8.rle', hst8.get (i := 0) rfl, hst8.get (i := 1) rfl⟩ ?_
  refine LA_take (v := (.pointer none)) 5 rfl rfl rfl (by decide +kernel) (by decide +kernel) (by decide +kernel) (by decide +kernel) (by decide +kernel) (fun _ _ _ h => h) (Want.plain rfl) (fun u25 hF26 => x_lookup rfl rfl rfl (by have h_ := MapC.lookupP (w := u25) (nil_map (R := R)) (Le.trans (non_le _) hF26.1) law43 mt_65 ti_81 k false none rfl; rw [(show AL.get ([] : List (Pl × Option Nat)) k = none from rfl)] at h_; exact h_)) ⟨hst8.rle', hst8.get (i := 0) rfl, hst8.get (i := 1) rfl⟩ ?_
  refine LA_takeP (v := (.pointer none)) 6 rfl rfl rfl (by decide +kernel) (by decide +kernel) (by decide +kernel) (by decide +kernel) (fun _ _ _ h => h) (Want.plain rfl) (fun u28 => rfl) (fun _ => ⟨hst8.rle', hst8.get (i := 0) rfl, hst8.get (i := 1) rfl⟩) ?_
  refine LA_done (by decide +kernel) ?_
  refine W_ret ?_
  refine ⟨_, _, res_run (rs := [.tmp 4]) (vs := [(.pointer none)]) Tryd.results44 (.cons (.tmp rfl) .nil) rfl, ?_⟩
  refine ⟨_, rfl, ?_⟩
  refine L_val (v := (.pointer none)) (w' := w7) rfl rfl rfl rfl ?_
  refine L_nil ?_
  refine W_seq ?_
  refine W_region_lit ?_
  refine L_val (v := (.pointer none)) (w' := w7) rfl rfl rfl rfl ?_
  refine L_val (v := (.bool false)) (w' := w7) rfl rfl rfl (by kernel_rfl) ?_
  refine L_nil ?_
  refine W_cond_false (by show Value.bool _ = _; exact congrArg Value.bool rfl) ?_
  refine W_skip ?_
  refine W_seq ?_
  refine W_region_lit ?_
  refine L_val (v := (.int .i64 0)) (w' := w7) rfl rfl rfl rfl ?_
  refine L_nil ?_
  refine W_ret ?_
  refine ⟨_, _, res_run (rs := [.tmp 4]) (vs := [(.int .i64 0)]) Tryd.results18 (.cons (.tmp rfl) .nil) rfl, ?_⟩
  exact ⟨rfl, hst8.grow⟩

theorem Decisions_nil {w : World} {R : Hp} (hR : Le R (hp w)) :
    Calls Tryd.prog 17 #[.pointer none] w fun e' w' => e' = .returned (.slice none 0 0) ∧ Grow w w' := by
  have hst := Step.ro hR
  refine calls_of_W (n := 10) Tryd.func17 rfl Tryd.ntmps17 (Nat.le_of_ble_eq_true rfl) ?_
  refine W_seq ?_
  refine W_region_lit ?_
  refine L_val (v := (.slice none 0 0)) (w' := w) rfl rfl rfl rfl ?_
  refine L_nil ?_
  refine W_seq ?_
  refine W_seq ?_
  refine W_region_lit ?_
  refine L_val (v := (.pointer none)) (w' := w) rfl rfl rfl rfl ?_
  refine L_val (v := (.bool true)) (w' := w) rfl rfl rfl (by kernel_rfl) ?_
  refine L_nil ?_
  refine W_cond_true (by show Value.bool _ = _; exact congrArg Value.bool rfl) ?_
  refine W_seq ?_
  refine W_region_lit ?_
  refine L_val (v := (.slice none 0 0)) (w' := w) rfl rfl rfl rfl ?_
  refine L_nil ?_
  refine W_ret ?_
  refine ⟨_, _, res_run (rs := [.tmp 2]) (vs := [(.slice none 0 0)]) Tryd.results17 (.cons (.tmp rfl) .nil) rfl, ?_⟩
  exact ⟨rfl, hst.grow⟩

theorem Decisions_zero {w : World} {R : Hp} {z : Nat} (hz : Le (zeroB z) R) (hR : Le R (hp w)) :
    Calls Tryd.prog 17 #[ptr z 0] w fun e' w' => e' = .returned (.slice none 0 0) ∧ Grow w w' := by
  have hst := Step.ro hR
  refine calls_of_W (n := 10) Tryd.func17 rfl Tryd.ntmps17 (Nat.le_of_ble_eq_true rfl) ?_
  refine W_seq ?_
  refine W_region_lit ?_
  refine L_val (v := (.slice none 0 0)) (w' := w) rfl rfl rfl rfl ?_
  refine L_nil ?_
  refine W_seq ?_
  refine W_seq ?_
  refine W_region_lit ?_
  refine L_val (v := (ptr z 0)) (w' := w) rfl rfl rfl rfl ?_
  refine L_val (v := (.bool false)) (w' := w) rfl rfl rfl (by kernel_rfl) ?_
  refine L_nil ?_
  refine W_cond_false (by show Value.bool _ = _; exact congrArg Value.bool rfl) ?_
  refine W_skip ?_
  refine W_seq ?_
  refine W_region_lit ?_
  refine L_val (v := (ptr z 0)) (w' := w) rfl rfl rfl rfl ?_
  refine L_val (v := (ptr z 0)) (w' := w) rfl rfl rfl rfl ?_
  refine L_val (v := (ptr z 5)) (w' := w) rfl rfl rfl (by kernel_rfl) ?_
  refine L_val (v := (.slice none 0 0)) (w' := w) rfl rfl rfl (x_load rfl rfl (run_loadVar_one ti_36 (hst.rle' _ _ (hz _ _ (one_self _ _))) rfl)) ?_
  refine L_call rfl rfl rfl (x_call (vs := #[(.slice none 0 0)]) rfl rfl (by kernel_rfl) ent_43) ?_ (fun _ _ h => h)
  refine calls_of_W (n := 8) Tryd.func43 rfl Tryd.ntmps43 (Nat.le_of_ble_eq_true rfl) ?_
  refine W_seq ?_
  refine W_region_lit ?_
  refine L_val (v := (.slice none 0 0)) (w' := w) rfl rfl rfl rfl ?_
  refine L_nil ?_
  refine W_seq ?_
  refine W_seq ?_
  refine W_region_lit ?_
  refine L_val (v := (.slice none 0 0)) (w' := w) rfl rfl rfl rfl ?_
  refine L_val (v := (.bool true)) (w' := w) rfl rfl rfl (by kernel_rfl) ?_
  refine L_nil ?_
  refine W_cond_true (by show Value.bool _ = _; exact congrArg Value.bool rfl) ?_
  refine W_seq ?_
  refine W_region_lit ?_
  refine L_val (v := (.slice none 0 0)) (w' := w) rfl rfl rfl rfl ?_
  refine L_nil ?_
  refine W_ret ?_
  refine ⟨_, _, res_run (rs := [.tmp 2]) (vs := [(.slice none 0 0)]) Tryd.results43 (.cons (.tmp rfl) .nil) rfl, ?_⟩
  refine ⟨_, rfl, ?_⟩
  refine L_val (v := (.slice none 0 0)) (w' := w) rfl rfl rfl rfl ?_
  refine L_nil ?_
  refine W_ret ?_
  refine ⟨_, _, res_run (rs := [.tmp 2]) (vs := [(.slice none 0 0)]) Tryd.results17 (.cons (.tmp rfl) .nil) rfl, ?_⟩
  exact ⟨rfl, hst.grow⟩

theorem Text_nil {w : World} {R : Hp} (hR : Le R (hp w)) :
    Calls Tryd.prog 14 #[.pointer none] w fun e' w' => e' = .returned (.string ⟨#[]⟩) ∧ Grow w w' := by
  have hst := Step.ro hR
  refine calls_of_W (n := 60) Tryd.func14 rfl Tryd.ntmps14 (Nat.le_of_ble_eq_true rfl) ?_
  refine W_seq ?_
  refine W_region_lit ?_
  refine L_val (v := (.string ⟨#[]⟩)) (w' := w) rfl rfl rfl rfl ?_
  refine L_nil ?_
  refine W_seq ?_
  refine W_seq ?_
  refine W_region_lit ?_
  refine L_val (v := (.pointer none)) (w' := w) rfl rfl rfl rfl ?_
  refine L_val (v := (.bool true)) (w' := w) rfl rfl rfl (by kernel_rfl) ?_
  refine L_nil ?_
  refine W_cond_true (by show Value.bool _ = _; exact congrArg Value.bool rfl) ?_
  refine W_seq ?_
  refine W_region_lit ?_
  refine L_val (v := (.string ⟨#[]⟩)) (w' := w) rfl rfl rfl rfl ?_
  refine L_nil ?_
  refine W_ret ?_
  refine ⟨_, _, res_run (rs := [.tmp 2]) (vs := [(.string ⟨#[]⟩)]) Tryd.results14 (.cons (.tmp rfl) .nil) rfl, ?_⟩
  exact ⟨rfl, hst.grow⟩

theorem SortedFunc_nil {w : World} {R : Hp} {q : Nat} (hs : Sats w R []) (h0 : Le (one q (.cells #[.map none] 65 (0, 0))) R) :
    Calls Tryd.prog 34 #[.func (.func 54) #[] #[ptr q 0], .func (.func 36) #[] #[]] w (Comes' w R [] fun v' R' L' => ∃ c a cap, v' = .slice a 0 cap ∧ L' = [c] ∧ OwnL tyPl 43 R' v' [] c) := by
  have hst := Step.refl hs
  refine calls_of_W (n := 12) Tryd.func34 rfl Tryd.ntmps34 (Nat.le_of_ble_eq_true rfl) ?_
  refine W_seq ?_
  refine W_region_lit ?_
  refine L_val (v := (.slice none 0 0)) (w' := w) rfl rfl rfl rfl ?_
  refine L_nil ?_
  refine W_seq ?_
  refine W_region_lit ?_
  refine L_val (v := (.func (.func 54) #[] #[(ptr q 0)])) (w' := w) rfl rfl rfl rfl ?_
  have hst1 := hst
  refine L_callS [] [] hst1 rfl rfl rfl (x_call (vs := #[(.func (.func 54) #[] #[(ptr q 0)])]) rfl rfl (by kernel_rfl) ent_52) (Collect_spec (N := 0) (hst1.sats.take 0 rfl) ent54 (by omega) (fun R1 h1 => Keys1_nil (Le.trans h0 h1))) (fun v2 w3 R4 L5 hp6 hle7 hst8 => ?_)
  obtain ⟨c9, ys10, rfl, hS11, ho12⟩ := hp6
  subst hS11
  obtain ⟨a13, cap14, hv15, hc16⟩ := ho12.value
  subst hv15
  refine L_val (v := (.slice a13 0 cap14)) (w' := w3) rfl rfl rfl rfl ?_
  refine L_nil ?_
  refine W_seq ?_
  refine W_region_lit ?_
  refine L_val (v := (.slice a13 0 cap14)) (w' := w3) rfl rfl rfl rfl ?_
  refine L_val (v := (.func (.func 36) #[] #[])) (w' := w3) rfl rfl rfl rfl ?_
  refine L_callG hst8 (v := (.tuple #[])) rfl rfl rfl (x_call (vs := #[(.slice a13 0 cap14), (.func (.func 36) #[] #[])]) rfl rfl (by kernel_rfl) ent_53) (SortFunc_nil (Le.refl _)) (fun w17 hst18 => ?_)
  refine L_nil ?_
  refine W_seq ?_
  refine W_region_lit ?_
  refine L_val (v := (.slice a13 0 cap14)) (w' := w17) rfl rfl rfl rfl ?_
  refine L_val (v := (.slice a13 0 cap14)) (w' := w17) rfl rfl rfl rfl ?_
  refine L_nil ?_
  refine W_ret ?_
  refine ⟨_, _, res_run (rs := [.tmp 4]) (vs := [(.slice a13 0 cap14)]) Tryd.results34 (.cons (.tmp rfl) .nil) rfl, ?_⟩
  exact ⟨_, _, [c9], rfl, (hst18).keepN 1 rfl, _, _, _, rfl, rfl, ho12⟩

theorem Text_zero {w : World} {z : Nat} (hz : Le (zeroB z) (hp w)) :
    Calls Tryd.prog 14 #[ptr z 0] w fun e' w' => e' = .returned (.string ⟨#[]⟩) ∧ Grow w w' := by
  have hst := Step.ro (Le.refl (hp w))
  refine calls_of_W (n := 60) Tryd.func14 rfl Tryd.ntmps14 (Nat.le_of_ble_eq_true rfl) ?_
  refine W_seq ?_
  refine W_region_lit ?_
  refine L_val (v := (.string ⟨#[]⟩)) (w' := w) rfl rfl rfl rfl ?_
  refine L_nil ?_
  refine W_seq ?_
  refine W_seq ?_
  refine W_region_lit ?_
  refine L_val (v := (ptr z 0)) (w' := w) rfl rfl rfl rfl ?_
  refine L_val (v := (.bool false)) (w' := w) rfl rfl rfl (by kernel_rfl) ?_
  refine L_nil ?_
  refine W_cond_false (by show Value.bool _ = _; exact congrArg Value.bool rfl) ?_
  refine W_skip ?_
  refine W_seq ?_
  refine W_region_lit ?_
  refine L_val (v := (ptr z 0)) (w' := w) rfl rfl rfl rfl ?_
  refine L_val (v := (ptr z 0)) (w' := w) rfl rfl rfl rfl ?_
  refine L_val (v := (ptr z 4)) (w' := w) rfl rfl rfl (by kernel_rfl) ?_
  refine L_val (v := (.map none)) (w' := w) rfl rfl rfl (x_load rfl rfl (run_loadVar_one ti_65 (hst.rle' _ _ (hz _ _ (one_self _ _))) rfl)) ?_
  refine L_call rfl rfl rfl (x_call (vs := #[(.map none)]) rfl rfl (by kernel_rfl) ent_35) ?_ (fun _ _ h => h)
  refine calls_of_W (n := 4) Tryd.func35 rfl Tryd.ntmps35 (Nat.le_of_ble_eq_true rfl) ?_
  refine W_seq ?_
  refine W_region_lit ?_
  refine L_new hst (v := fun b => ptr b 0) (ob := .cells #[(.map none)] 65 (0, 0)) rfl rfl rfl (by kernel_rfl) (fun b1 w2 hst3 => ?_)
  refine L_val (v := .nilFunc) (w' := w2) rfl rfl rfl rfl ?_
  refine L_nil ?_
  refine W_seq ?_
  refine W_region_lit ?_
  refine L_val (v := (.func (.func 54) #[] #[(ptr b1 0)])) (w' := w2) rfl rfl rfl (by kernel_rfl) ?_
  refine L_val (v := (.func (.func 54) #[] #[(ptr b1 0)])) (w' := w2) rfl rfl rfl rfl ?_
  refine L_nil ?_
  refine W_ret ?_
  refine ⟨_, _, res_run (rs := [.tmp 2]) (vs := [(.func (.func 54) #[] #[(ptr b1 0)])]) Tryd.results35 (.cons (.tmp rfl) .nil) rfl, ?_⟩
  refine ⟨_, rfl, ?_⟩
  obtain ⟨R4, hst5, hle6, hc7⟩ := Step.frz hst3
  have hst8 := hst5
  refine L_callS [] [] hst8 rfl rfl rfl (x_call (vs := #[(.func (.func 54) #[] #[(ptr b1 0)]), (.func (.func 36) #[] #[])]) rfl rfl (by kernel_rfl) ent_34) (SortedFunc_nil (hst8.sats.take 0 rfl) hc7) (fun v9 w10 R11 L12 hp13 hle14 hst15 => ?_)
  obtain ⟨c16, a17, cap18, rfl, rfl, ho19⟩ := hp13
  refine L_val (v := (.slice a17 0 cap18)) (w' := w10) rfl rfl rfl rfl ?_
  refine L_nil ?_
  refine W_seq ?_
  refine W_region_lit ?_
  refine L_new hst15 (v := fun b => ptr b 0) (ob := .cells #[(.pointer none), (.slice none 0 0)] 86 (0, 0)) rfl rfl rfl (by kernel_rfl) (fun b20 w21 hst22 => ?_)
  refine L_nil ?_
  refine W_seq ?_
  refine W_seq ?_
  obtain ⟨c23, hst24, hB25⟩ := Bld.new hst22
  refine W_region_lit ?_
  refine L_val (v := (.slice a17 0 cap18)) (w' := w21) rfl rfl rfl rfl ?_
  refine L_val (v := (.int .i64 0)) (w' := w21) rfl rfl rfl (x_len_slice rfl sl_76 rfl) ?_
  refine L_val (v := (.int .i64 0)) (w' := w21) rfl rfl rfl rfl ?_
  refine L_nil ?_
  refine W_block ?_
  refine W_loop_once ?_
  refine W_seq ?_
  refine W_region_lit ?_
  refine L_val (v := (.bool false)) (w' := w21) rfl rfl rfl (by kernel_rfl) ?_
  refine L_nil ?_
  refine W_seq ?_
  refine W_cond_false (by show Value.bool _ = _; exact congrArg Value.bool rfl) ?_
  refine W_exit ?_
  refine W_seq ?_
  refine W_region_lit ?_
  refine L_call rfl rfl rfl (x_call (vs := #[(ptr b20 0)]) rfl rfl (by kernel_rfl) ent_41) (Tryd.Builder_String_any w.heap.size b20 [] w21 (Bld.is hB25 (hst24.get (i := 0) rfl) (Step.fresh hst24 (i := 0) rfl)) hst24.size) ?_
  rintro e26 w27 ⟨rfl, hbel⟩
  refine ⟨_, rfl, ?_⟩
  refine L_val (v := (.string ⟨([] : List UInt8).toArray⟩)) (w' := w27) rfl rfl rfl rfl ?_
  refine L_nil ?_
  refine W_ret ?_
  refine ⟨_, _, res_run (rs := [.tmp 2]) (vs := [(.string ⟨([] : List UInt8).toArray⟩)]) Tryd.results14 (.cons (.tmp rfl) .nil) rfl, ?_⟩
  exact ⟨rfl, Grow.below_of hst24.grow hbel⟩

set_option maxHeartbeats 4000000 in
theorem New8_spec {w : World} {R : Hp} {a b c d x y : Int} (hs : Sats w R []) (hT : Tab R) (ha : I64 a) (hb : I64 b) (hc : I64 c) (hd : I64 d) :
    Calls Tryd.prog 8 #[.agg #[int a, int b, int c, int d], .agg #[int x, int y]] w (Comes' w R [] fun v' R' L' => v' = .bool true ∧ L' = []) := by
  have hst := Step.refl hs
  have hz0 : (⟨#[]⟩ : ByteArray).size = 0 := rfl
  refine calls_of_W (n := 113) Tryd.func8 rfl Tryd.ntmps8 (Nat.le_of_ble_eq_true rfl) ?_
  refine W_seq ?_
  refine W_region_lit ?_
  refine L_new hst (v := fun b => ptr b 0) (ob := .cells #[(.int .i64 a), (.int .i64 b), (.int .i64 c), (.int .i64 d)] 22 (0, 0)) rfl rfl rfl (by kernel_rfl) (fun b1 w2 hst3 => ?_)
  refine L_new hst3 (v := fun b => ptr b 0) (ob := .cells #[(.int .i64 x), (.int .i64 y)] 62 (0, 0)) rfl rfl rfl (by kernel_rfl) (fun b4 w5 hst6 => ?_)
  refine L_val (v := (.bool false)) (w' := w5) rfl rfl rfl rfl ?_
  refine L_nil ?_
  refine W_seq ?_
  refine W_region_lit ?_
  have hst7 := hst6
  refine L_callS [] [one b4 (.cells #[(.int .i64 x), (.int .i64 y)] 62 (0, 0)), one b1 (.cells #[(.int .i64 a), (.int .i64 b), (.int .i64 c), (.int .i64 d)] 22 (0, 0))] hst7 rfl rfl rfl (x_call (vs := #[]) rfl rfl (by kernel_rfl) ent_10) (sanity_spec (hst7.sats.take 0 rfl) (hT.mono (Le.refl _))) (fun v8 w9 R10 L11 hp12 hle13 hst14 => ?_)
  obtain ⟨rfl, rfl⟩ := hp12
  refine L_val (v := (.bool true)) (w' := w9) rfl rfl rfl rfl ?_
  refine L_nil ?_
  refine W_seq ?_
  rcases Classical.em (1 ≤ a ∧ a ≤ 1000 ∧ 1 ≤ b ∧ b ≤ 1000000 ∧ b + 1 ≤ c ∧ c ≤ 1000000 ∧ 1 ≤ d ∧ d ≤ 1000000) with hok | hok
  · skip
    refine W_region_lit ?_
    refine L_val (v := (ptr b1 0)) (w' := w9) rfl rfl rfl (by kernel_rfl) ?_
    refine L_val (v := (.int .i64 a)) (w' := w9) rfl rfl rfl (x_load rfl rfl (run_loadVar_one ti_3 (hst14.blk (i := 1) rfl) rfl)) ?_
    refine L_val (v := (ptr b1 1)) (w' := w9) rfl rfl rfl (by kernel_rfl) ?_
    refine L_val (v := (.int .i64 b)) (w' := w9) rfl rfl rfl (x_load rfl rfl (run_loadVar_one ti_3 (hst14.blk (i := 1) rfl) rfl)) ?_
    refine L_val (v := (ptr b1 2)) (w' := w9) rfl rfl rfl (by kernel_rfl) ?_
    refine L_val (v := (.int .i64 c)) (w' := w9) rfl rfl rfl (x_load rfl rfl (run_loadVar_one ti_3 (hst14.blk (i := 1) rfl) rfl)) ?_
    refine L_val (v := (ptr b1 3)) (w' := w9) rfl rfl rfl (by kernel_rfl) ?_
    refine L_val (v := (.int .i64 d)) (w' := w9) rfl rfl rfl (x_load rfl rfl (run_loadVar_one ti_3 (hst14.blk (i := 1) rfl) rfl)) ?_
    have hst15 := hst14
    refine L_callS [] [one b4 (.cells #[(.int .i64 x), (.int .i64 y)] 62 (0, 0)), one b1 (.cells #[(.int .i64 a), (.int .i64 b), (.int .i64 c), (.int .i64 d)] 22 (0, 0))] hst15 rfl rfl rfl (x_call (vs := #[(.int .i64 a), (.int .i64 b), (.int .i64 c), (.int .i64 d)]) rfl rfl (by kernel_rfl) ent_22) (New_spec (a := a) (b := b) (c := c) (d := d) (hst15.sats.take 0 rfl) (by omega) (by omega) (by omega) (by omega)) (fun v16 w17 R18 L19 hp20 hle21 hst22 => ?_)
    obtain ⟨p23, c24, rfl, rfl, hp25⟩ := hp20
    have hprof26 : Prof R18 p23 (⟨a, b, c, d, [], [], 0⟩ : PS) c24 := hp25
    refine L_val (v := (.tuple #[(ptr p23 0), (.int .i64 0)])) (w' := w17) rfl rfl rfl rfl ?_
    refine L_val (v := (ptr p23 0)) (w' := w17) rfl rfl rfl (by kernel_rfl) ?_
    refine L_val (v := (.int .i64 0)) (w' := w17) rfl rfl rfl (by kernel_rfl) ?_
    refine L_val (v := (ptr p23 0)) (w' := w17) rfl rfl rfl rfl ?_
    refine L_val (v := (.int .i64 0)) (w' := w17) rfl rfl rfl rfl ?_
    refine L_nil ?_
    refine W_seq ?_
    refine W_region_lit ?_
    refine L_val (v := (ptr b1 0)) (w' := w17) rfl rfl rfl (by kernel_rfl) ?_
    refine L_val (v := (.int .i64 a)) (w' := w17) rfl rfl rfl (x_load rfl rfl (run_loadVar_one ti_3 (hst22.blk (i := 2) rfl) rfl)) ?_
    refine L_val (v := (ptr b1 1)) (w' := w17) rfl rfl rfl (by kernel_rfl) ?_
    refine L_val (v := (.int .i64 b)) (w' := w17) rfl rfl rfl (x_load rfl rfl (run_loadVar_one ti_3 (hst22.blk (i := 2) rfl) rfl)) ?_
    refine L_val (v := (ptr b1 2)) (w' := w17) rfl rfl rfl (by kernel_rfl) ?_
    refine L_val (v := (.int .i64 c)) (w' := w17) rfl rfl rfl (x_load rfl rfl (run_loadVar_one ti_3 (hst22.blk (i := 2) rfl) rfl)) ?_
    refine L_val (v := (ptr b1 3)) (w' := w17) rfl rfl rfl (by kernel_rfl) ?_
    refine L_val (v := (.int .i64 d)) (w' := w17) rfl rfl rfl (x_load rfl rfl (run_loadVar_one ti_3 (hst22.blk (i := 2) rfl) rfl)) ?_
    refine L_call rfl rfl rfl (x_call (vs := #[(.int .i64 a), (.int .i64 b), (.int .i64 c), (.int .i64 d)]) rfl rfl (by kernel_rfl) ent_25) (NewR_ok (Le.refl _) ha hb hc hd hok) ?_
    rintro e27 w28 ⟨q29, rfl, hg30⟩
    have hst31 := hst22.grown hg30
    refine ⟨_, rfl, ?_⟩
    refine L_val (v := (.tuple #[(ptr q29 0), (.int .i64 0)])) (w' := w28) rfl rfl rfl rfl ?_
    refine L_val (v := (ptr q29 0)) (w' := w28) rfl rfl rfl (by kernel_rfl) ?_
    refine L_val (v := (.int .i64 0)) (w' := w28) rfl rfl rfl (by kernel_rfl) ?_
    refine L_val (v := (ptr q29 0)) (w' := w28) rfl rfl rfl rfl ?_
    refine L_val (v := (.int .i64 0)) (w' := w28) rfl rfl rfl rfl ?_
    refine L_nil ?_
    refine W_seq ?_
    refine W_seq ?_
    refine W_region_lit ?_
    refine L_val (v := (.int .i64 0)) (w' := w28) rfl rfl rfl rfl ?_
    refine L_val (v := (.int .i64 0)) (w' := w28) rfl rfl rfl rfl ?_
    refine L_val (v := (.bool false)) (w' := w28) rfl rfl rfl (by kernel_rfl) ?_
    refine L_val (v := (.bool false)) (w' := w28) rfl rfl rfl rfl ?_
    refine L_guard rfl rfl rfl rfl rfl ?_
    refine L_val (v := (ptr p23 0)) (w' := w28) rfl rfl rfl rfl ?_
    refine L_guard rfl rfl rfl rfl rfl ?_
    refine L_val (v := (.bool false)) (w' := w28) rfl rfl rfl (by kernel_rfl) ?_
    refine L_guard rfl rfl rfl rfl rfl ?_
    refine L_val (v := (.int .i64 0)) (w' := w28) rfl rfl rfl rfl ?_
    refine L_guard rfl rfl rfl rfl rfl ?_
    refine L_val (v := (.bool false)) (w' := w28) rfl rfl rfl (by kernel_rfl) ?_
    refine L_guard rfl rfl rfl rfl rfl ?_
    refine L_val (v := (.bool false)) (w' := w28) rfl rfl rfl (by kernel_rfl) ?_
    refine L_val (v := (.bool false)) (w' := w28) rfl rfl rfl rfl ?_
    refine L_nil ?_
    refine W_cond_false (by show Value.bool _ = _; exact congrArg Value.bool rfl) ?_
    refine W_skip ?_
    refine W_seq ?_
    refine W_region_lit ?_
    refine L_val (v := (ptr b4 0)) (w' := w28) rfl rfl rfl (by kernel_rfl) ?_
    refine L_val (v := (.int .i64 x)) (w' := w28) rfl rfl rfl (x_load rfl rfl (run_loadVar_one ti_3 (hst31.blk (i := 1) rfl) rfl)) ?_
    refine L_val (v := (ptr b4 1)) (w' := w28) rfl rfl rfl (by kernel_rfl) ?_
    refine L_val (v := (.int .i64 y)) (w' := w28) rfl rfl rfl (x_load rfl rfl (run_loadVar_one ti_3 (hst31.blk (i := 1) rfl) rfl)) ?_
    refine L_val (v := (.agg #[(.int .i64 x), (.int .i64 y)])) (w' := w28) rfl rfl rfl (by kernel_rfl) ?_
    refine L_new hst31 (v := fun b => ptr b 0) (ob := .cells #[(.int .i64 0), (.int .i64 0)] 43 (0, 0)) rfl rfl rfl (by kernel_rfl) (fun b32 w33 hst34 => ?_)
    refine L_store hst34 0 ti_43 rfl rfl rfl rfl rfl rfl rfl rfl rfl rfl rfl (fun w35 hst36 => ?_)
    change Step _ _ _ _ _ [one b32 (.cells #[(.int .i64 x), (.int .i64 y)] 43 (0, 0)), c24, one b4 (.cells #[(.int .i64 x), (.int .i64 y)] 62 (0, 0)), one b1 (.cells #[(.int .i64 a), (.int .i64 b), (.int .i64 c), (.int .i64 d)] 22 (0, 0))] at hst36
    refine L_nil ?_
    refine W_seq ?_
    refine W_region_lit ?_
    refine L_val (v := (.pointer none)) (w' := w35) rfl rfl rfl rfl ?_
    refine L_nil ?_
    refine W_seq ?_
    refine W_seq ?_
    refine W_region_lit ?_
    refine L_val (v := (.pointer none)) (w' := w35) rfl rfl rfl rfl ?_
    refine L_val (v := (.agg #[(.int .i64 0), (.int .i64 0), (.int .i64 0), (.int .i64 0), (.map none), (.slice none 0 0)])) (w' := w35) rfl rfl rfl (by kernel_rfl) ?_
    refine L_new hst36 (v := fun b => ptr b 0) (ob := .cells #[(.int .i64 0), (.int .i64 0), (.int .i64 0), (.int .i64 0), (.map none), (.slice none 0 0)] 67 (0, 0)) rfl rfl rfl (by kernel_rfl) (fun b37 w38 hst39 => ?_)
    refine L_new hst39 (v := fun b => .slice (some ⟨b, 0, none⟩) 2 2) (ob := .cells #[(.pointer none), (ptr b37 0)] 26 (0, 0)) rfl rfl rfl (by kernel_rfl) (fun b40 w41 hst42 => ?_)
    refine L_val (v := (.int .i64 2)) (w' := w41) rfl rfl rfl (x_len_slice rfl sl_68 rfl) ?_
    refine L_val (v := (.int .i64 0)) (w' := w41) rfl rfl rfl rfl ?_
    refine L_nil ?_
    refine W_block ?_
    refine W_loop_unr 2 ?_
    show W _ _ _ _ _ _ _
    refine W_seq ?_
    refine W_region_lit ?_
    refine L_val (v := (.bool true)) (w' := w41) rfl rfl rfl (by kernel_rfl) ?_
    refine L_nil ?_
    refine W_seq ?_
    refine W_cond_true (by show Value.bool _ = _; exact congrArg Value.bool rfl) ?_
    refine W_skip ?_
    refine W_seq ?_
    refine W_block ?_
    refine W_seq ?_
    refine W_region_lit ?_
    refine L_val (v := (ptr b40 0)) (w' := w41) rfl rfl rfl (x_indexAddr' (k := 0) (len := 2) rfl sl_68 ti_26 rfl rfl (by decide)) ?_
    refine L_val (v := (.pointer none)) (w' := w41) rfl rfl rfl (x_load rfl rfl (run_loadVar_one ti_26 (hst42.blk (i := 0) rfl) rfl)) ?_
    refine L_val (v := (.pointer none)) (w' := w41) rfl rfl rfl rfl ?_
    refine L_nil ?_
    refine W_seq ?_
    refine W_region_lit ?_
    refine L_val (v := (.pointer none)) (w' := w41) rfl rfl rfl rfl ?_
    refine L_val (v := (.agg #[(.int .i64 x), (.int .i64 y)])) (w' := w41) rfl rfl rfl (x_load rfl rfl (run_loadVar_agg ti_43 (hst42.blk (i := 2) rfl) (l := [(.int .i64 x), (.int .i64 y)]) rfl rfl)) ?_
    refine L_callG hst42 (v := (.tuple #[])) rfl rfl rfl (x_call (vs := #[(.pointer none), (.agg #[(.int .i64 x), (.int .i64 y)]), (.int .i64 30)]) rfl rfl (by kernel_rfl) ent_26) (Failed_nil (x, y) 30 (Le.refl _)) (fun w43 hst44 => ?_)
    refine L_nil ?_
    refine W_seq ?_
    refine W_region_lit ?_
    refine L_val (v := (.pointer none)) (w' := w43) rfl rfl rfl rfl ?_
    refine L_val (v := (.agg #[(.int .i64 x), (.int .i64 y)])) (w' := w43) rfl rfl rfl (x_load rfl rfl (run_loadVar_agg ti_43 (hst44.blk (i := 2) rfl) (l := [(.int .i64 x), (.int .i64 y)]) rfl rfl)) ?_
    refine L_callG hst44 (v := (.bool false)) rfl rfl rfl (x_call (vs := #[(.pointer none), (.agg #[(.int .i64 x), (.int .i64 y)])]) rfl rfl (by kernel_rfl) ent_23) (Back_nil (x, y) (Le.refl _)) (fun w45 hst46 => ?_)
    refine L_val (v := (.bool false)) (w' := w45) rfl rfl rfl rfl ?_
    refine L_guard rfl rfl rfl rfl rfl ?_
    refine L_val (v := (.pointer none)) (w' := w45) rfl rfl rfl rfl ?_
    refine L_guard rfl rfl rfl rfl rfl ?_
    refine L_val (v := (.agg #[(.int .i64 x), (.int .i64 y)])) (w' := w45) rfl rfl rfl (x_load rfl rfl (run_loadVar_agg ti_43 (hst46.blk (i := 2) rfl) (l := [(.int .i64 x), (.int .i64 y)]) rfl rfl)) ?_
    refine L_guard rfl rfl rfl rfl rfl ?_
    refine L_callG hst46 (v := (.bool false)) rfl rfl rfl (x_call (vs := #[(.pointer none), (.agg #[(.int .i64 x), (.int .i64 y)]), (.int .i64 0)]) rfl rfl (by kernel_rfl) ent_24) (Left_nil (x, y) 0 (Le.refl _)) (fun w47 hst48 => ?_)
    refine L_val (v := (.bool false)) (w' := w47) rfl rfl rfl rfl ?_
    refine L_val (v := (.bool false)) (w' := w47) rfl rfl rfl rfl ?_
    refine L_guard rfl rfl rfl rfl rfl ?_
    refine L_val (v := (.pointer none)) (w' := w47) rfl rfl rfl rfl ?_
    refine L_guard rfl rfl rfl rfl rfl ?_
    refine L_val (v := (.agg #[(.int .i64 x), (.int .i64 y)])) (w' := w47) rfl rfl rfl (x_load rfl rfl (run_loadVar_agg ti_43 (hst48.blk (i := 2) rfl) (l := [(.int .i64 x), (.int .i64 y)]) rfl rfl)) ?_
    refine L_guard rfl rfl rfl rfl rfl ?_
    refine L_callG hst48 (v := (.int .i64 0)) rfl rfl rfl (x_call (vs := #[(.pointer none), (.agg #[(.int .i64 x), (.int .i64 y)])]) rfl rfl (by kernel_rfl) ent_18) (Tier_nil (x, y) (Le.refl _)) (fun w49 hst50 => ?_)
    refine L_guard rfl rfl rfl rfl rfl ?_
    refine L_val (v := (.bool false)) (w' := w49) rfl rfl rfl (by kernel_rfl) ?_
    refine L_val (v := (.bool false)) (w' := w49) rfl rfl rfl rfl ?_
    refine L_val (v := (.bool false)) (w' := w49) rfl rfl rfl rfl ?_
    refine L_guard rfl rfl rfl rfl rfl ?_
    refine L_val (v := (.pointer none)) (w' := w49) rfl rfl rfl rfl ?_
    refine L_guard rfl rfl rfl rfl rfl ?_
    refine L_callG hst50 (v := (.slice none 0 0)) rfl rfl rfl (x_call (vs := #[(.pointer none)]) rfl rfl (by kernel_rfl) ent_17) (Decisions_nil (Le.refl _)) (fun w51 hst52 => ?_)
    refine L_guard rfl rfl rfl rfl rfl ?_
    refine L_val (v := (.int .i64 0)) (w' := w51) rfl rfl rfl (x_len_slice rfl sl_36 rfl) ?_
    refine L_guard rfl rfl rfl rfl rfl ?_
    refine L_val (v := (.pointer none)) (w' := w51) rfl rfl rfl rfl ?_
    refine L_guard rfl rfl rfl rfl rfl ?_
    refine L_callG hst52 (v := (.string (⟨#[]⟩ : ByteArray))) rfl rfl rfl (x_call (vs := #[(.pointer none)]) rfl rfl (by kernel_rfl) ent_14) (Text_nil (Le.refl _)) (fun w53 hst54 => ?_)
    refine L_guard rfl rfl rfl rfl rfl ?_
    refine L_val (v := (.int .i64 (((⟨#[]⟩ : ByteArray).size : Nat) : Int))) (w' := w53) rfl rfl rfl (x_len_string rfl (by kernel_rfl) rfl) ?_
    refine L_guard rfl rfl rfl rfl rfl ?_
    refine L_val (v := (.int .i64 ((0 + (⟨#[]⟩ : ByteArray).size : Nat) : Int))) (w' := w53) rfl rfl rfl (x_add_nat rfl rfl rfl (by omega)) ?_
    refine L_guard rfl rfl rfl rfl rfl ?_
    refine L_val (v := (.bool (((0 + (⟨#[]⟩ : ByteArray).size : Nat) : Int) != 0))) (w' := w53) rfl rfl rfl (by kernel_rfl) ?_
    refine L_val (v := (.bool (((0 + (⟨#[]⟩ : ByteArray).size : Nat) : Int) != 0))) (w' := w53) rfl rfl rfl rfl ?_
    refine L_nil ?_
    have c55 : (((0 + (⟨#[]⟩ : ByteArray).size : Nat) : Int) != 0) = false := (by kernel_rfl)
    have q56 : ((0 + (⟨#[]⟩ : ByteArray).size : Nat) : Int) = 0 := by simpa using c55
    refine W_cond_false (by show Value.bool _ = _; exact congrArg Value.bool c55) ?_
    refine W_skip ?_
    refine W_region_lit ?_
    refine L_val (v := (.int .i64 1)) (w' := w53) rfl rfl rfl (by kernel_rfl) ?_
    refine L_val (v := (.int .i64 1)) (w' := w53) rfl rfl rfl rfl ?_
    refine L_nil ?_
    show W _ _ _ _ _ _ _
    refine W_seq ?_
    refine W_region_lit ?_
    refine L_val (v := (.bool true)) (w' := w53) rfl rfl rfl (by kernel_rfl) ?_
    refine L_nil ?_
    refine W_seq ?_
    refine W_cond_true (by show Value.bool _ = _; exact congrArg Value.bool rfl) ?_
    refine W_skip ?_
    refine W_seq ?_
    refine W_block ?_
    refine W_seq ?_
    refine W_region_lit ?_
    refine L_val (v := (ptr b40 1)) (w' := w53) rfl rfl rfl (x_indexAddr' (k := 1) (len := 2) rfl sl_68 ti_26 rfl rfl (by decide)) ?_
    refine L_val (v := (ptr b37 0)) (w' := w53) rfl rfl rfl (x_load rfl rfl (run_loadVar_one ti_26 (hst54.blk (i := 0) rfl) rfl)) ?_
    refine L_val (v := (ptr b37 0)) (w' := w53) rfl rfl rfl rfl ?_
    refine L_nil ?_
    refine W_seq ?_
    refine W_region_lit ?_
    refine L_val (v := (ptr b37 0)) (w' := w53) rfl rfl rfl rfl ?_
    refine L_val (v := (.agg #[(.int .i64 x), (.int .i64 y)])) (w' := w53) rfl rfl rfl (x_load rfl rfl (run_loadVar_agg ti_43 (hst54.blk (i := 2) rfl) (l := [(.int .i64 x), (.int .i64 y)]) rfl rfl)) ?_
    refine L_callG hst54 (v := (.tuple #[])) rfl rfl rfl (x_call (vs := #[(ptr b37 0), (.agg #[(.int .i64 x), (.int .i64 y)]), (.int .i64 30)]) rfl rfl (by kernel_rfl) ent_26) (Failed_zero (x, y) 30 (hst54.get (i := 1) rfl) (Le.refl _)) (fun w57 hst58 => ?_)
    refine L_nil ?_
    refine W_seq ?_
    refine W_region_lit ?_
    refine L_val (v := (ptr b37 0)) (w' := w57) rfl rfl rfl rfl ?_
    refine L_val (v := (.agg #[(.int .i64 x), (.int .i64 y)])) (w' := w57) rfl rfl rfl (x_load rfl rfl (run_loadVar_agg ti_43 (hst58.blk (i := 2) rfl) (l := [(.int .i64 x), (.int .i64 y)]) rfl rfl)) ?_
    refine L_callG hst58 (v := (.bool false)) rfl rfl rfl (x_call (vs := #[(ptr b37 0), (.agg #[(.int .i64 x), (.int .i64 y)])]) rfl rfl (by kernel_rfl) ent_23) (Back_zero (x, y) (hst58.get (i := 1) rfl) (Le.refl _)) (fun w59 hst60 => ?_)
    refine L_val (v := (.bool false)) (w' := w59) rfl rfl rfl rfl ?_
    refine L_guard rfl rfl rfl rfl rfl ?_
    refine L_val (v := (ptr b37 0)) (w' := w59) rfl rfl rfl rfl ?_
    refine L_guard rfl rfl rfl rfl rfl ?_
    refine L_val (v := (.agg #[(.int .i64 x), (.int .i64 y)])) (w' := w59) rfl rfl rfl (x_load rfl rfl (run_loadVar_agg ti_43 (hst60.blk (i := 2) rfl) (l := [(.int .i64 x), (.int .i64 y)]) rfl rfl)) ?_
    refine L_guard rfl rfl rfl rfl rfl ?_
    refine L_callG hst60 (v := (.bool false)) rfl rfl rfl (x_call (vs := #[(ptr b37 0), (.agg #[(.int .i64 x), (.int .i64 y)]), (.int .i64 0)]) rfl rfl (by kernel_rfl) ent_24) (Left_zero (x, y) 0 (hst60.get (i := 1) rfl) (Le.refl _)) (fun w61 hst62 => ?_)
    refine L_val (v := (.bool false)) (w' := w61) rfl rfl rfl rfl ?_
    refine L_val (v := (.bool false)) (w' := w61) rfl rfl rfl rfl ?_
    refine L_guard rfl rfl rfl rfl rfl ?_
    refine L_val (v := (ptr b37 0)) (w' := w61) rfl rfl rfl rfl ?_
    refine L_guard rfl rfl rfl rfl rfl ?_
    refine L_val (v := (.agg #[(.int .i64 x), (.int .i64 y)])) (w' := w61) rfl rfl rfl (x_load rfl rfl (run_loadVar_agg ti_43 (hst62.blk (i := 2) rfl) (l := [(.int .i64 x), (.int .i64 y)]) rfl rfl)) ?_
    refine L_guard rfl rfl rfl rfl rfl ?_
    refine L_callG hst62 (v := (.int .i64 0)) rfl rfl rfl (x_call (vs := #[(ptr b37 0), (.agg #[(.int .i64 x), (.int .i64 y)])]) rfl rfl (by kernel_rfl) ent_18) (Tier_zero (x, y) (hst62.get (i := 1) rfl) (Le.refl _)) (fun w63 hst64 => ?_)
    refine L_guard rfl rfl rfl rfl rfl ?_
    refine L_val (v := (.bool false)) (w' := w63) rfl rfl rfl (by kernel_rfl) ?_
    refine L_val (v := (.bool false)) (w' := w63) rfl rfl rfl rfl ?_
    refine L_val (v := (.bool false)) (w' := w63) rfl rfl rfl rfl ?_
    refine L_guard rfl rfl rfl rfl rfl ?_
    refine L_val (v := (ptr b37 0)) (w' := w63) rfl rfl rfl rfl ?_
    refine L_guard rfl rfl rfl rfl rfl ?_
    refine L_callG hst64 (v := (.slice none 0 0)) rfl rfl rfl (x_call (vs := #[(ptr b37 0)]) rfl rfl (by kernel_rfl) ent_17) (Decisions_zero (hst64.get (i := 1) rfl) (Le.refl _)) (fun w65 hst66 => ?_)
    refine L_guard rfl rfl rfl rfl rfl ?_
    refine L_val (v := (.int .i64 0)) (w' := w65) rfl rfl rfl (x_len_slice rfl sl_36 rfl) ?_
    refine L_guard rfl rfl rfl rfl rfl ?_
    refine L_val (v := (ptr b37 0)) (w' := w65) rfl rfl rfl rfl ?_
    refine L_guard rfl rfl rfl rfl rfl ?_
    refine L_callG hst66 (v := (.string (⟨#[]⟩ : ByteArray))) rfl rfl rfl (x_call (vs := #[(ptr b37 0)]) rfl rfl (by kernel_rfl) ent_14) (Text_zero (hst66.get (i := 1) rfl)) (fun w67 hst68 => ?_)
    refine L_guard rfl rfl rfl rfl rfl ?_
    refine L_val (v := (.int .i64 (((⟨#[]⟩ : ByteArray).size : Nat) : Int))) (w' := w67) rfl rfl rfl (x_len_string rfl (by kernel_rfl) rfl) ?_
    refine L_guard rfl rfl rfl rfl rfl ?_
    refine L_val (v := (.int .i64 ((0 + (⟨#[]⟩ : ByteArray).size : Nat) : Int))) (w' := w67) rfl rfl rfl (x_add_nat rfl rfl rfl (by omega)) ?_
    refine L_guard rfl rfl rfl rfl rfl ?_
    refine L_val (v := (.bool (((0 + (⟨#[]⟩ : ByteArray).size : Nat) : Int) != 0))) (w' := w67) rfl rfl rfl (by kernel_rfl) ?_
    refine L_val (v := (.bool (((0 + (⟨#[]⟩ : ByteArray).size : Nat) : Int) != 0))) (w' := w67) rfl rfl rfl rfl ?_
    refine L_nil ?_
    refine W_cond_false (by show Value.bool _ = _; exact congrArg Value.bool c55) ?_
    refine W_skip ?_
    refine W_region_lit ?_
    refine L_val (v := (.int .i64 2)) (w' := w67) rfl rfl rfl (by kernel_rfl) ?_
    refine L_val (v := (.int .i64 2)) (w' := w67) rfl rfl rfl rfl ?_
    refine L_nil ?_
    show W _ _ _ _ _ _ _
    refine W_seq ?_
    refine W_region_lit ?_
    refine L_val (v := (.bool false)) (w' := w67) rfl rfl rfl (by kernel_rfl) ?_
    refine L_nil ?_
    refine W_seq ?_
    refine W_cond_false (by show Value.bool _ = _; exact congrArg Value.bool rfl) ?_
    refine W_exit ?_
    refine W_seq ?_
    refine W_region_lit ?_
    refine L_val (v := (.bool true)) (w' := w67) rfl rfl rfl rfl ?_
    refine L_val (v := (.bool true)) (w' := w67) rfl rfl rfl rfl ?_
    refine L_guard rfl rfl rfl rfl rfl ?_
    refine L_val (v := (ptr p23 0)) (w' := w67) rfl rfl rfl rfl ?_
    refine L_guard rfl rfl rfl rfl rfl ?_
    refine L_val (v := (.bool false)) (w' := w67) rfl rfl rfl (by kernel_rfl) ?_
    refine L_guard rfl rfl rfl rfl rfl ?_
    refine L_val (v := (.bool false)) (w' := w67) rfl rfl rfl rfl ?_
    refine L_guard rfl rfl rfl rfl rfl ?_
    refine L_val (v := (ptr p23 0)) (w' := w67) rfl rfl rfl rfl ?_
    refine L_guard rfl rfl rfl rfl rfl ?_
    refine L_val (v := (.agg #[(.int .i64 x), (.int .i64 y)])) (w' := w67) rfl rfl rfl (x_load rfl rfl (run_loadVar_agg ti_43 (hst68.blk (i := 2) rfl) (l := [(.int .i64 x), (.int .i64 y)]) rfl rfl)) ?_
    refine L_guard rfl rfl rfl rfl rfl ?_
    have hst69 := (hst68.front 3 rfl rfl)
    refine L_callS [c24] [one b40 (.cells #[(.pointer none), (ptr b37 0)] 26 (0, 0)), one b37 (.cells #[(.int .i64 0), (.int .i64 0), (.int .i64 0), (.int .i64 0), (.map none), (.slice none 0 0)] 67 (0, 0)), one b32 (.cells #[(.int .i64 x), (.int .i64 y)] 43 (0, 0)), one b4 (.cells #[(.int .i64 x), (.int .i64 y)] 62 (0, 0)), one b1 (.cells #[(.int .i64 a), (.int .i64 b), (.int .i64 c), (.int .i64 d)] 22 (0, 0))] hst69 rfl rfl rfl (x_call (vs := #[(ptr p23 0), (.agg #[(.int .i64 x), (.int .i64 y)])]) rfl rfl (by kernel_rfl) ent_18) (Tier_spec (s := (⟨a, b, c, d, [], [], 0⟩ : PS)) (x, y)  (hst69.sats.take 1 rfl) hprof26 (hT.mono (Le.trans hle13 hle21)) (Nat.zero_le _)) (fun v70 w71 R72 L73 hp74 hle75 hst76 => ?_)
    obtain ⟨c77, hv78, rfl, hp79⟩ := hp74
    rw [(show PS.tier (⟨a, b, c, d, [], [], 0⟩ : PS) (x, y) = 0 from rfl)] at hv78
    subst hv78
    have hprof80 : Prof R72 p23 (⟨a, b, c, d, [], [], 0⟩ : PS) c77 := hp79
    refine L_guard rfl rfl rfl rfl rfl ?_
    refine L_val (v := (.bool true)) (w' := w71) rfl rfl rfl (by kernel_rfl) ?_
    refine L_guard rfl rfl rfl rfl rfl ?_
    refine L_val (v := (.bool true)) (w' := w71) rfl rfl rfl rfl ?_
    refine L_guard rfl rfl rfl rfl rfl ?_
    refine L_val (v := (ptr p23 0)) (w' := w71) rfl rfl rfl rfl ?_
    refine L_guard rfl rfl rfl rfl rfl ?_
    refine L_callG hst76 (v := (.string (⟨#[]⟩ : ByteArray))) rfl rfl rfl (x_call (vs := #[(ptr p23 0)]) rfl rfl (by kernel_rfl) ent_14) (by refine (Text_spec hprof80 (hst76.get (i := 0) rfl) (hT.mono (Le.trans hle13 (Le.trans hle21 (Le.trans hle75 hst76.rle')))) (Nat.zero_le _) (Nat.zero_le _) (fun k_ hk_ => by cases hk_)).mono ?_; rintro e_ w_ ⟨ys_, hp_, _, rfl, hg_⟩; exact ⟨by rw [textL_nil hp_], hg_⟩) (fun w87 hst88 => ?_)
    refine L_guard rfl rfl rfl rfl rfl ?_
    refine L_val (v := (.bool true)) (w' := w87) rfl rfl rfl (by kernel_rfl) ?_
    refine L_guard rfl rfl rfl rfl rfl ?_
    refine L_val (v := (.bool true)) (w' := w87) rfl rfl rfl rfl ?_
    refine L_guard rfl rfl rfl rfl rfl ?_
    refine L_val (v := (.bool true)) (w' := w87) rfl rfl rfl rfl ?_
    refine L_guard rfl rfl rfl rfl rfl ?_
    refine L_val (v := (ptr p23 0)) (w' := w87) rfl rfl rfl rfl ?_
    refine L_guard rfl rfl rfl rfl rfl ?_
    have hst89 := hst88
    refine L_callS [c77] [one b40 (.cells #[(.pointer none), (ptr b37 0)] 26 (0, 0)), one b37 (.cells #[(.int .i64 0), (.int .i64 0), (.int .i64 0), (.int .i64 0), (.map none), (.slice none 0 0)] 67 (0, 0)), one b32 (.cells #[(.int .i64 x), (.int .i64 y)] 43 (0, 0)), one b4 (.cells #[(.int .i64 x), (.int .i64 y)] 62 (0, 0)), one b1 (.cells #[(.int .i64 a), (.int .i64 b), (.int .i64 c), (.int .i64 d)] 22 (0, 0))] hst89 rfl rfl rfl (x_call (vs := #[(ptr p23 0)]) rfl rfl (by kernel_rfl) ent_17) (Decisions_spec (hst89.sats.take 1 rfl) hprof80 (Nat.zero_le _)) (fun v90 w91 R92 L93 hp94 hle95 hst96 => ?_)
    obtain ⟨c97, c98, rfl, ho99, hp100⟩ := hp94
    have hprof101 : Prof R92 p23 (⟨a, b, c, d, [], [], 0⟩ : PS) c98 := hp100
    refine L_guard rfl rfl rfl rfl rfl ?_
    obtain ⟨a102, cap103, e104, hc105⟩ := ho99.value
    subst e104
    refine L_val (v := (.int .i64 ((([] : List Dec).length : Nat) : Int))) (w' := w91) rfl rfl rfl (x_len_slice rfl sl_36 rfl) ?_
    refine L_guard rfl rfl rfl rfl rfl ?_
    refine L_val (v := (.bool (((([] : List Dec).length : Nat) : Int) == 0))) (w' := w91) rfl rfl rfl (by kernel_rfl) ?_
    refine L_guard rfl rfl rfl rfl rfl ?_
    refine L_val (v := (.bool (((([] : List Dec).length : Nat) : Int) == 0))) (w' := w91) rfl rfl rfl rfl ?_
    refine L_guard rfl rfl rfl rfl rfl ?_
    refine L_val (v := (.bool (((([] : List Dec).length : Nat) : Int) == 0))) (w' := w91) rfl rfl rfl rfl ?_
    refine L_val (v := (.bool (((([] : List Dec).length : Nat) : Int) == 0))) (w' := w91) rfl rfl rfl rfl ?_
    refine L_val (v := (.bool (((([] : List Dec).length : Nat) : Int) == 0))) (w' := w91) rfl rfl rfl rfl ?_
    refine L_nil ?_
    refine W_ret ?_
    refine ⟨_, _, res_run (rs := [.tmp 4]) (vs := [(.bool (((([] : List Dec).length : Nat) : Int) == 0))]) Tryd.results8 (.cons (.tmp rfl) .nil) rfl, ?_⟩
    exact ⟨_, _, [], rfl, hst96.keepN 0 rfl, rfl, rfl⟩
  · skip
    refine W_region_lit ?_
    refine L_val (v := (ptr b1 0)) (w' := w9) rfl rfl rfl (by kernel_rfl) ?_
    refine L_val (v := (.int .i64 a)) (w' := w9) rfl rfl rfl (x_load rfl rfl (run_loadVar_one ti_3 (hst14.blk (i := 1) rfl) rfl)) ?_
    refine L_val (v := (ptr b1 1)) (w' := w9) rfl rfl rfl (by kernel_rfl) ?_
    refine L_val (v := (.int .i64 b)) (w' := w9) rfl rfl rfl (x_load rfl rfl (run_loadVar_one ti_3 (hst14.blk (i := 1) rfl) rfl)) ?_
    refine L_val (v := (ptr b1 2)) (w' := w9) rfl rfl rfl (by kernel_rfl) ?_
    refine L_val (v := (.int .i64 c)) (w' := w9) rfl rfl rfl (x_load rfl rfl (run_loadVar_one ti_3 (hst14.blk (i := 1) rfl) rfl)) ?_
    refine L_val (v := (ptr b1 3)) (w' := w9) rfl rfl rfl (by kernel_rfl) ?_
    refine L_val (v := (.int .i64 d)) (w' := w9) rfl rfl rfl (x_load rfl rfl (run_loadVar_one ti_3 (hst14.blk (i := 1) rfl) rfl)) ?_
    refine L_callG hst14 (v := (.tuple #[(.pointer none), (.int .i64 1)])) rfl rfl rfl (x_call (vs := #[(.int .i64 a), (.int .i64 b), (.int .i64 c), (.int .i64 d)]) rfl rfl (by kernel_rfl) ent_22) (New_bad (Le.refl _) ha hb hc hd hok) (fun w106 hst107 => ?_)
    refine L_val (v := (.tuple #[(.pointer none), (.int .i64 1)])) (w' := w106) rfl rfl rfl rfl ?_
    refine L_val (v := (.pointer none)) (w' := w106) rfl rfl rfl (by kernel_rfl) ?_
    refine L_val (v := (.int .i64 1)) (w' := w106) rfl rfl rfl (by kernel_rfl) ?_
    refine L_val (v := (.pointer none)) (w' := w106) rfl rfl rfl rfl ?_
    refine L_val (v := (.int .i64 1)) (w' := w106) rfl rfl rfl rfl ?_
    refine L_nil ?_
    refine W_seq ?_
    refine W_region_lit ?_
    refine L_val (v := (ptr b1 0)) (w' := w106) rfl rfl rfl (by kernel_rfl) ?_
    refine L_val (v := (.int .i64 a)) (w' := w106) rfl rfl rfl (x_load rfl rfl (run_loadVar_one ti_3 (hst107.blk (i := 1) rfl) rfl)) ?_
    refine L_val (v := (ptr b1 1)) (w' := w106) rfl rfl rfl (by kernel_rfl) ?_
    refine L_val (v := (.int .i64 b)) (w' := w106) rfl rfl rfl (x_load rfl rfl (run_loadVar_one ti_3 (hst107.blk (i := 1) rfl) rfl)) ?_
    refine L_val (v := (ptr b1 2)) (w' := w106) rfl rfl rfl (by kernel_rfl) ?_
    refine L_val (v := (.int .i64 c)) (w' := w106) rfl rfl rfl (x_load rfl rfl (run_loadVar_one ti_3 (hst107.blk (i := 1) rfl) rfl)) ?_
    refine L_val (v := (ptr b1 3)) (w' := w106) rfl rfl rfl (by kernel_rfl) ?_
    refine L_val (v := (.int .i64 d)) (w' := w106) rfl rfl rfl (x_load rfl rfl (run_loadVar_one ti_3 (hst107.blk (i := 1) rfl) rfl)) ?_
    refine L_callG hst107 (v := (.tuple #[(.pointer none), (.int .i64 1)])) rfl rfl rfl (x_call (vs := #[(.int .i64 a), (.int .i64 b), (.int .i64 c), (.int .i64 d)]) rfl rfl (by kernel_rfl) ent_25) (NewR_bad (Le.refl _) ha hb hc hd hok) (fun w108 hst109 => ?_)
    refine L_val (v := (.tuple #[(.pointer none), (.int .i64 1)])) (w' := w108) rfl rfl rfl rfl ?_
    refine L_val (v := (.pointer none)) (w' := w108) rfl rfl rfl (by kernel_rfl) ?_
    refine L_val (v := (.int .i64 1)) (w' := w108) rfl rfl rfl (by kernel_rfl) ?_
    refine L_val (v := (.pointer none)) (w' := w108) rfl rfl rfl rfl ?_
    refine L_val (v := (.int .i64 1)) (w' := w108) rfl rfl rfl rfl ?_
    refine L_nil ?_
    refine W_seq ?_
    refine W_seq ?_
    refine W_region_lit ?_
    refine L_val (v := (.int .i64 1)) (w' := w108) rfl rfl rfl rfl ?_
    refine L_val (v := (.int .i64 1)) (w' := w108) rfl rfl rfl rfl ?_
    refine L_val (v := (.bool false)) (w' := w108) rfl rfl rfl (by kernel_rfl) ?_
    refine L_val (v := (.bool false)) (w' := w108) rfl rfl rfl rfl ?_
    refine L_guard rfl rfl rfl rfl rfl ?_
    refine L_val (v := (.pointer none)) (w' := w108) rfl rfl rfl rfl ?_
    refine L_guard rfl rfl rfl rfl rfl ?_
    refine L_val (v := (.bool true)) (w' := w108) rfl rfl rfl (by kernel_rfl) ?_
    refine L_guard rfl rfl rfl rfl rfl ?_
    refine L_val (v := (.int .i64 1)) (w' := w108) rfl rfl rfl rfl ?_
    refine L_guard rfl rfl rfl rfl rfl ?_
    refine L_val (v := (.bool true)) (w' := w108) rfl rfl rfl (by kernel_rfl) ?_
    refine L_guard rfl rfl rfl rfl rfl ?_
    refine L_val (v := (.bool false)) (w' := w108) rfl rfl rfl (by kernel_rfl) ?_
    refine L_val (v := (.bool false)) (w' := w108) rfl rfl rfl rfl ?_
    refine L_nil ?_
    refine W_cond_false (by show Value.bool _ = _; exact congrArg Value.bool rfl) ?_
    refine W_skip ?_
    refine W_seq ?_
    refine W_region_lit ?_
    refine L_val (v := (ptr b4 0)) (w' := w108) rfl rfl rfl (by kernel_rfl) ?_
    refine L_val (v := (.int .i64 x)) (w' := w108) rfl rfl rfl (x_load rfl rfl (run_loadVar_one ti_3 (hst109.blk (i := 0) rfl) rfl)) ?_
    refine L_val (v := (ptr b4 1)) (w' := w108) rfl rfl rfl (by kernel_rfl) ?_
    refine L_val (v := (.int .i64 y)) (w' := w108) rfl rfl rfl (x_load rfl rfl (run_loadVar_one ti_3 (hst109.blk (i := 0) rfl) rfl)) ?_
    refine L_val (v := (.agg #[(.int .i64 x), (.int .i64 y)])) (w' := w108) rfl rfl rfl (by kernel_rfl) ?_
    refine L_new hst109 (v := fun b => ptr b 0) (ob := .cells #[(.int .i64 0), (.int .i64 0)] 43 (0, 0)) rfl rfl rfl (by kernel_rfl) (fun b110 w111 hst112 => ?_)
    refine L_store hst112 0 ti_43 rfl rfl rfl rfl rfl rfl rfl rfl rfl rfl rfl (fun w113 hst114 => ?_)
    change Step _ _ _ _ _ [one b110 (.cells #[(.int .i64 x), (.int .i64 y)] 43 (0, 0)), one b4 (.cells #[(.int .i64 x), (.int .i64 y)] 62 (0, 0)), one b1 (.cells #[(.int .i64 a), (.int .i64 b), (.int .i64 c), (.int .i64 d)] 22 (0, 0))] at hst114
    refine L_nil ?_
    refine W_seq ?_
    refine W_region_lit ?_
    refine L_val (v := (.pointer none)) (w' := w113) rfl rfl rfl rfl ?_
    refine L_nil ?_
    refine W_seq ?_
    refine W_seq ?_
    refine W_region_lit ?_
    refine L_val (v := (.pointer none)) (w' := w113) rfl rfl rfl rfl ?_
    refine L_val (v := (.agg #[(.int .i64 0), (.int .i64 0), (.int .i64 0), (.int .i64 0), (.map none), (.slice none 0 0)])) (w' := w113) rfl rfl rfl (by kernel_rfl) ?_
    refine L_new hst114 (v := fun b => ptr b 0) (ob := .cells #[(.int .i64 0), (.int .i64 0), (.int .i64 0), (.int .i64 0), (.map none), (.slice none 0 0)] 67 (0, 0)) rfl rfl rfl (by kernel_rfl) (fun b115 w116 hst117 => ?_)
    refine L_new hst117 (v := fun b => .slice (some ⟨b, 0, none⟩) 2 2) (ob := .cells #[(.pointer none), (ptr b115 0)] 26 (0, 0)) rfl rfl rfl (by kernel_rfl) (fun b118 w119 hst120 => ?_)
    refine L_val (v := (.int .i64 2)) (w' := w119) rfl rfl rfl (x_len_slice rfl sl_68 rfl) ?_
    refine L_val (v := (.int .i64 0)) (w' := w119) rfl rfl rfl rfl ?_
    refine L_nil ?_
    refine W_block ?_
    refine W_loop_unr 2 ?_
    show W _ _ _ _ _ _ _
    refine W_seq ?_
    refine W_region_lit ?_
    refine L_val (v := (.bool true)) (w' := w119) rfl rfl rfl (by kernel_rfl) ?_
    refine L_nil ?_
    refine W_seq ?_
    refine W_cond_true (by show Value.bool _ = _; exact congrArg Value.bool rfl) ?_
    refine W_skip ?_
    refine W_seq ?_
    refine W_block ?_
    refine W_seq ?_
    refine W_region_lit ?_
    refine L_val (v := (ptr b118 0)) (w' := w119) rfl rfl rfl (x_indexAddr' (k := 0) (len := 2) rfl sl_68 ti_26 rfl rfl (by decide)) ?_
    refine L_val (v := (.pointer none)) (w' := w119) rfl rfl rfl (x_load rfl rfl (run_loadVar_one ti_26 (hst120.blk (i := 0) rfl) rfl)) ?_
    refine L_val (v := (.pointer none)) (w' := w119) rfl rfl rfl rfl ?_
    refine L_nil ?_
    refine W_seq ?_
    refine W_region_lit ?_
    refine L_val (v := (.pointer none)) (w' := w119) rfl rfl rfl rfl ?_
    refine L_val (v := (.agg #[(.int .i64 x), (.int .i64 y)])) (w' := w119) rfl rfl rfl (x_load rfl rfl (run_loadVar_agg ti_43 (hst120.blk (i := 2) rfl) (l := [(.int .i64 x), (.int .i64 y)]) rfl rfl)) ?_
    refine L_callG hst120 (v := (.tuple #[])) rfl rfl rfl (x_call (vs := #[(.pointer none), (.agg #[(.int .i64 x), (.int .i64 y)]), (.int .i64 30)]) rfl rfl (by kernel_rfl) ent_26) (Failed_nil (x, y) 30 (Le.refl _)) (fun w121 hst122 => ?_)
    refine L_nil ?_
    refine W_seq ?_
    refine W_region_lit ?_
    refine L_val (v := (.pointer none)) (w' := w121) rfl rfl rfl rfl ?_
    refine L_val (v := (.agg #[(.int .i64 x), (.int .i64 y)])) (w' := w121) rfl rfl rfl (x_load rfl rfl (run_loadVar_agg ti_43 (hst122.blk (i := 2) rfl) (l := [(.int .i64 x), (.int .i64 y)]) rfl rfl)) ?_
    refine L_callG hst122 (v := (.bool false)) rfl rfl rfl (x_call (vs := #[(.pointer none), (.agg #[(.int .i64 x), (.int .i64 y)])]) rfl rfl (by kernel_rfl) ent_23) (Back_nil (x, y) (Le.refl _)) (fun w123 hst124 => ?_)
    refine L_val (v := (.bool false)) (w' := w123) rfl rfl rfl rfl ?_
    refine L_guard rfl rfl rfl rfl rfl ?_
    refine L_val (v := (.pointer none)) (w' := w123) rfl rfl rfl rfl ?_
    refine L_guard rfl rfl rfl rfl rfl ?_
    refine L_val (v := (.agg #[(.int .i64 x), (.int .i64 y)])) (w' := w123) rfl rfl rfl (x_load rfl rfl (run_loadVar_agg ti_43 (hst124.blk (i := 2) rfl) (l := [(.int .i64 x), (.int .i64 y)]) rfl rfl)) ?_
    refine L_guard rfl rfl rfl rfl rfl ?_
    refine L_callG hst124 (v := (.bool false)) rfl rfl rfl (x_call (vs := #[(.pointer none), (.agg #[(.int .i64 x), (.int .i64 y)]), (.int .i64 0)]) rfl rfl (by kernel_rfl) ent_24) (Left_nil (x, y) 0 (Le.refl _)) (fun w125 hst126 => ?_)
    refine L_val (v := (.bool false)) (w' := w125) rfl rfl rfl rfl ?_
    refine L_val (v := (.bool false)) (w' := w125) rfl rfl rfl rfl ?_
    refine L_guard rfl rfl rfl rfl rfl ?_
    refine L_val (v := (.pointer none)) (w' := w125) rfl rfl rfl rfl ?_
    refine L_guard rfl rfl rfl rfl rfl ?_
    refine L_val (v := (.agg #[(.int .i64 x), (.int .i64 y)])) (w' := w125) rfl rfl rfl (x_load rfl rfl (run_loadVar_agg ti_43 (hst126.blk (i := 2) rfl) (l := [(.int .i64 x), (.int .i64 y)]) rfl rfl)) ?_
    refine L_guard rfl rfl rfl rfl rfl ?_
    refine L_callG hst126 (v := (.int .i64 0)) rfl rfl rfl (x_call (vs := #[(.pointer none), (.agg #[(.int .i64 x), (.int .i64 y)])]) rfl rfl (by kernel_rfl) ent_18) (Tier_nil (x, y) (Le.refl _)) (fun w127 hst128 => ?_)
    refine L_guard rfl rfl rfl rfl rfl ?_
    refine L_val (v := (.bool false)) (w' := w127) rfl rfl rfl (by kernel_rfl) ?_
    refine L_val (v := (.bool false)) (w' := w127) rfl rfl rfl rfl ?_
    refine L_val (v := (.bool false)) (w' := w127) rfl rfl rfl rfl ?_
    refine L_guard rfl rfl rfl rfl rfl ?_
    refine L_val (v := (.pointer none)) (w' := w127) rfl rfl rfl rfl ?_
    refine L_guard rfl rfl rfl rfl rfl ?_
    refine L_callG hst128 (v := (.slice none 0 0)) rfl rfl rfl (x_call (vs := #[(.pointer none)]) rfl rfl (by kernel_rfl) ent_17) (Decisions_nil (Le.refl _)) (fun w129 hst130 => ?_)
    refine L_guard rfl rfl rfl rfl rfl ?_
    refine L_val (v := (.int .i64 0)) (w' := w129) rfl rfl rfl (x_len_slice rfl sl_36 rfl) ?_
    refine L_guard rfl rfl rfl rfl rfl ?_
    refine L_val (v := (.pointer none)) (w' := w129) rfl rfl rfl rfl ?_
    refine L_guard rfl rfl rfl rfl rfl ?_
    refine L_callG hst130 (v := (.string (⟨#[]⟩ : ByteArray))) rfl rfl rfl (x_call (vs := #[(.pointer none)]) rfl rfl (by kernel_rfl) ent_14) (Text_nil (Le.refl _)) (fun w131 hst132 => ?_)
    refine L_guard rfl rfl rfl rfl rfl ?_
    refine L_val (v := (.int .i64 (((⟨#[]⟩ : ByteArray).size : Nat) : Int))) (w' := w131) rfl rfl rfl (x_len_string rfl (by kernel_rfl) rfl) ?_
    refine L_guard rfl rfl rfl rfl rfl ?_
    refine L_val (v := (.int .i64 ((0 + (⟨#[]⟩ : ByteArray).size : Nat) : Int))) (w' := w131) rfl rfl rfl (x_add_nat rfl rfl rfl (by omega)) ?_
    refine L_guard rfl rfl rfl rfl rfl ?_
    refine L_val (v := (.bool (((0 + (⟨#[]⟩ : ByteArray).size : Nat) : Int) != 0))) (w' := w131) rfl rfl rfl (by kernel_rfl) ?_
    refine L_val (v := (.bool (((0 + (⟨#[]⟩ : ByteArray).size : Nat) : Int) != 0))) (w' := w131) rfl rfl rfl rfl ?_
    refine L_nil ?_
    have c133 : (((0 + (⟨#[]⟩ : ByteArray).size : Nat) : Int) != 0) = false := (by kernel_rfl)
    have q134 : ((0 + (⟨#[]⟩ : ByteArray).size : Nat) : Int) = 0 := by simpa using c133
    refine W_cond_false (by show Value.bool _ = _; exact congrArg Value.bool c133) ?_
    refine W_skip ?_
    refine W_region_lit ?_
    refine L_val (v := (.int .i64 1)) (w' := w131) rfl rfl rfl (by kernel_rfl) ?_
    refine L_val (v := (.int .i64 1)) (w' := w131) rfl rfl rfl rfl ?_
    refine L_nil ?_
    show W _ _ _ _ _ _ _
    refine W_seq ?_
    refine W_region_lit ?_
    refine L_val (v := (.bool true)) (w' := w131) rfl rfl rfl (by kernel_rfl) ?_
    refine L_nil ?_
    refine W_seq ?_
    refine W_cond_true (by show Value.bool _ = _; exact congrArg Value.bool rfl) ?_
    refine W_skip ?_
    refine W_seq ?_
    refine W_block ?_
    refine W_seq ?_
    refine W_region_lit ?_
    refine L_val (v := (ptr b118 1)) (w' := w131) rfl rfl rfl (x_indexAddr' (k := 1) (len := 2) rfl sl_68 ti_26 rfl rfl (by decide)) ?_
    refine L_val (v := (ptr b115 0)) (w' := w131) rfl rfl rfl (x_load rfl rfl (run_loadVar_one ti_26 (hst132.blk (i := 0) rfl) rfl)) ?_
    refine L_val (v := (ptr b115 0)) (w' := w131) rfl rfl rfl rfl ?_
    refine L_nil ?_
    refine W_seq ?_
    refine W_region_lit ?_
    refine L_val (v := (ptr b115 0)) (w' := w131) rfl rfl rfl rfl ?_
    refine L_val (v := (.agg #[(.int .i64 x), (.int .i64 y)])) (w' := w131) rfl rfl rfl (x_load rfl rfl (run_loadVar_agg ti_43 (hst132.blk (i := 2) rfl) (l := [(.int .i64 x), (.int .i64 y)]) rfl rfl)) ?_
    refine L_callG hst132 (v := (.tuple #[])) rfl rfl rfl (x_call (vs := #[(ptr b115 0), (.agg #[(.int .i64 x), (.int .i64 y)]), (.int .i64 30)]) rfl rfl (by kernel_rfl) ent_26) (Failed_zero (x, y) 30 (hst132.get (i := 1) rfl) (Le.refl _)) (fun w135 hst136 => ?_)
    refine L_nil ?_
    refine W_seq ?_
    refine W_region_lit ?_
    refine L_val (v := (ptr b115 0)) (w' := w135) rfl rfl rfl rfl ?_
    refine L_val (v := (.agg #[(.int .i64 x), (.int .i64 y)])) (w' := w135) rfl rfl rfl (x_load rfl rfl (run_loadVar_agg ti_43 (hst136.blk (i := 2) rfl) (l := [(.int .i64 x), (.int .i64 y)]) rfl rfl)) ?_
    refine L_callG hst136 (v := (.bool false)) rfl rfl rfl (x_call (vs := #[(ptr b115 0), (.agg #[(.int .i64 x), (.int .i64 y)])]) rfl rfl (by kernel_rfl) ent_23) (Back_zero (x, y) (hst136.get (i := 1) rfl) (Le.refl _)) (fun w137 hst138 => ?_)
    refine L_val (v := (.bool false)) (w' := w137) rfl rfl rfl rfl ?_
    refine L_guard rfl rfl rfl rfl rfl ?_
    refine L_val (v := (ptr b115 0)) (w' := w137) rfl rfl rfl rfl ?_
    refine L_guard rfl rfl rfl rfl rfl ?_
    refine L_val (v := (.agg #[(.int .i64 x), (.int .i64 y)])) (w' := w137) rfl rfl rfl (x_load rfl rfl (run_loadVar_agg ti_43 (hst138.blk (i := 2) rfl) (l := [(.int .i64 x), (.int .i64 y)]) rfl rfl)) ?_
    refine L_guard rfl rfl rfl rfl rfl ?_
    refine L_callG hst138 (v := (.bool false)) rfl rfl rfl (x_call (vs := #[(ptr b115 0), (.agg #[(.int .i64 x), (.int .i64 y)]), (.int .i64 0)]) rfl rfl (by kernel_rfl) ent_24) (Left_zero (x, y) 0 (hst138.get (i := 1) rfl) (Le.refl _)) (fun w139 hst140 => ?_)
    refine L_val (v := (.bool false)) (w' := w139) rfl rfl rfl rfl ?_
    refine L_val (v := (.bool false)) (w' := w139) rfl rfl rfl rfl ?_
    refine L_guard rfl rfl rfl rfl rfl ?_
    refine L_val (v := (ptr b115 0)) (w' := w139) rfl rfl rfl rfl ?_
    refine L_guard rfl rfl rfl rfl rfl ?_
    refine L_val (v := (.agg #[(.int .i64 x), (.int .i64 y)])) (w' := w139) rfl rfl rfl (x_load rfl rfl (run_loadVar_agg ti_43 (hst140.blk (i := 2) rfl) (l := [(.int .i64 x), (.int .i64 y)]) rfl rfl)) ?_
    refine L_guard rfl rfl rfl rfl rfl ?_
    refine L_callG hst140 (v := (.int .i64 0)) rfl rfl rfl (x_call (vs := #[(ptr b115 0), (.agg #[(.int .i64 x), (.int .i64 y)])]) rfl rfl (by kernel_rfl) ent_18) (Tier_zero (x, y) (hst140.get (i := 1) rfl) (Le.refl _)) (fun w141 hst142 => ?_)
    refine L_guard rfl rfl rfl rfl rfl ?_
    refine L_val (v := (.bool false)) (w' := w141) rfl rfl rfl (by kernel_rfl) ?_
    refine L_val (v := (.bool false)) (w' := w141) rfl rfl rfl rfl ?_
    refine L_val (v := (.bool false)) (w' := w141) rfl rfl rfl rfl ?_
    refine L_guard rfl rfl rfl rfl rfl ?_
    refine L_val (v := (ptr b115 0)) (w' := w141) rfl rfl rfl rfl ?_
    refine L_guard rfl rfl rfl rfl rfl ?_
    refine L_callG hst142 (v := (.slice none 0 0)) rfl rfl rfl (x_call (vs := #[(ptr b115 0)]) rfl rfl (by kernel_rfl) ent_17) (Decisions_zero (hst142.get (i := 1) rfl) (Le.refl _)) (fun w143 hst144 => ?_)
    refine L_guard rfl rfl rfl rfl rfl ?_
    refine L_val (v := (.int .i64 0)) (w' := w143) rfl rfl rfl (x_len_slice rfl sl_36 rfl) ?_
    refine L_guard rfl rfl rfl rfl rfl ?_
    refine L_val (v := (ptr b115 0)) (w' := w143) rfl rfl rfl rfl ?_
    refine L_guard rfl rfl rfl rfl rfl ?_
    refine L_callG hst144 (v := (.string (⟨#[]⟩ : ByteArray))) rfl rfl rfl (x_call (vs := #[(ptr b115 0)]) rfl rfl (by kernel_rfl) ent_14) (Text_zero (hst144.get (i := 1) rfl)) (fun w145 hst146 => ?_)
    refine L_guard rfl rfl rfl rfl rfl ?_
    refine L_val (v := (.int .i64 (((⟨#[]⟩ : ByteArray).size : Nat) : Int))) (w' := w145) rfl rfl rfl (x_len_string rfl (by kernel_rfl) rfl) ?_
    refine L_guard rfl rfl rfl rfl rfl ?_
    refine L_val (v := (.int .i64 ((0 + (⟨#[]⟩ : ByteArray).size : Nat) : Int))) (w' := w145) rfl rfl rfl (x_add_nat rfl rfl rfl (by omega)) ?_
    refine L_guard rfl rfl rfl rfl rfl ?_
    refine L_val (v := (.bool (((0 + (⟨#[]⟩ : ByteArray).size : Nat) : Int) != 0))) (w' := w145) rfl rfl rfl (by kernel_rfl) ?_
    refine L_val (v := (.bool (((0 + (⟨#[]⟩ : ByteArray).size : Nat) : Int) != 0))) (w' := w145) rfl rfl rfl rfl ?_
    refine L_nil ?_
    refine W_cond_false (by show Value.bool _ = _; exact congrArg Value.bool c133) ?_
    refine W_skip ?_
    refine W_region_lit ?_
    refine L_val (v := (.int .i64 2)) (w' := w145) rfl rfl rfl (by kernel_rfl) ?_
    refine L_val (v := (.int .i64 2)) (w' := w145) rfl rfl rfl rfl ?_
    refine L_nil ?_
    show W _ _ _ _ _ _ _
    refine W_seq ?_
    refine W_region_lit ?_
    refine L_val (v := (.bool false)) (w' := w145) rfl rfl rfl (by kernel_rfl) ?_
    refine L_nil ?_
    refine W_seq ?_
    refine W_cond_false (by show Value.bool _ = _; exact congrArg Value.bool rfl) ?_
    refine W_exit ?_
    refine W_seq ?_
    refine W_region_lit ?_
    refine L_val (v := (.bool true)) (w' := w145) rfl rfl rfl rfl ?_
    refine L_val (v := (.bool true)) (w' := w145) rfl rfl rfl rfl ?_
    refine L_guard rfl rfl rfl rfl rfl ?_
    refine L_val (v := (.pointer none)) (w' := w145) rfl rfl rfl rfl ?_
    refine L_guard rfl rfl rfl rfl rfl ?_
    refine L_val (v := (.bool true)) (w' := w145) rfl rfl rfl (by kernel_rfl) ?_
    refine L_guard rfl rfl rfl rfl rfl ?_
    refine L_val (v := (.bool true)) (w' := w145) rfl rfl rfl rfl ?_
    refine L_unwanted rfl rfl rfl rfl rfl rfl rfl ?_
    refine L_unwanted rfl rfl rfl rfl rfl rfl rfl ?_
    refine L_unwanted rfl rfl rfl rfl rfl rfl rfl ?_
    refine L_unwanted rfl rfl rfl rfl rfl rfl rfl ?_
    refine L_unwanted rfl rfl rfl rfl rfl rfl rfl ?_
    refine L_unwanted_undef rfl rfl rfl rfl rfl rfl ?_
    refine L_unwanted_undef rfl rfl rfl rfl rfl rfl ?_
    refine L_unwanted_undef rfl rfl rfl rfl rfl rfl ?_
    refine L_unwanted rfl rfl rfl rfl rfl rfl rfl ?_
    refine L_unwanted rfl rfl rfl rfl rfl rfl rfl ?_
    refine L_unwanted_undef rfl rfl rfl rfl rfl rfl ?_
    refine L_unwanted_undef rfl rfl rfl rfl rfl rfl ?_
    refine L_unwanted_undef rfl rfl rfl rfl rfl rfl ?_
    refine L_unwanted_undef rfl rfl rfl rfl rfl rfl ?_
    refine L_unwanted rfl rfl rfl rfl rfl rfl rfl ?_
    refine L_guard rfl rfl rfl rfl rfl ?_
    refine L_val (v := (.bool true)) (w' := w145) rfl rfl rfl rfl ?_
    refine L_val (v := (.bool true)) (w' := w145) rfl rfl rfl rfl ?_
    refine L_val (v := (.bool true)) (w' := w145) rfl rfl rfl rfl ?_
    refine L_nil ?_
    refine W_ret ?_
    refine ⟨_, _, res_run (rs := [.tmp 4]) (vs := [(.bool true)]) Tryd.results8 (.cons (.tmp rfl) .nil) rfl, ?_⟩
    exact ⟨_, _, [], rfl, hst146.keepN 0 rfl, rfl, rfl⟩

end Go.Fx.YtdkjoljcffkpkaaDoor
