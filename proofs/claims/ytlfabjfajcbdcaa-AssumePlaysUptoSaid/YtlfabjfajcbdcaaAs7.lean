/-
  Chapter 27: equal lists, printed by gen7.py.
-/
import Derived.Test.YtlfabjfajcbdcaaAs7a
set_option linter.unusedSimpArgs false
set_option linter.unusedVariables false
namespace Go.Fx.Ytlfabjfajcbdcaa
open Go Go.Fx Go.Proofs
set_option maxRecDepth 20000



theorem EqualI_spec {w : World} {R : Hp} {v1 v2 : Value} {xs ys : List Int} (hR : Le R (hp w)) (hv1 : RdS Ty.int R v1 xs) (hv2 : RdS Ty.int R v2 ys) (hx : xs.length ≤ 4611686018427387904) :
    Calls Try.prog 12 #[v1, v2] w fun e w' => e = .returned (.bool (decide (xs = ys))) ∧ Grow w w' := by
  have hst := Step.ro hR
  refine calls_of_W (n := 26) Try.func12 rfl Try.ntmps12 (Nat.le_of_ble_eq_true rfl) ?_
  refine W_seq ?_
  refine W_region_lit ?_
  refine L_val (v := (.bool false)) (w' := w) rfl rfl rfl rfl ?_
  refine L_nil ?_
  refine W_seq ?_
  refine W_seq ?_
  refine W_region_lit ?_
  refine L_val (v := v1) (w' := w) rfl rfl rfl rfl ?_
  obtain ⟨a1, cap2, e3, hc4⟩ := hv1.shape
  subst e3
  refine L_val (v := (.int .i64 (xs.length : Int))) (w' := w) rfl rfl rfl (x_len_slice rfl sl_31 rfl) ?_
  refine L_val (v := v2) (w' := w) rfl rfl rfl rfl ?_
  obtain ⟨a5, cap6, e7, hc8⟩ := hv2.shape
  subst e7
  refine L_val (v := (.int .i64 (ys.length : Int))) (w' := w) rfl rfl rfl (x_len_slice rfl sl_31 rfl) ?_
  refine L_val (v := (.bool ((xs.length : Int) != (ys.length : Int)))) (w' := w) rfl rfl rfl (by kernel_rfl) ?_
  refine L_nil ?_
  rcases Bool.eq_false_or_eq_true ((xs.length : Int) != (ys.length : Int)) with c9 | c9
  · skip
    have q10 : ¬ (xs.length : Int) = (ys.length : Int) := by simpa using c9
    refine W_cond_true (by show Value.bool _ = _; exact congrArg Value.bool c9) ?_
    refine W_seq ?_
    refine W_region_lit ?_
    refine L_val (v := (.bool false)) (w' := w) rfl rfl rfl rfl ?_
    refine L_nil ?_
    refine W_ret ?_
    refine ⟨_, _, res_run (rs := [.tmp 4]) (vs := [(.bool false)]) Try.results12 (.cons (.tmp rfl) .nil) rfl, ?_⟩
    exact ⟨ret_bool (decide_eq_false (ne_len (by have h_ := c9; simp at h_; omega))).symm, hst.grow⟩
  · skip
    have q11 : (xs.length : Int) = (ys.length : Int) := by simpa using c9
    refine W_cond_false (by show Value.bool _ = _; exact congrArg Value.bool c9) ?_
    refine W_skip ?_
    refine W_seq ?_
    refine W_seq ?_
    refine W_region_lit ?_
    refine L_val (v := (.slice a1 xs.length cap2)) (w' := w) rfl rfl rfl rfl ?_
    refine L_val (v := (.int .i64 (xs.length : Int))) (w' := w) rfl rfl rfl (x_len_slice rfl sl_31 rfl) ?_
    refine L_val (v := (.int .i64 0)) (w' := w) rfl rfl rfl rfl ?_
    refine L_nil ?_
    refine W_block ?_
    refine W_loop (I := fun σ w_ m_ => ∃ (σ0 : Fr) (k_ : Nat), σ = upd (upd (upd (upd (upd (upd (upd (upd (upd (upd σ0 0 (.slice a1 xs.length cap2)) 1 (.slice a5 ys.length cap6)) 6 (.slice a1 xs.length cap2)) 7 (.int .i64 (xs.length : Int))) 8 (.slice a5 ys.length cap6)) 9 (.int .i64 (ys.length : Int))) 10 (.bool ((xs.length : Int) != (ys.length : Int)))) 11 (.slice a1 xs.length cap2)) 12 (.int .i64 (xs.length : Int))) 13 (.int .i64 (k_ : Int)) ∧ mks (σ0 0) = [] ∧ Step w R [] w_ R [] ∧ k_ ≤ xs.length ∧ xs.length = ys.length ∧ xs.take k_ = ys.take k_ ∧ m_ = xs.length - k_) (m := xs.length - 0) ?_ ?_
    · skip
      exact ⟨_, 0, (upd_of (upd_of (upd_of (upd_of (upd_of (upd_of (upd_of (upd_of (upd_of (upd_of rfl rfl) rfl) rfl) rfl) rfl) rfl) rfl) rfl) rfl) rfl), rfl, hst, (by omega), (by omega), rfl, rfl⟩
    · skip
      rintro m21 σ_ w14 ⟨s19, k_20, rfl, hmk12, hst13, hf16, hf17, hf18, rfl⟩
      refine W_seq ?_
      refine W_region_lit ?_
      refine L_val (v := (.bool (decide ((k_20 : Int) < (xs.length : Int))))) (w' := w14) rfl rfl rfl (by kernel_rfl) ?_
      refine L_nil ?_
      refine W_seq ?_
      rcases Bool.eq_false_or_eq_true (decide ((k_20 : Int) < (xs.length : Int))) with c22 | c22
      · skip
        have q23 := of_decide_eq_true c22
        refine W_cond_true (by show Value.bool _ = _; exact congrArg Value.bool c22) ?_
        refine W_skip ?_
        refine W_seq ?_
        refine W_block ?_
        refine W_seq ?_
        refine W_region_lit ?_
        refine L_val (v := (.int .i64 (k_20 : Int))) (w' := w14) rfl rfl rfl rfl ?_
        refine L_val (v := (.int .i64 (k_20 : Int))) (w' := w14) rfl rfl rfl rfl ?_
        refine L_nil ?_
        refine W_seq ?_
        refine W_region_draw [] (fun w => Le R (hp w)) hmix (by decide +kernel) (fun _ _ h => h) ?_
        have hst25 := hst13.draws (w14.drawn + 1)
        generalize draws w14 (w14.drawn + 1) = w24 at hst25 ⊢
        refine LA_takeP (v := (.slice a1 xs.length cap2)) 0 rfl rfl rfl (by decide +kernel) (by decide +kernel) (by decide +kernel) (by decide +kernel) (fun _ _ _ h => h) (Want.plain rfl) (fun u27 => rfl) (fun _ => hst25.rle') ?_
        refine LA_takeP (v := (.int .i64 (k_20 : Int))) 1 rfl rfl rfl (by decide +kernel) (by decide +kernel) (by decide +kernel) (by decide +kernel) (fun _ _ _ h => h) (Want.plain rfl) (fun u30 => rfl) (fun _ => hst25.rle') ?_
        obtain ⟨b35, off36, cap37, cs38, T39, fz40, e41, hc42, hb43, he44⟩ := hv1.open (by omega)
        cases e41
        obtain ⟨cl45, hs46, hr47⟩ := he44.at k_20 (by omega)
        have hx48 : cl45 = [.int .i64 (xs[k_20]'(by omega))] := hr47
        subst hx48
        refine LA_takeP (v := (ptr b35 (off36 + k_20 * 1))) 2 rfl rfl rfl (by decide +kernel) (by decide +kernel) (by decide +kernel) (by decide +kernel) (fun _ _ _ h => h) (Want.plain rfl) (fun u33 => (x_indexAddr' rfl sl_31 ti_3 rfl rfl (by omega))) (fun _ => hst25.rle') ?_
        refine LA_take (v := (.int .i64 (xs[k_20]'(by omega)))) 3 rfl rfl rfl (by decide +kernel) (by decide +kernel) (by decide +kernel) (by decide +kernel) (by decide +kernel) (fun _ _ _ h => h) (Want.plain rfl) (fun u50 hF51 => (x_load rfl rfl (run_loadVar_one ti_3 (hF51 _ _ hb43) (seg_get (j := 0) hs46 rfl)))) hst25.rle' ?_
        refine LA_takeP (v := (.slice a5 ys.length cap6)) 4 rfl rfl rfl (by decide +kernel) (by decide +kernel) (by decide +kernel) (by decide +kernel) (fun _ _ _ h => h) (Want.plain rfl) (fun u53 => rfl) (fun _ => hst25.rle') ?_
        refine LA_takeP (v := (.int .i64 (k_20 : Int))) 5 rfl rfl rfl (by decide +kernel) (by decide +kernel) (by decide +kernel) (by decide +kernel) (fun _ _ _ h => h) (Want.plain rfl) (fun u56 => rfl) (fun _ => hst25.rle') ?_
        obtain ⟨b61, off62, cap63, cs64, T65, fz66, e67, hc68, hb69, he70⟩ := hv2.open (by omega)
        cases e67
        obtain ⟨cl71, hs72, hr73⟩ := he70.at k_20 (by omega)
        have hx74 : cl71 = [.int .i64 (ys[k_20]'(by omega))] := hr73
        subst hx74
        refine LA_takeP (v := (ptr b61 (off62 + k_20 * 1))) 6 rfl rfl rfl (by decide +kernel) (by decide +kernel) (by decide +kernel) (by decide +kernel) (fun _ _ _ h => h) (Want.plain rfl) (fun u59 => (x_indexAddr' rfl sl_31 ti_3 rfl rfl (by omega))) (fun _ => hst25.rle') ?_
        refine LA_take (v := (.int .i64 (ys[k_20]'(by omega)))) 7 rfl rfl rfl (by decide +kernel) (by decide +kernel) (by decide +kernel) (by decide +kernel) (by decide +kernel) (fun _ _ _ h => h) (Want.plain rfl) (fun u76 hF77 => (x_load rfl rfl (run_loadVar_one ti_3 (hF77 _ _ hb69) (seg_get (j := 0) hs72 rfl)))) hst25.rle' ?_
        refine LA_takeP (v := (.bool ((xs[k_20]'(by omega)) != (ys[k_20]'(by omega))))) 8 rfl rfl rfl (by decide +kernel) (by decide +kernel) (by decide +kernel) (by decide +kernel) (fun _ _ _ h => h) (Want.plain rfl) (fun u79 => (by kernel_rfl)) (fun _ => hst25.rle') ?_
        refine LA_done (by decide +kernel) ?_
        rcases Bool.eq_false_or_eq_true ((xs[k_20]'(by omega)) != (ys[k_20]'(by omega))) with c81 | c81
        · skip
          have q82 : ¬ (xs[k_20]'(by omega)) = (ys[k_20]'(by omega)) := by simpa using c81
          refine W_cond_true (by show Value.bool _ = _; exact congrArg Value.bool c81) ?_
          refine W_seq ?_
          refine W_region_lit ?_
          refine L_val (v := (.bool false)) (w' := w24) rfl rfl rfl rfl ?_
          refine L_nil ?_
          refine W_ret ?_
          refine ⟨_, _, res_run (rs := [.tmp 4]) (vs := [(.bool false)]) Try.results12 (.cons (.tmp rfl) .nil) hmk12, ?_⟩
          exact ⟨ret_bool (decide_eq_false (ne_at (k := k_20) (by omega) (by omega) (by simpa using c81))).symm, hst25.grow⟩
        · skip
          have q83 : (xs[k_20]'(by omega)) = (ys[k_20]'(by omega)) := by simpa using c81
          refine W_cond_false (by show Value.bool _ = _; exact congrArg Value.bool c81) ?_
          refine W_skip ?_
          refine W_region_lit ?_
          refine L_val (v := (.int .i64 ((k_20 + 1 : Nat) : Int))) (w' := w24) rfl rfl rfl (x_add_nat rfl rfl rfl (by omega)) ?_
          refine L_val (v := (.int .i64 ((k_20 + 1 : Nat) : Int))) (w' := w24) rfl rfl rfl rfl ?_
          refine L_nil ?_
          refine ⟨xs.length - (k_20 + 1), by first | omega | (simp only [List.length_append, List.length_cons, List.length_nil]; omega), ?_⟩
          exact ⟨_, (k_20 + 1), (upd_of (upd_of (upd_of (upd_of (upd_of (upd_of (upd_of (upd_of (upd_of (upd_of rfl rfl) rfl) rfl) rfl) rfl) rfl) rfl) rfl) rfl) rfl), hmk12, hst25, (by omega), (by omega), (take_step hf18 (by omega) (by omega) (by simpa using c81)), rfl⟩
      · skip
        have q84 := of_decide_eq_false c22
        refine W_cond_false (by show Value.bool _ = _; exact congrArg Value.bool c22) ?_
        refine W_exit ?_
        refine W_seq ?_
        refine W_region_lit ?_
        refine L_val (v := (.bool true)) (w' := w14) rfl rfl rfl rfl ?_
        refine L_nil ?_
        refine W_ret ?_
        refine ⟨_, _, res_run (rs := [.tmp 4]) (vs := [(.bool true)]) Try.results12 (.cons (.tmp rfl) .nil) hmk12, ?_⟩
        exact ⟨ret_bool (decide_eq_true (take_all hf18 (by omega) (by omega))).symm, hst13.grow⟩

theorem EqualF_spec {w : World} {R : Hp} {v1 v2 : Value} {xs ys : List Fact} (hR : Le R (hp w)) (hv1 : RdS tyFact R v1 xs) (hv2 : RdS tyFact R v2 ys) (hx : xs.length ≤ 4611686018427387904) :
    Calls Try.prog 26 #[v1, v2] w fun e w' => e = .returned (.bool (decide (xs = ys))) ∧ Grow w w' := by
  have hst := Step.ro hR
  refine calls_of_W (n := 26) Try.func26 rfl Try.ntmps26 (Nat.le_of_ble_eq_true rfl) ?_
  refine W_seq ?_
  refine W_region_lit ?_
  refine L_val (v := (.bool false)) (w' := w) rfl rfl rfl rfl ?_
  refine L_nil ?_
  refine W_seq ?_
  refine W_seq ?_
  refine W_region_lit ?_
  refine L_val (v := v1) (w' := w) rfl rfl rfl rfl ?_
  obtain ⟨a1, cap2, e3, hc4⟩ := hv1.shape
  subst e3
  refine L_val (v := (.int .i64 (xs.length : Int))) (w' := w) rfl rfl rfl (x_len_slice rfl sl_29 rfl) ?_
  refine L_val (v := v2) (w' := w) rfl rfl rfl rfl ?_
  obtain ⟨a5, cap6, e7, hc8⟩ := hv2.shape
  subst e7
  refine L_val (v := (.int .i64 (ys.length : Int))) (w' := w) rfl rfl rfl (x_len_slice rfl sl_29 rfl) ?_
  refine L_val (v := (.bool ((xs.length : Int) != (ys.length : Int)))) (w' := w) rfl rfl rfl (by kernel_rfl) ?_
  refine L_nil ?_
  rcases Bool.eq_false_or_eq_true ((xs.length : Int) != (ys.length : Int)) with c9 | c9
  · skip
    have q10 : ¬ (xs.length : Int) = (ys.length : Int) := by simpa using c9
    refine W_cond_true (by show Value.bool _ = _; exact congrArg Value.bool c9) ?_
    refine W_seq ?_
    refine W_region_lit ?_
    refine L_val (v := (.bool false)) (w' := w) rfl rfl rfl rfl ?_
    refine L_nil ?_
    refine W_ret ?_
    refine ⟨_, _, res_run (rs := [.tmp 4]) (vs := [(.bool false)]) Try.results26 (.cons (.tmp rfl) .nil) rfl, ?_⟩
    exact ⟨ret_bool (decide_eq_false (ne_len (by have h_ := c9; simp at h_; omega))).symm, hst.grow⟩
  · skip
    have q11 : (xs.length : Int) = (ys.length : Int) := by simpa using c9
    refine W_cond_false (by show Value.bool _ = _; exact congrArg Value.bool c9) ?_
    refine W_skip ?_
    refine W_seq ?_
    refine W_seq ?_
    refine W_region_lit ?_
    refine L_val (v := (.slice a1 xs.length cap2)) (w' := w) rfl rfl rfl rfl ?_
    refine L_val (v := (.int .i64 (xs.length : Int))) (w' := w) rfl rfl rfl (x_len_slice rfl sl_29 rfl) ?_
    refine L_val (v := (.int .i64 0)) (w' := w) rfl rfl rfl rfl ?_
    refine L_nil ?_
    refine W_block ?_
    refine W_loop (I := fun σ w_ m_ => ∃ (σ0 : Fr) (k_ : Nat), σ = upd (upd (upd (upd (upd (upd (upd (upd (upd (upd σ0 0 (.slice a1 xs.length cap2)) 1 (.slice a5 ys.length cap6)) 6 (.slice a1 xs.length cap2)) 7 (.int .i64 (xs.length : Int))) 8 (.slice a5 ys.length cap6)) 9 (.int .i64 (ys.length : Int))) 10 (.bool ((xs.length : Int) != (ys.length : Int)))) 11 (.slice a1 xs.length cap2)) 12 (.int .i64 (xs.length : Int))) 13 (.int .i64 (k_ : Int)) ∧ mks (σ0 0) = [] ∧ Step w R [] w_ R [] ∧ k_ ≤ xs.length ∧ xs.length = ys.length ∧ xs.take k_ = ys.take k_ ∧ m_ = xs.length - k_) (m := xs.length - 0) ?_ ?_
    · skip
      exact ⟨_, 0, (upd_of (upd_of (upd_of (upd_of (upd_of (upd_of (upd_of (upd_of (upd_of (upd_of rfl rfl) rfl) rfl) rfl) rfl) rfl) rfl) rfl) rfl) rfl), rfl, hst, (by omega), (by omega), rfl, rfl⟩
    · skip
      rintro m21 σ_ w14 ⟨s19, k_20, rfl, hmk12, hst13, hf16, hf17, hf18, rfl⟩
      refine W_seq ?_
      refine W_region_lit ?_
      refine L_val (v := (.bool (decide ((k_20 : Int) < (xs.length : Int))))) (w' := w14) rfl rfl rfl (by kernel_rfl) ?_
      refine L_nil ?_
      refine W_seq ?_
      rcases Bool.eq_false_or_eq_true (decide ((k_20 : Int) < (xs.length : Int))) with c22 | c22
      · skip
        have q23 := of_decide_eq_true c22
        refine W_cond_true (by show Value.bool _ = _; exact congrArg Value.bool c22) ?_
        refine W_skip ?_
        refine W_seq ?_
        refine W_block ?_
        refine W_seq ?_
        refine W_region_lit ?_
        refine L_val (v := (.int .i64 (k_20 : Int))) (w' := w14) rfl rfl rfl rfl ?_
        refine L_val (v := (.int .i64 (k_20 : Int))) (w' := w14) rfl rfl rfl rfl ?_
        refine L_nil ?_
        refine W_seq ?_
        refine W_region_draw [] (fun w => Le R (hp w)) hmix (by decide +kernel) (fun _ _ h => h) ?_
        have hst25 := hst13.draws (w14.drawn + 1)
        generalize draws w14 (w14.drawn + 1) = w24 at hst25 ⊢
        refine LA_takeP (v := (.slice a1 xs.length cap2)) 0 rfl rfl rfl (by decide +kernel) (by decide +kernel) (by decide +kernel) (by decide +kernel) (fun _ _ _ h => h) (Want.plain rfl) (fun u27 => rfl) (fun _ => hst25.rle') ?_
        refine LA_takeP (v := (.int .i64 (k_20 : Int))) 1 rfl rfl rfl (by decide +kernel) (by decide +kernel) (by decide +kernel) (by decide +kernel) (fun _ _ _ h => h) (Want.plain rfl) (fun u30 => rfl) (fun _ => hst25.rle') ?_
        obtain ⟨b35, off36, cap37, cs38, T39, fz40, e41, hc42, hb43, he44⟩ := hv1.open (by omega)
        cases e41
        obtain ⟨cl45, hs46, hr47⟩ := he44.at k_20 (by omega)
        obtain rfl := tyFact_open hr47
        refine LA_takeP (v := (ptr b35 (off36 + k_20 * 3))) 2 rfl rfl rfl (by decide +kernel) (by decide +kernel) (by decide +kernel) (by decide +kernel) (fun _ _ _ h => h) (Want.plain rfl) (fun u33 => (x_indexAddr' rfl sl_29 ti_38 rfl rfl (by omega))) (fun _ => hst25.rle') ?_
        refine LA_take (v := (.agg #[(.int .i64 ((xs[k_20]'(by omega)).kind)), (.int .i64 ((xs[k_20]'(by omega)).n)), (.int .i64 ((xs[k_20]'(by omega)).version))])) 3 rfl rfl rfl (by decide +kernel) (by decide +kernel) (by decide +kernel) (by decide +kernel) (by decide +kernel) (fun _ _ _ h => h) (Want.plain rfl) (fun u49 hF50 => (x_load rfl rfl (run_loadVar_agg ti_38 (hF50 _ _ hb43) hs46 rfl))) hst25.rle' ?_
        refine LA_takeP (v := (.slice a5 ys.length cap6)) 4 rfl rfl rfl (by decide +kernel) (by decide +kernel) (by decide +kernel) (by decide +kernel) (fun _ _ _ h => h) (Want.plain rfl) (fun u52 => rfl) (fun _ => hst25.rle') ?_
        refine LA_takeP (v := (.int .i64 (k_20 : Int))) 5 rfl rfl rfl (by decide +kernel) (by decide +kernel) (by decide +kernel) (by decide +kernel) (fun _ _ _ h => h) (Want.plain rfl) (fun u55 => rfl) (fun _ => hst25.rle') ?_
        obtain ⟨b60, off61, cap62, cs63, T64, fz65, e66, hc67, hb68, he69⟩ := hv2.open (by omega)
        cases e66
        obtain ⟨cl70, hs71, hr72⟩ := he69.at k_20 (by omega)
        obtain rfl := tyFact_open hr72
        refine LA_takeP (v := (ptr b60 (off61 + k_20 * 3))) 6 rfl rfl rfl (by decide +kernel) (by decide +kernel) (by decide +kernel) (by decide +kernel) (fun _ _ _ h => h) (Want.plain rfl) (fun u58 => (x_indexAddr' rfl sl_29 ti_38 rfl rfl (by omega))) (fun _ => hst25.rle') ?_
        refine LA_take (v := (.agg #[(.int .i64 ((ys[k_20]'(by omega)).kind)), (.int .i64 ((ys[k_20]'(by omega)).n)), (.int .i64 ((ys[k_20]'(by omega)).version))])) 7 rfl rfl rfl (by decide +kernel) (by decide +kernel) (by decide +kernel) (by decide +kernel) (by decide +kernel) (fun _ _ _ h => h) (Want.plain rfl) (fun u74 hF75 => (x_load rfl rfl (run_loadVar_agg ti_38 (hF75 _ _ hb68) hs71 rfl))) hst25.rle' ?_
        refine LA_takeP (v := (.bool (!decide ((xs[k_20]'(by omega)) = (ys[k_20]'(by omega)))))) 8 rfl rfl rfl (by decide +kernel) (by decide +kernel) (by decide +kernel) (by decide +kernel) (fun _ _ _ h => h) (Want.plain rfl) (fun u77 => (x_neq38 rfl rfl rfl)) (fun _ => hst25.rle') ?_
        refine LA_done (by decide +kernel) ?_
        rcases Bool.eq_false_or_eq_true (decide ((xs[k_20]'(by omega)) = (ys[k_20]'(by omega)))) with c79 | c79
        · skip
          refine W_cond_false (by show Value.bool _ = _; exact congrArg Value.bool (by rw [c79]; rfl)) ?_
          refine W_skip ?_
          refine W_region_lit ?_
          refine L_val (v := (.int .i64 ((k_20 + 1 : Nat) : Int))) (w' := w24) rfl rfl rfl (x_add_nat rfl rfl rfl (by omega)) ?_
          refine L_val (v := (.int .i64 ((k_20 + 1 : Nat) : Int))) (w' := w24) rfl rfl rfl rfl ?_
          refine L_nil ?_
          refine ⟨xs.length - (k_20 + 1), by first | omega | (simp only [List.length_append, List.length_cons, List.length_nil]; omega), ?_⟩
          exact ⟨_, (k_20 + 1), (upd_of (upd_of (upd_of (upd_of (upd_of (upd_of (upd_of (upd_of (upd_of (upd_of rfl rfl) rfl) rfl) rfl) rfl) rfl) rfl) rfl) rfl) rfl), hmk12, hst25, (by omega), (by omega), (take_step hf18 (by omega) (by omega) (by simpa using c79)), rfl⟩
        · skip
          refine W_cond_true (by show Value.bool _ = _; exact congrArg Value.bool (by rw [c79]; rfl)) ?_
          refine W_seq ?_
          refine W_region_lit ?_
          refine L_val (v := (.bool false)) (w' := w24) rfl rfl rfl rfl ?_
          refine L_nil ?_
          refine W_ret ?_
          refine ⟨_, _, res_run (rs := [.tmp 4]) (vs := [(.bool false)]) Try.results26 (.cons (.tmp rfl) .nil) hmk12, ?_⟩
          exact ⟨ret_bool (decide_eq_false (ne_at (k := k_20) (by omega) (by omega) (by simpa using c79))).symm, hst25.grow⟩
      · skip
        have q82 := of_decide_eq_false c22
        refine W_cond_false (by show Value.bool _ = _; exact congrArg Value.bool c22) ?_
        refine W_exit ?_
        refine W_seq ?_
        refine W_region_lit ?_
        refine L_val (v := (.bool true)) (w' := w14) rfl rfl rfl rfl ?_
        refine L_nil ?_
        refine W_ret ?_
        refine ⟨_, _, res_run (rs := [.tmp 4]) (vs := [(.bool true)]) Try.results26 (.cons (.tmp rfl) .nil) hmk12, ?_⟩
        exact ⟨ret_bool (decide_eq_true (take_all hf18 (by omega) (by omega))).symm, hst13.grow⟩

theorem fact_spec {w : World} {R : Hp} (k n v : Int) (hR : Le R (hp w)) :
    Calls Try.prog 24 #[int k, int n, int v] w fun e w' => e = .returned (encFact ⟨k, n, v⟩) ∧ Grow w w' := by
  have hst := Step.ro hR
  refine calls_of_W (n := 11) Try.func24 rfl Try.ntmps24 (Nat.le_of_ble_eq_true rfl) ?_
  refine W_seq ?_
  refine W_region_lit ?_
  refine L_new hst (v := fun b => ptr b 0) (ob := .cells #[(.int .i64 0), (.int .i64 0), (.int .i64 0)] 38 (0, 0)) rfl rfl rfl (by kernel_rfl) (fun b1 w2 hst3 => ?_)
  refine L_nil ?_
  refine W_seq ?_
  refine W_region_lit ?_
  refine L_val (v := (.int .i64 k)) (w' := w2) rfl rfl rfl rfl ?_
  refine L_val (v := (.int .i64 n)) (w' := w2) rfl rfl rfl rfl ?_
  refine L_val (v := (.int .i64 v)) (w' := w2) rfl rfl rfl rfl ?_
  refine L_val (v := (.agg #[(.int .i64 k), (.int .i64 n), (.int .i64 v)])) (w' := w2) rfl rfl rfl (by kernel_rfl) ?_
  refine L_store hst3 0 ti_38 rfl rfl rfl rfl rfl rfl rfl rfl rfl rfl rfl (fun w4 hst5 => ?_)
  change Step _ _ _ _ _ [one b1 (.cells #[(.int .i64 k), (.int .i64 n), (.int .i64 v)] 38 (0, 0))] at hst5
  refine L_nil ?_
  refine W_ret ?_
  refine ⟨_, _, res_run (rs := [.cell 6 38]) (vs := [(.agg #[(.int .i64 k), (.int .i64 n), (.int .i64 v)])]) Try.results24 (.cons (.cell rfl (run_loadVar_agg ti_38 (hst5.blk (i := 0) rfl) (l := [(.int .i64 k), (.int .i64 n), (.int .i64 v)]) rfl rfl)) .nil) rfl, ?_⟩
  exact ⟨rfl, hst5.grow⟩

end Go.Fx.Ytlfabjfajcbdcaa
