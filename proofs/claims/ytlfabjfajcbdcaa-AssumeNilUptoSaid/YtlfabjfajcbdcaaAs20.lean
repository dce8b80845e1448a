/-
  Chapter 27: Index and Contains, printed by gen20.py.
-/
import Derived.Test.YtlfabjfajcbdcaaAs13
import Derived.Test.YtlfabjfajcbdcaaFx19
import Derived.Test.YtlfabjfajcbdcaaAs19
set_option linter.unusedSimpArgs false
set_option linter.unusedVariables false
namespace Go.Fx.Ytlfabjfajcbdcaa
open Go Go.Fx Go.Proofs
set_option maxRecDepth 20000

theorem ent_42 : Ent Try.prog 42 := fun _ _ => by kernel_rfl

theorem Index_spec {w : World} {R : Hp} {v : Value} {xs : List Int} (x : Int) (hR : Le R (hp w)) (hv : RdS Ty.int R v xs) (hlen : xs.length ≤ 4611686018427387904) :
    Calls Try.prog 42 #[v, int x] w fun e w' => e = .returned (int (idxF (fun y => decide (y = x)) xs)) ∧ Grow w w' := by
  have hst := Step.ro hR
  refine calls_of_W (n := 19) Try.func42 rfl Try.ntmps42 (Nat.le_of_ble_eq_true rfl) ?_
  refine W_seq ?_
  refine W_region_lit ?_
  refine L_val (v := (.int .i64 0)) (w' := w) rfl rfl rfl rfl ?_
  refine L_nil ?_
  refine W_seq ?_
  refine W_seq ?_
  refine W_region_lit ?_
  refine L_val (v := v) (w' := w) rfl rfl rfl rfl ?_
  obtain ⟨a1, cap2, e3, hc4⟩ := hv.shape
  subst e3
  refine L_val (v := (.int .i64 (xs.length : Int))) (w' := w) rfl rfl rfl (x_len_slice rfl sl_31 rfl) ?_
  refine L_val (v := (.int .i64 0)) (w' := w) rfl rfl rfl rfl ?_
  refine L_nil ?_
  refine W_block ?_
  refine W_loop (I := fun σ w_ m_ => ∃ (σ0 : Fr) (k : Nat), σ = upd (upd (upd (upd (upd σ0 0 (.slice a1 xs.length cap2)) 1 (.int .i64 x)) 6 (.slice a1 xs.length cap2)) 7 (.int .i64 (xs.length : Int))) 8 (.int .i64 (k : Int)) ∧ mks (σ0 0) = [] ∧ Step w R [] w_ R [] ∧ k ≤ xs.length ∧ (∀ j (hj : j < xs.length), j < k → (fun y => decide (y = x)) xs[j] = false) ∧ m_ = xs.length - k) (m := xs.length - 0) ?_ ?_
  · skip
    exact ⟨_, 0, (upd_of (upd_of (upd_of (upd_of (upd_of rfl rfl) rfl) rfl) rfl) rfl), rfl, hst, (by omega), (fun j hj h => absurd h (by omega)), rfl⟩
  · skip
    rintro m13 σ_ w7 ⟨s11, k12, rfl, hmk5, hst6, hf9, hf10, rfl⟩
    refine W_seq ?_
    refine W_region_lit ?_
    refine L_val (v := (.bool (decide ((k12 : Int) < (xs.length : Int))))) (w' := w7) rfl rfl rfl (by kernel_rfl) ?_
    refine L_nil ?_
    refine W_seq ?_
    rcases Bool.eq_false_or_eq_true (decide ((k12 : Int) < (xs.length : Int))) with c14 | c14
    · skip
      have q15 := of_decide_eq_true c14
      refine W_cond_true (by show Value.bool _ = _; exact congrArg Value.bool c14) ?_
      refine W_skip ?_
      refine W_seq ?_
      refine W_block ?_
      refine W_seq ?_
      refine W_region_lit ?_
      refine L_val (v := (.int .i64 (k12 : Int))) (w' := w7) rfl rfl rfl rfl ?_
      refine L_val (v := (.int .i64 (k12 : Int))) (w' := w7) rfl rfl rfl rfl ?_
      refine L_nil ?_
      refine W_seq ?_
      refine W_region_lit ?_
      refine L_val (v := (.int .i64 x)) (w' := w7) rfl rfl rfl rfl ?_
      refine L_val (v := (.slice a1 xs.length cap2)) (w' := w7) rfl rfl rfl rfl ?_
      refine L_val (v := (.int .i64 (k12 : Int))) (w' := w7) rfl rfl rfl rfl ?_
      obtain ⟨b16, off17, cap18, cs19, T20, fz21, e22, hc23, hb24, he25⟩ := hv.open (by omega)
      cases e22
      obtain ⟨cl26, hs27, hr28⟩ := he25.at k12 (by omega)
      have hx29 : cl26 = [.int .i64 (xs[k12]'(by omega))] := hr28
      subst hx29
      refine L_val (v := (ptr b16 (off17 + k12 * 1))) (w' := w7) rfl rfl rfl (x_indexAddr' rfl sl_31 ti_3 rfl rfl (by omega)) ?_
      refine L_val (v := (.int .i64 (xs[k12]'(by omega)))) (w' := w7) rfl rfl rfl (x_load rfl rfl (run_loadVar_one ti_3 (hst6.rle' _ _ hb24) (seg_get (j := 0) hs27 rfl))) ?_
      refine L_val (v := (.bool (x == (xs[k12]'(by omega))))) (w' := w7) rfl rfl rfl (by kernel_rfl) ?_
      refine L_nil ?_
      rcases Bool.eq_false_or_eq_true (x == (xs[k12]'(by omega))) with c30 | c30
      · skip
        have q31 := eq_of_beq c30
        refine W_cond_true (by show Value.bool _ = _; exact congrArg Value.bool c30) ?_
        refine W_seq ?_
        refine W_region_lit ?_
        refine L_val (v := (.int .i64 (k12 : Int))) (w' := w7) rfl rfl rfl rfl ?_
        refine L_val (v := (.int .i64 (k12 : Int))) (w' := w7) rfl rfl rfl rfl ?_
        refine L_nil ?_
        refine W_ret ?_
        refine ⟨_, _, res_run (rs := [.tmp 4]) (vs := [(.int .i64 (k12 : Int))]) Try.results42 (.cons (.tmp rfl) .nil) hmk5, ?_⟩
        exact ⟨ret_int (idxF_at (p := fun y => decide (y = x)) (xs := xs) (k := k12) (by omega) hf10 (decide_eq_true (eq_of_beq c30).symm)).symm, hst6.grow⟩
      · skip
        have q32 := ne_of_beq_false c30
        refine W_cond_false (by show Value.bool _ = _; exact congrArg Value.bool c30) ?_
        refine W_skip ?_
        refine W_region_lit ?_
        refine L_val (v := (.int .i64 ((k12 + 1 : Nat) : Int))) (w' := w7) rfl rfl rfl (x_add_nat rfl rfl rfl (by omega)) ?_
        refine L_val (v := (.int .i64 ((k12 + 1 : Nat) : Int))) (w' := w7) rfl rfl rfl rfl ?_
        refine L_nil ?_
        refine ⟨xs.length - (k12 + 1), by first | omega | (simp only [List.length_append, List.length_cons, List.length_nil]; omega), ?_⟩
        exact ⟨_, (k12 + 1), (upd_of (upd_of (upd_of (upd_of (upd_of rfl rfl) rfl) rfl) rfl) rfl), hmk5, hst6, (by omega), (all_step (p := fun y => decide (y = x)) (xs := xs) (k := k12) (hk := by omega) hf10 (decide_eq_false (Ne.symm (ne_of_beq_false c30)))), rfl⟩
    · skip
      have q33 := of_decide_eq_false c14
      refine W_cond_false (by show Value.bool _ = _; exact congrArg Value.bool c14) ?_
      refine W_exit ?_
      refine W_seq ?_
      refine W_region_lit ?_
      refine L_val (v := (.int .i64 (-1))) (w' := w7) rfl rfl rfl rfl ?_
      refine L_nil ?_
      refine W_ret ?_
      refine ⟨_, _, res_run (rs := [.tmp 4]) (vs := [(.int .i64 (-1))]) Try.results42 (.cons (.tmp rfl) .nil) hmk5, ?_⟩
      exact ⟨ret_int (idxF_none (fun j hj => hf10 j hj (by omega))).symm, hst6.grow⟩

theorem Contains_spec {w : World} {R : Hp} {v : Value} {xs : List Int} (x : Int) (hR : Le R (hp w)) (hv : RdS Ty.int R v xs) (hlen : xs.length ≤ 4611686018427387904) :
    Calls Try.prog 25 #[v, int x] w fun e w' => e = .returned (.bool (xs.any fun y => decide (y = x))) ∧ Grow w w' := by
  have hst := Step.ro hR
  refine calls_of_W (n := 9) Try.func25 rfl Try.ntmps25 (Nat.le_of_ble_eq_true rfl) ?_
  refine W_seq ?_
  refine W_region_lit ?_
  refine L_val (v := (.bool false)) (w' := w) rfl rfl rfl rfl ?_
  refine L_nil ?_
  refine W_seq ?_
  refine W_region_lit ?_
  refine L_val (v := v) (w' := w) rfl rfl rfl rfl ?_
  refine L_val (v := (.int .i64 x)) (w' := w) rfl rfl rfl rfl ?_
  obtain ⟨a1, cap2, e3, hc4⟩ := hv.shape
  subst e3
  refine L_callG hst (v := (.int .i64 (idxF (fun y => decide (y = x)) xs))) rfl rfl rfl (x_call (vs := #[(.slice a1 xs.length cap2), (.int .i64 x)]) rfl rfl (by kernel_rfl) ent_42) (Index_spec (v := (.slice a1 xs.length cap2)) (xs := xs) x (Le.refl _) (RdS.mono hv hst.rle') hlen) (fun w5 hst6 => ?_)
  refine L_val (v := (.bool (decide (idxF (fun y => decide (y = x)) xs ≥ 0)))) (w' := w5) rfl rfl rfl (by kernel_rfl) ?_
  refine L_val (v := (.bool (decide (idxF (fun y => decide (y = x)) xs ≥ 0)))) (w' := w5) rfl rfl rfl rfl ?_
  refine L_nil ?_
  refine W_ret ?_
  refine ⟨_, _, res_run (rs := [.tmp 4]) (vs := [(.bool (decide (idxF (fun y => decide (y = x)) xs ≥ 0)))]) Try.results25 (.cons (.tmp rfl) .nil) rfl, ?_⟩
  exact ⟨ret_bool (idxF_ge _ xs), hst6.grow⟩

end Go.Fx.Ytlfabjfajcbdcaa
