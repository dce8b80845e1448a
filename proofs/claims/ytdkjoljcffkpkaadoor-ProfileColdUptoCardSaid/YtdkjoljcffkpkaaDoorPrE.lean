/-
  Chapter 14: ProfileCold, printed by genx.py
-/
import Derived.Test.YtdkjoljcffkpkaaDoorPrD
set_option linter.unusedSimpArgs false
set_option linter.unusedVariables false
namespace Go.Fx.YtdkjoljcffkpkaaDoor
open Go Go.Fx Go.Proofs
set_option maxRecDepth 20000

theorem sl_58 : SL Tryd.prog 58 5 := Tryd.underlying58

set_option maxHeartbeats 4000000 in
theorem Cold_spec {w : World} {R : Hp} {a : Nat} {v : Value} {xs : List Int} (hs : Sats w R []) (hT : Tab R) (ha : a ≤ 255) (hv : RdS Ty.u8 R v xs) (hk : ∀ x ∈ xs, 0 ≤ x ∧ x ≤ 255) :
    Calls Tryd.prog 7 #[.int .u8 (a : Int), v] w (Comes' w R [] fun v' R' L' => v' = .bool true ∧ L' = []) := by
  have hst := Step.refl hs
  refine calls_of_W (n := 104) Tryd.func7 rfl Tryd.ntmps7 (Nat.le_of_ble_eq_true rfl) ?_
  refine W_seq ?_
  refine W_region_lit ?_
  refine L_val (v := (.bool false)) (w' := w) rfl rfl rfl rfl ?_
  refine L_nil ?_
  refine W_seq ?_
  refine W_region_lit ?_
  have hst1 := hst
  refine L_callS [] [] hst1 rfl rfl rfl (x_call (vs := #[]) rfl rfl (by kernel_rfl) ent_10) (sanity_spec (hst1.sats.take 0 rfl) (hT.mono (Le.refl _))) (fun v2 w3 R4 L5 hp6 hle7 hst8 => ?_)
  obtain ⟨rfl, rfl⟩ := hp6
  refine L_val (v := (.bool true)) (w' := w3) rfl rfl rfl rfl ?_
  refine L_nil ?_
  refine W_seq ?_
  refine W_region_lit ?_
  refine L_val (v := (.int .u8 (a : Int))) (w' := w3) rfl rfl rfl rfl ?_
  refine L_val (v := (.int .u8 ((a % 6 : Nat) : Int))) (w' := w3) rfl rfl rfl (x_remK rfl rfl rfl (by omega)) ?_
  refine L_val (v := (.int .i64 ((a % 6 : Nat) : Int))) (w' := w3) rfl rfl rfl (x_conv8 rfl rfl (by omega)) ?_
  refine L_val (v := (.int .i64 ((1 + a % 6 : Nat) : Int))) (w' := w3) rfl rfl rfl (x_add_nat rfl rfl rfl (by omega)) ?_
  refine L_val (v := (.int .i64 ((1 + a % 6 : Nat) : Int))) (w' := w3) rfl rfl rfl rfl ?_
  refine L_nil ?_
  refine W_seq ?_
  generalize hc0 : 1 + a % 6 = c
  refine W_region_lit ?_
  refine L_val (v := (.int .i64 (c : Int))) (w' := w3) rfl rfl rfl rfl ?_
  have hst9 := hst8
  refine L_callS [] [] hst9 rfl rfl rfl (x_call (vs := #[(.int .i64 1), (.int .i64 1), (.int .i64 2), (.int .i64 (c : Int))]) rfl rfl (by kernel_rfl) ent_22) (New_spec (a := 1) (b := 1) (c := 2) (d := (c : Int)) (hst9.sats.take 0 rfl) (by omega) (by omega) (by omega) (by omega)) (fun v10 w11 R12 L13 hp14 hle15 hst16 => ?_)
  obtain ⟨p17, c18, rfl, rfl, hp19⟩ := hp14
  have hprof20 : Prof R12 p17 (⟨1, 1, 2, (c : Int), [], [], 0⟩ : PS) c18 := hp19
  refine L_val (v := (.tuple #[(ptr p17 0), (.int .i64 0)])) (w' := w11) rfl rfl rfl rfl ?_
  refine L_val (v := (ptr p17 0)) (w' := w11) rfl rfl rfl (by kernel_rfl) ?_
  refine L_val (v := (.int .i64 0)) (w' := w11) rfl rfl rfl (by kernel_rfl) ?_
  refine L_val (v := (ptr p17 0)) (w' := w11) rfl rfl rfl rfl ?_
  refine L_val (v := (.int .i64 0)) (w' := w11) rfl rfl rfl rfl ?_
  refine L_nil ?_
  refine W_seq ?_
  refine W_region_lit ?_
  refine L_val (v := (.agg #[(.int .i64 0), (.int .i64 0)])) (w' := w11) rfl rfl rfl (by kernel_rfl) ?_
  refine L_new hst16 (v := fun b => ptr b 0) (ob := .cells #[(.int .i64 0), (.int .i64 0)] 43 (0, 0)) rfl rfl rfl (by kernel_rfl) (fun b21 w22 hst23 => ?_)
  refine L_store hst23 0 ti_43 rfl rfl rfl rfl rfl rfl rfl rfl rfl rfl rfl (fun w24 hst25 => ?_)
  change Step _ _ _ _ _ [one b21 (.cells #[(.int .i64 0), (.int .i64 0)] 43 (0, 0)), c18] at hst25
  refine L_nil ?_
  refine W_seq ?_
  refine W_seq ?_
  refine W_region_lit ?_
  refine L_val (v := (.int .i64 0)) (w' := w24) rfl rfl rfl rfl ?_
  refine L_val (v := (.bool false)) (w' := w24) rfl rfl rfl (by kernel_rfl) ?_
  refine L_val (v := (.bool false)) (w' := w24) rfl rfl rfl rfl ?_
  refine L_guard rfl rfl rfl rfl rfl ?_
  refine L_val (v := (ptr p17 0)) (w' := w24) rfl rfl rfl rfl ?_
  refine L_guard rfl rfl rfl rfl rfl ?_
  refine L_val (v := (.bool false)) (w' := w24) rfl rfl rfl (by kernel_rfl) ?_
  refine L_val (v := (.bool false)) (w' := w24) rfl rfl rfl rfl ?_
  refine L_nil ?_
  refine W_cond_false (by show Value.bool _ = _; exact congrArg Value.bool rfl) ?_
  refine W_skip ?_
  refine W_seq ?_
  refine W_region_lit ?_
  refine L_val (v := (.int .i64 0)) (w' := w24) rfl rfl rfl rfl ?_
  refine L_nil ?_
  refine W_seq ?_
  refine W_region_lit ?_
  refine L_new hst25 (v := fun b => .map (some b)) (ob := .map #[] 0) rfl rfl rfl (by kernel_rfl) (fun b26 w27 hst28 => ?_)
  have hm29 : MapC (Value.int .i64) (vE (Value.int .i64)) (some b26) [] _ := MapC.made b26
  generalize one b26 (.map #[] 0) = c30 at hm29 hst28
  refine L_val (v := (.map (some b26))) (w' := w27) rfl rfl rfl rfl ?_
  refine L_nil ?_
  refine W_seq ?_
  refine W_seq ?_
  refine W_region_lit ?_
  refine L_val (v := (.int .i64 0)) (w' := w27) rfl rfl rfl rfl ?_
  refine L_nil ?_
  refine W_block ?_
  refine W_loop (I := fun σ w_ m_ => ∃ (σ0 : Fr) (R_ : Hp) (k_ : Nat) (b_ : Nat) (lm_ : List (Int × Int)) (S_ : PS) (cP : Hp) (bL : Nat) (cL : Hp), σ = upd (upd (upd (upd (upd (upd (upd (upd (upd (upd (upd (upd (upd (upd (upd (upd (upd (upd (upd (upd (upd (upd (upd (upd (upd (upd (upd (upd σ0 0 (.int .u8 (a : Int))) 1 v) 5 (.bool true)) 6 (.int .i64 (c : Int))) 7 (ptr p17 0)) 8 (.int .i64 0)) 9 (ptr b21 0)) 10 (.int .i64 (b_ : Int))) 11 (.map (some bL))) 12 (.int .i64 (k_ : Int))) 16 (.bool true)) 17 (.int .u8 (a : Int))) 18 (.int .u8 ((a % 6 : Nat) : Int))) 19 (.int .i64 ((a % 6 : Nat) : Int))) 20 (.int .i64 (c : Int))) 21 (.tuple #[(ptr p17 0), (.int .i64 0)])) 22 (.int .i64 (c : Int))) 23 (.tuple #[(ptr p17 0), (.int .i64 0)])) 24 (ptr p17 0)) 25 (.int .i64 0)) 26 (.agg #[(.int .i64 0), (.int .i64 0)])) 27 (.int .i64 0)) 28 (.bool false)) 29 (.bool false)) 30 (ptr p17 0)) 31 (.bool false)) 32 (.bool false)) 33 (.map (some b26)) ∧ mks (σ0 0) = [] ∧ Step w R [] w_ R_ [cP, one b21 (.cells #[(.int .i64 0), (.int .i64 0)] 43 (0, 0)), cL] ∧ Le R12 R_ ∧ Prof R_ p17 S_ cP ∧ MapC (Value.int .i64) (vE (Value.int .i64)) (some bL) lm_ cL ∧ k_ ≤ 60 ∧ CInv c b_ lm_ S_ ∧ S_.n ≤ 3 * k_ ∧ m_ = 60 - k_) (m := 60 - 0) ?_ ?_
  · skip
    exact ⟨_, _, 0, 0, [], (⟨1, 1, 2, (c : Int), [], [], 0⟩ : PS), c18, b26, c30, (upd_of (upd_of (upd_of (upd_of (upd_of (upd_of (upd_of (upd_of (upd_of (upd_of (upd_of (upd_of (upd_of (upd_of (upd_of (upd_of (upd_of (upd_of (upd_of (upd_of (upd_of (upd_of (upd_of (upd_of (upd_of (upd_of (upd_of (upd_of rfl rfl) rfl) rfl) rfl) rfl) rfl) rfl) rfl) rfl) rfl) rfl) rfl) rfl) rfl) rfl) rfl) rfl) rfl) rfl) rfl) rfl) rfl) rfl) rfl) rfl) rfl) rfl) rfl), rfl, ((hst28.front 1 rfl rfl).front 2 rfl rfl), Le.refl _, hprof20, hm29, (by omega), (CInv.start (by omega)), (Nat.le_refl _), rfl⟩
  · skip
    rintro m49 σ_ w33 ⟨s40, R41, k_42, b_43, lm_44, S_45, cP46, bL47, cL48, rfl, hmk31, hst32, hle34, hi35, hi36, hf37, hf38, hf39, rfl⟩
    refine W_seq ?_
    refine W_seq ?_
    refine W_region_lit ?_
    refine L_val (v := (.int .i64 (k_42 : Int))) (w' := w33) rfl rfl rfl rfl ?_
    refine L_val (v := v) (w' := w33) rfl rfl rfl rfl ?_
    obtain ⟨a50, cap51, e52, hc53⟩ := hv.shape
    subst e52
    refine L_val (v := (.int .i64 (xs.length : Int))) (w' := w33) rfl rfl rfl (x_len_slice rfl sl_58 rfl) ?_
    refine L_val (v := (.bool (decide ((k_42 : Int) < (xs.length : Int))))) (w' := w33) rfl rfl rfl (by kernel_rfl) ?_
    refine L_val (v := (.bool (decide ((k_42 : Int) < (xs.length : Int))))) (w' := w33) rfl rfl rfl rfl ?_
    rcases Bool.eq_false_or_eq_true (decide ((k_42 : Int) < (xs.length : Int))) with c54 | c54
    · skip
      have q55 := of_decide_eq_true c54
      refine L_guard rfl rfl rfl rfl c54 ?_
      refine L_val (v := (.int .i64 (k_42 : Int))) (w' := w33) rfl rfl rfl rfl ?_
      refine L_guard rfl rfl rfl rfl c54 ?_
      refine L_val (v := (.bool (decide ((k_42 : Int) < 60)))) (w' := w33) rfl rfl rfl (by kernel_rfl) ?_
      refine L_val (v := (.bool (decide ((k_42 : Int) < 60)))) (w' := w33) rfl rfl rfl (x_pick rfl rfl (by rw [c54]; rfl)) ?_
      refine L_nil ?_
      rcases Bool.eq_false_or_eq_true (decide ((k_42 : Int) < 60)) with c56 | c56
      · skip
        have q57 := of_decide_eq_true c56
        refine W_cond_true (by show Value.bool _ = _; exact congrArg Value.bool c56) ?_
        refine W_skip ?_
        refine W_seq ?_
        refine W_block ?_
        refine W_seq ?_
        refine W_seq ?_
        refine W_region_lit ?_
        refine L_val (v := (.int .i64 0)) (w' := w33) rfl rfl rfl rfl ?_
        refine L_nil ?_
        refine W_block ?_
        refine W_loop (I := fun σ w_ m_ => ∃ (σ0 : Fr) (R_ : Hp) (n_ : Nat) (S_ : PS) (cP : Hp), σ = upd (upd (upd (upd (upd (upd (upd (upd (upd (upd (upd (upd (upd (upd (upd (upd (upd (upd (upd (upd (upd (upd (upd (upd (upd (upd (upd (upd (upd (upd (upd (upd (upd (upd (upd (upd (upd σ0 0 (.int .u8 (a : Int))) 1 (.slice a50 xs.length cap51)) 5 (.bool true)) 6 (.int .i64 (c : Int))) 7 (ptr p17 0)) 8 (.int .i64 0)) 9 (ptr b21 0)) 10 (.int .i64 (b_43 : Int))) 11 (.map (some bL47))) 12 (.int .i64 (k_42 : Int))) 13 (.int .i64 (n_ : Int))) 16 (.bool true)) 17 (.int .u8 (a : Int))) 18 (.int .u8 ((a % 6 : Nat) : Int))) 19 (.int .i64 ((a % 6 : Nat) : Int))) 20 (.int .i64 (c : Int))) 21 (.tuple #[(ptr p17 0), (.int .i64 0)])) 22 (.int .i64 (c : Int))) 23 (.tuple #[(ptr p17 0), (.int .i64 0)])) 24 (ptr p17 0)) 25 (.int .i64 0)) 26 (.agg #[(.int .i64 0), (.int .i64 0)])) 27 (.int .i64 0)) 28 (.bool false)) 29 (.bool false)) 30 (ptr p17 0)) 31 (.bool false)) 32 (.bool false)) 33 (.map (some b26))) 34 (.int .i64 (k_42 : Int))) 35 (.slice a50 xs.length cap51)) 36 (.int .i64 (xs.length : Int))) 37 (.bool (decide ((k_42 : Int) < (xs.length : Int))))) 38 (.bool (decide ((k_42 : Int) < (xs.length : Int))))) 39 (.int .i64 (k_42 : Int))) 40 (.bool (decide ((k_42 : Int) < 60)))) 41 (.bool (decide ((k_42 : Int) < 60))) ∧ mks (σ0 0) = [] ∧ Step w R [] w_ R_ [cP, one b21 (.cells #[(.int .i64 0), (.int .i64 0)] 43 (0, 0)), cL48] ∧ Le R41 R_ ∧ Prof R_ p17 S_ cP ∧ CIn c b_43 lm_44 k_42 n_ S_ ∧ m_ = 2 - n_) (m := 2 - 0) ?_ ?_
        · skip
          exact ⟨_, _, 0, S_45, cP46, (upd_of (upd_of (upd_of (upd_of (upd_of (upd_of (upd_of (upd_of (upd_of (upd_of (upd_of (upd_of (upd_of (upd_of (upd_of (upd_of (upd_of (upd_of (upd_of (upd_of (upd_of (upd_of (upd_of (upd_of (upd_of (upd_of (upd_of (upd_of (upd_of (upd_of (upd_of (upd_of (upd_of (upd_of (upd_of (upd_of (upd_of rfl rfl) rfl) rfl) rfl) rfl) rfl) rfl) rfl) rfl) rfl) rfl) rfl) rfl) rfl) rfl) rfl) rfl) rfl) rfl) rfl) rfl) rfl) rfl) rfl) rfl) rfl) rfl) rfl) rfl) rfl) rfl) rfl) rfl) rfl) rfl) rfl) rfl), hmk31, (((hst32.front 2 rfl rfl).front 2 rfl rfl).front 2 rfl rfl), Le.refl _, hi35, (hf38.into hf39), rfl⟩
        · skip
          rintro m69 σ_ w60 ⟨s64, R65, n_66, S_67, cP68, rfl, hmk58, hst59, hle61, hi62, hf63, rfl⟩
          refine W_seq ?_
          refine W_seq ?_
          refine W_region_lit ?_
          refine L_val (v := (.int .i64 (n_66 : Int))) (w' := w60) rfl rfl rfl rfl ?_
          refine L_val (v := (.bool (decide ((n_66 : Int) < 2)))) (w' := w60) rfl rfl rfl (by kernel_rfl) ?_
          refine L_val (v := (.bool (decide ((n_66 : Int) < 2)))) (w' := w60) rfl rfl rfl rfl ?_
          rcases Bool.eq_false_or_eq_true (decide ((n_66 : Int) < 2)) with c70 | c70
          · skip
            have q71 := of_decide_eq_true c70
            refine L_guard rfl rfl rfl rfl c70 ?_
            refine L_val (v := (ptr p17 0)) (w' := w60) rfl rfl rfl rfl ?_
            refine L_guard rfl rfl rfl rfl c70 ?_
            refine L_val (v := (.agg #[(.int .i64 0), (.int .i64 0)])) (w' := w60) rfl rfl rfl (x_load rfl rfl (run_loadVar_agg ti_43 (hst59.blk (i := 1) rfl) (l := [(.int .i64 0), (.int .i64 0)]) rfl rfl)) ?_
            refine L_guard rfl rfl rfl rfl c70 ?_
            have hst72 := hst59
            refine L_callS [cP68] [one b21 (.cells #[(.int .i64 0), (.int .i64 0)] 43 (0, 0)), cL48] hst72 rfl rfl rfl (x_call (vs := #[(ptr p17 0), (.agg #[(.int .i64 0), (.int .i64 0)])]) rfl rfl (by kernel_rfl) ent_18) (Tier_spec (s := S_67) (0, 0)  (hst72.sats.take 1 rfl) hi62 (hT.mono (Le.trans hle7 (Le.trans hle15 (Le.trans hle34 hle61)))) (by have h_ := hf63.nb; omega)) (fun v73 w74 R75 L76 hp77 hle78 hst79 => ?_)
            obtain ⟨c80, hv81, rfl, hp82⟩ := hp77
            subst hv81
            have hprof83 : Prof R75 p17 S_67 c80 := hp82
            refine L_guard rfl rfl rfl rfl c70 ?_
            refine L_val (v := (.bool (decide ((PS.tier S_67 (0, 0)) ≥ 0)))) (w' := w74) rfl rfl rfl (by kernel_rfl) ?_
            refine L_val (v := (.bool (decide ((PS.tier S_67 (0, 0)) ≥ 0)))) (w' := w74) rfl rfl rfl (x_pick rfl rfl (by rw [c70]; rfl)) ?_
            refine L_val (v := (.bool (decide ((PS.tier S_67 (0, 0)) ≥ 0)))) (w' := w74) rfl rfl rfl rfl ?_
            rcases Bool.eq_false_or_eq_true (decide ((PS.tier S_67 (0, 0)) ≥ 0)) with c84 | c84
            · skip
              have q85 := of_decide_eq_true c84
              refine L_guard rfl rfl rfl rfl c84 ?_
              refine L_val (v := (ptr p17 0)) (w' := w74) rfl rfl rfl rfl ?_
              refine L_guard rfl rfl rfl rfl c84 ?_
              refine L_val (v := (.agg #[(.int .i64 0), (.int .i64 0)])) (w' := w74) rfl rfl rfl (x_load rfl rfl (run_loadVar_agg ti_43 (hst79.blk (i := 1) rfl) (l := [(.int .i64 0), (.int .i64 0)]) rfl rfl)) ?_
              refine L_guard rfl rfl rfl rfl c84 ?_
              have hst86 := hst79
              refine L_callS [c80] [one b21 (.cells #[(.int .i64 0), (.int .i64 0)] 43 (0, 0)), cL48] hst86 rfl rfl rfl (x_call (vs := #[(ptr p17 0), (.agg #[(.int .i64 0), (.int .i64 0)])]) rfl rfl (by kernel_rfl) ent_18) (Tier_spec (s := S_67) (0, 0)  (hst86.sats.take 1 rfl) hprof83 (hT.mono (Le.trans hle7 (Le.trans hle15 (Le.trans hle34 (Le.trans hle61 hle78))))) (by have h_ := hf63.nb; omega)) (fun v87 w88 R89 L90 hp91 hle92 hst93 => ?_)
              obtain ⟨c94, hv95, rfl, hp96⟩ := hp91
              subst hv95
              have hprof97 : Prof R89 p17 S_67 c94 := hp96
              refine L_guard rfl rfl rfl rfl c84 ?_
              refine L_val (v := (.bool (decide ((PS.tier S_67 (0, 0)) < 2)))) (w' := w88) rfl rfl rfl (by kernel_rfl) ?_
              refine L_val (v := (.bool (decide ((PS.tier S_67 (0, 0)) < 2)))) (w' := w88) rfl rfl rfl (x_pick rfl rfl (by rw [c84]; rfl)) ?_
              refine L_nil ?_
              rcases Bool.eq_false_or_eq_true (decide ((PS.tier S_67 (0, 0)) < 2)) with c98 | c98
              · skip
                have q99 := of_decide_eq_true c98
                refine W_cond_true (by show Value.bool _ = _; exact congrArg Value.bool c98) ?_
                refine W_skip ?_
                refine W_seq ?_
                refine W_block ?_
                refine W_region_lit ?_
                refine L_val (v := (ptr p17 0)) (w' := w88) rfl rfl rfl rfl ?_
                refine L_val (v := (.agg #[(.int .i64 0), (.int .i64 0)])) (w' := w88) rfl rfl rfl (x_load rfl rfl (run_loadVar_agg ti_43 (hst93.blk (i := 1) rfl) (l := [(.int .i64 0), (.int .i64 0)]) rfl rfl)) ?_
                have hst100 := hst93
                refine L_callS [c94] [one b21 (.cells #[(.int .i64 0), (.int .i64 0)] 43 (0, 0)), cL48] hst100 rfl rfl rfl (x_call (vs := #[(ptr p17 0), (.agg #[(.int .i64 0), (.int .i64 0)])]) rfl rfl (by kernel_rfl) ent_23) (Back_spec (s := S_67) (0, 0)  (hst100.sats.take 1 rfl) hprof97 (hT.mono (Le.trans hle7 (Le.trans hle15 (Le.trans hle34 (Le.trans hle61 (Le.trans hle78 hle92)))))) (by have h_ := hf63.nb; omega)) (fun v101 w102 R103 L104 hp105 hle106 hst107 => ?_)
                obtain ⟨c108, hv109, rfl, hp110⟩ := hp105
                subst hv109
                have hprof111 : Prof R103 p17 (PS.back S_67 (0, 0)).1 c108 := hp110
                refine L_nil ?_
                refine W_region_lit ?_
                refine L_val (v := (.int .i64 (n_66 : Int))) (w' := w102) rfl rfl rfl rfl ?_
                refine L_val (v := (.int .i64 ((n_66 + 1 : Nat) : Int))) (w' := w102) rfl rfl rfl (x_add_nat rfl rfl rfl (by omega)) ?_
                refine L_val (v := (.int .i64 ((n_66 + 1 : Nat) : Int))) (w' := w102) rfl rfl rfl rfl ?_
                refine L_nil ?_
                refine ⟨2 - (n_66 + 1), by first | omega | (simp only [List.length_append, List.length_cons, List.length_nil]; omega), ?_⟩
                exact ⟨_, _, (n_66 + 1), ((PS.back S_67 (0, 0)).1), c108, (upd_of (upd_of (upd_of (upd_of (upd_of (upd_of (upd_of (upd_of (upd_of (upd_of (upd_of (upd_of (upd_of (upd_of (upd_of (upd_of (upd_of (upd_of (upd_of (upd_of (upd_of (upd_of (upd_of (upd_of (upd_of (upd_of (upd_of (upd_of (upd_of (upd_of (upd_of (upd_of (upd_of (upd_of (upd_of (upd_of (upd_of rfl rfl) rfl) rfl) rfl) rfl) rfl) rfl) rfl) rfl) rfl) rfl) rfl) rfl) rfl) rfl) rfl) rfl) rfl) rfl) rfl) rfl) rfl) rfl) rfl) rfl) rfl) rfl) rfl) rfl) rfl) rfl) rfl) rfl) rfl) rfl) rfl) rfl), hmk58, (((hst107.front 2 rfl rfl).front 2 rfl rfl).front 2 rfl rfl), (Le.trans hle61 (Le.trans hle78 (Le.trans hle92 hle106))), hprof111, (hf63.back (by omega) (by omega) (by omega)), rfl⟩
              · skip
                have q112 := of_decide_eq_false c98
                refine W_cond_false (by show Value.bool _ = _; exact congrArg Value.bool c98) ?_
                refine W_exit ?_
                refine W_seq ?_
                refine W_region_lit ?_
                refine L_val (v := (.slice a50 xs.length cap51)) (w' := w88) rfl rfl rfl rfl ?_
                refine L_val (v := (.int .i64 (k_42 : Int))) (w' := w88) rfl rfl rfl rfl ?_
                obtain ⟨b113, off114, cap115, cs116, T117, fz118, e119, hc120, hb121, he122⟩ := hv.open (by omega)
                cases e119
                obtain ⟨cl123, hs124, hr125⟩ := he122.at k_42 (by omega)
                obtain ⟨xn126, hxn127, hxb128⟩ := u8_nat hk (List.getElem_mem (l := xs) (n := k_42) (by omega))
                rw [hxn127] at hr125
                obtain rfl := u8_open hr125
                refine L_val (v := (ptr b113 (off114 + k_42 * 1))) (w' := w88) rfl rfl rfl (x_indexAddr' rfl sl_58 ti_5 rfl rfl (by omega)) ?_
                refine L_val (v := (.int .u8 (xn126 : Int))) (w' := w88) rfl rfl rfl (x_load rfl rfl (run_loadVar_one ti_5 ((Le.trans hle7 (Le.trans hle15 (Le.trans hle34 (Le.trans hle61 (Le.trans hle78 (Le.trans hle92 hst93.rle')))))) _ _ hb121) (seg_get (j := 0) hs124 rfl))) ?_
                refine L_val (v := (.int .u8 ((xn126 % 3 : Nat) : Int))) (w' := w88) rfl rfl rfl (x_remK rfl rfl rfl (by omega)) ?_
                refine L_val (v := (.int .i64 ((xn126 % 3 : Nat) : Int))) (w' := w88) rfl rfl rfl (x_conv8 rfl rfl (by omega)) ?_
                refine L_val (v := (.int .i64 ((xn126 % 3 : Nat) : Int))) (w' := w88) rfl rfl rfl rfl ?_
                refine L_nil ?_
                refine W_seq ?_
                refine W_seq ?_
                refine W_region_lit ?_
                refine L_val (v := (.int .i64 (b_43 : Int))) (w' := w88) rfl rfl rfl rfl ?_
                refine L_val (v := (.bool (decide ((b_43 : Int) < 3)))) (w' := w88) rfl rfl rfl (by kernel_rfl) ?_
                refine L_nil ?_
                rcases Bool.eq_false_or_eq_true (decide ((b_43 : Int) < 3)) with c129 | c129
                · skip
                  have q130 := of_decide_eq_true c129
                  refine W_cond_true (by show Value.bool _ = _; exact congrArg Value.bool c129) ?_
                  obtain ⟨hx1_, hx2_⟩ := hf63.inv.lmb ((xn126 % 3 : Nat) : Int)
                  refine W_region_lit ?_
                  refine L_val (v := (.map (some bL47))) (w' := w88) rfl rfl rfl rfl ?_
                  refine L_val (v := (.int .i64 ((xn126 % 3 : Nat) : Int))) (w' := w88) rfl rfl rfl rfl ?_
                  obtain ⟨v131, hr132, hv133⟩ := MapC.lookupD (w := w88) hi36 (hst93.get (i := 2) rfl) law3 mt_59 ti_3 ((xn126 % 3 : Nat) : Int) false 0 rfl
                  have hv133' : v131 = .int .i64 ((AL.get lm_44 ((xn126 % 3 : Nat) : Int)).getD 0) := hv133
                  subst hv133'
                  refine L_val (v := (.int .i64 ((AL.get lm_44 ((xn126 % 3 : Nat) : Int)).getD 0))) (w' := w88) rfl rfl rfl (x_lookup rfl rfl rfl hr132) ?_
                  refine L_val (v := (.int .i64 (((AL.get lm_44 ((xn126 % 3 : Nat) : Int)).getD 0) + 1))) (w' := w88) rfl rfl rfl (x_add rfl rfl rfl (by constructor <;> omega)) ?_
                  obtain ⟨c134, w135, hr136, hm137, hst138⟩ := MapC.update hi36 (hst93.front 2 rfl rfl) law3 mt_59 ((xn126 % 3 : Nat) : Int) (((AL.get lm_44 ((xn126 % 3 : Nat) : Int)).getD 0) + 1) (.int .i64 (((AL.get lm_44 ((xn126 % 3 : Nat) : Int)).getD 0) + 1)) rfl
                  refine L_skip rfl rfl (x_mapUpdate rfl rfl rfl rfl hr136) ?_
                  refine L_nil ?_
                  refine W_seq ?_
                  refine W_region_lit ?_
                  refine L_val (v := (.int .i64 (b_43 : Int))) (w' := w135) rfl rfl rfl rfl ?_
                  refine L_val (v := (.bool (decide ((b_43 : Int) < 3)))) (w' := w135) rfl rfl rfl (by kernel_rfl) ?_
                  refine L_val (v := (.bool (decide ((b_43 : Int) < 3)))) (w' := w135) rfl rfl rfl rfl ?_
                  refine L_guard rfl rfl rfl rfl c129 ?_
                  refine L_val (v := (.map (some bL47))) (w' := w135) rfl rfl rfl rfl ?_
                  refine L_guard rfl rfl rfl rfl c129 ?_
                  refine L_val (v := (.int .i64 ((xn126 % 3 : Nat) : Int))) (w' := w135) rfl rfl rfl rfl ?_
                  refine L_guard rfl rfl rfl rfl c129 ?_
                  obtain ⟨v139, hr140, hv141⟩ := MapC.lookupD (w := w135) hm137 (hst138.get (i := 0) rfl) law3 mt_59 ti_3 ((xn126 % 3 : Nat) : Int) false 0 rfl
                  have hv141' : v139 = .int .i64 ((AL.get (AL.set lm_44 ((xn126 % 3 : Nat) : Int) (((AL.get lm_44 ((xn126 % 3 : Nat) : Int)).getD 0) + 1)) ((xn126 % 3 : Nat) : Int)).getD 0) := hv141
                  subst hv141'
                  refine L_val (v := (.int .i64 ((AL.get (AL.set lm_44 ((xn126 % 3 : Nat) : Int) (((AL.get lm_44 ((xn126 % 3 : Nat) : Int)).getD 0) + 1)) ((xn126 % 3 : Nat) : Int)).getD 0))) (w' := w135) rfl rfl rfl (x_lookup rfl rfl rfl hr140) ?_
                  refine L_guard rfl rfl rfl rfl c129 ?_
                  refine L_val (v := (.int .i64 (c : Int))) (w' := w135) rfl rfl rfl rfl ?_
                  refine L_guard rfl rfl rfl rfl c129 ?_
                  refine L_val (v := (.bool (((AL.get (AL.set lm_44 ((xn126 % 3 : Nat) : Int) (((AL.get lm_44 ((xn126 % 3 : Nat) : Int)).getD 0) + 1)) ((xn126 % 3 : Nat) : Int)).getD 0) == (c : Int)))) (w' := w135) rfl rfl rfl (by kernel_rfl) ?_
                  refine L_val (v := (.bool (((AL.get (AL.set lm_44 ((xn126 % 3 : Nat) : Int) (((AL.get lm_44 ((xn126 % 3 : Nat) : Int)).getD 0) + 1)) ((xn126 % 3 : Nat) : Int)).getD 0) == (c : Int)))) (w' := w135) rfl rfl rfl (x_pick rfl rfl (by rw [c129]; rfl)) ?_
                  refine L_val (v := (.bool (((AL.get (AL.set lm_44 ((xn126 % 3 : Nat) : Int) (((AL.get lm_44 ((xn126 % 3 : Nat) : Int)).getD 0) + 1)) ((xn126 % 3 : Nat) : Int)).getD 0) == (c : Int)))) (w' := w135) rfl rfl rfl rfl ?_
                  refine L_nil ?_
                  refine W_seq ?_
                  refine W_seq ?_
                  rcases Bool.eq_false_or_eq_true (((AL.get (AL.set lm_44 ((xn126 % 3 : Nat) : Int) (((AL.get lm_44 ((xn126 % 3 : Nat) : Int)).getD 0) + 1)) ((xn126 % 3 : Nat) : Int)).getD 0) == (c : Int)) with c142 | c142
                  · skip
                    have q143 := eq_of_beq c142
                    have hmid := hf63.mid (by omega)
                    have hl_ := hmid.gone (by omega) (by omega) (x := ((xn126 % 3 : Nat) : Int)) (by omega) (by simpa [AL.get_set] using eq_of_beq c142)
                    refine W_region_lit ?_
                    refine L_val (v := (ptr p17 0)) (w' := w135) rfl rfl rfl rfl ?_
                    refine L_val (v := (.agg #[(.int .i64 0), (.int .i64 0)])) (w' := w135) rfl rfl rfl (x_load rfl rfl (run_loadVar_agg ti_43 (hst138.blk (i := 2) rfl) (l := [(.int .i64 0), (.int .i64 0)]) rfl rfl)) ?_
                    refine L_val (v := (.int .i64 ((xn126 % 3 : Nat) : Int))) (w' := w135) rfl rfl rfl rfl ?_
                    have hst144 := (hst138.front 1 rfl rfl)
                    refine L_callS [c94] [c134, one b21 (.cells #[(.int .i64 0), (.int .i64 0)] 43 (0, 0))] hst144 rfl rfl rfl (x_call (vs := #[(ptr p17 0), (.agg #[(.int .i64 0), (.int .i64 0)]), (.int .i64 ((xn126 % 3 : Nat) : Int))]) rfl rfl (by kernel_rfl) ent_24) (Left_spec (s := S_67) (0, 0) ((xn126 % 3 : Nat) : Int) (by constructor <;> first | decide | omega) (hst144.sats.take 1 rfl) hprof97 (hT.mono (Le.trans hle7 (Le.trans hle15 (Le.trans hle34 (Le.trans hle61 (Le.trans hle78 hle92)))))) (by have h_ := hmid.n; omega)) (fun v145 w146 R147 L148 hp149 hle150 hst151 => ?_)
                    obtain ⟨c152, hv153, rfl, hp154⟩ := hp149
                    subst hv153
                    have hprof155 : Prof R147 p17 (PS.left S_67 (0, 0) ((xn126 % 3 : Nat) : Int)).1 c152 := hp154
                    refine L_val (v := (.bool (((AL.get (AL.set lm_44 ((xn126 % 3 : Nat) : Int) (((AL.get lm_44 ((xn126 % 3 : Nat) : Int)).getD 0) + 1)) ((xn126 % 3 : Nat) : Int)).getD 0) == (c : Int)))) (w' := w146) rfl rfl rfl rfl ?_
                    refine L_val (v := (.bool (((PS.left S_67 (0, 0) ((xn126 % 3 : Nat) : Int)).2) != (((AL.get (AL.set lm_44 ((xn126 % 3 : Nat) : Int) (((AL.get lm_44 ((xn126 % 3 : Nat) : Int)).getD 0) + 1)) ((xn126 % 3 : Nat) : Int)).getD 0) == (c : Int))))) (w' := w146) rfl rfl rfl (by kernel_rfl) ?_
                    refine L_nil ?_
                    have c156 : (((PS.left S_67 (0, 0) ((xn126 % 3 : Nat) : Int)).2) != (((AL.get (AL.set lm_44 ((xn126 % 3 : Nat) : Int) (((AL.get lm_44 ((xn126 % 3 : Nat) : Int)).getD 0) + 1)) ((xn126 % 3 : Nat) : Int)).getD 0) == (c : Int))) = false := by rw [hl_.1, c142]; rfl
                    refine W_cond_false (by show Value.bool _ = _; exact congrArg Value.bool c156) ?_
                    refine W_skip ?_
                    refine W_seq ?_
                    refine W_region_lit ?_
                    refine L_val (v := (.bool (((AL.get (AL.set lm_44 ((xn126 % 3 : Nat) : Int) (((AL.get lm_44 ((xn126 % 3 : Nat) : Int)).getD 0) + 1)) ((xn126 % 3 : Nat) : Int)).getD 0) == (c : Int)))) (w' := w146) rfl rfl rfl rfl ?_
                    refine L_nil ?_
                    refine W_cond_true (by show Value.bool _ = _; exact congrArg Value.bool c142) ?_
                    refine W_seq ?_
                    refine W_region_lit ?_
                    refine L_val (v := (.int .i64 (b_43 : Int))) (w' := w146) rfl rfl rfl rfl ?_
                    refine L_val (v := (.int .i64 ((b_43 + 1 : Nat) : Int))) (w' := w146) rfl rfl rfl (x_add_nat rfl rfl rfl (by omega)) ?_
                    refine L_val (v := (.int .i64 ((b_43 + 1 : Nat) : Int))) (w' := w146) rfl rfl rfl rfl ?_
                    refine L_nil ?_
                    refine W_region_lit ?_
                    refine L_new hst151 (v := fun b => .map (some b)) (ob := .map #[] 0) rfl rfl rfl (by kernel_rfl) (fun b157 w158 hst159 => ?_)
                    have hm160 : MapC (Value.int .i64) (vE (Value.int .i64)) (some b157) [] _ := MapC.made b157
                    generalize one b157 (.map #[] 0) = c161 at hm160 hst159
                    refine L_val (v := (.map (some b157))) (w' := w158) rfl rfl rfl rfl ?_
                    refine L_nil ?_
                    refine W_region_lit ?_
                    refine L_val (v := (.int .i64 (k_42 : Int))) (w' := w158) rfl rfl rfl rfl ?_
                    refine L_val (v := (.int .i64 ((k_42 + 1 : Nat) : Int))) (w' := w158) rfl rfl rfl (x_add_nat rfl rfl rfl (by omega)) ?_
                    refine L_val (v := (.int .i64 ((k_42 + 1 : Nat) : Int))) (w' := w158) rfl rfl rfl rfl ?_
                    refine L_nil ?_
                    refine ⟨60 - (k_42 + 1), by first | omega | (simp only [List.length_append, List.length_cons, List.length_nil]; omega), ?_⟩
                    exact ⟨_, _, (k_42 + 1), (b_43 + 1), [], ((PS.left S_67 (0, 0) ((xn126 % 3 : Nat) : Int)).1), c152, b157, c161, (upd_of (upd_of (upd_of (upd_of (upd_of (upd_of (upd_of (upd_of (upd_of (upd_of (upd_of (upd_of (upd_of (upd_of (upd_of (upd_of (upd_of (upd_of (upd_of (upd_of (upd_of (upd_of (upd_of (upd_of (upd_of (upd_of (upd_of (upd_of rfl rfl) rfl) rfl) rfl) rfl) rfl) rfl) rfl) rfl) rfl) rfl) rfl) rfl) rfl) rfl) rfl) rfl) rfl) rfl) rfl) rfl) rfl) rfl) rfl) rfl) rfl) rfl) rfl), hmk58, (((hst159.front 3 rfl rfl).front 2 rfl rfl).keepN 3 rfl), (Le.trans hle34 (Le.trans hle61 (Le.trans hle78 (Le.trans hle92 hle150)))), hprof155, hm160, (by omega), hl_.2.1, hl_.2.2, rfl⟩
                  · skip
                    have q162 := ne_of_beq_false c142
                    have hmid := hf63.mid (by omega)
                    have hl_ := hmid.stay (by omega) (x := ((xn126 % 3 : Nat) : Int)) (by omega) (by simpa [AL.get_set] using ne_of_beq_false c142)
                    refine W_region_lit ?_
                    refine L_val (v := (ptr p17 0)) (w' := w135) rfl rfl rfl rfl ?_
                    refine L_val (v := (.agg #[(.int .i64 0), (.int .i64 0)])) (w' := w135) rfl rfl rfl (x_load rfl rfl (run_loadVar_agg ti_43 (hst138.blk (i := 2) rfl) (l := [(.int .i64 0), (.int .i64 0)]) rfl rfl)) ?_
                    refine L_val (v := (.int .i64 ((xn126 % 3 : Nat) : Int))) (w' := w135) rfl rfl rfl rfl ?_
                    have hst163 := (hst138.front 1 rfl rfl)
                    refine L_callS [c94] [c134, one b21 (.cells #[(.int .i64 0), (.int .i64 0)] 43 (0, 0))] hst163 rfl rfl rfl (x_call (vs := #[(ptr p17 0), (.agg #[(.int .i64 0), (.int .i64 0)]), (.int .i64 ((xn126 % 3 : Nat) : Int))]) rfl rfl (by kernel_rfl) ent_24) (Left_spec (s := S_67) (0, 0) ((xn126 % 3 : Nat) : Int) (by constructor <;> first | decide | omega) (hst163.sats.take 1 rfl) hprof97 (hT.mono (Le.trans hle7 (Le.trans hle15 (Le.trans hle34 (Le.trans hle61 (Le.trans hle78 hle92)))))) (by have h_ := hmid.n; omega)) (fun v164 w165 R166 L167 hp168 hle169 hst170 => ?_)
                    obtain ⟨c171, hv172, rfl, hp173⟩ := hp168
                    subst hv172
                    have hprof174 : Prof R166 p17 (PS.left S_67 (0, 0) ((xn126 % 3 : Nat) : Int)).1 c171 := hp173
                    refine L_val (v := (.bool (((AL.get (AL.set lm_44 ((xn126 % 3 : Nat) : Int) (((AL.get lm_44 ((xn126 % 3 : Nat) : Int)).getD 0) + 1)) ((xn126 % 3 : Nat) : Int)).getD 0) == (c : Int)))) (w' := w165) rfl rfl rfl rfl ?_
                    refine L_val (v := (.bool (((PS.left S_67 (0, 0) ((xn126 % 3 : Nat) : Int)).2) != (((AL.get (AL.set lm_44 ((xn126 % 3 : Nat) : Int) (((AL.get lm_44 ((xn126 % 3 : Nat) : Int)).getD 0) + 1)) ((xn126 % 3 : Nat) : Int)).getD 0) == (c : Int))))) (w' := w165) rfl rfl rfl (by kernel_rfl) ?_
                    refine L_nil ?_
                    have c175 : (((PS.left S_67 (0, 0) ((xn126 % 3 : Nat) : Int)).2) != (((AL.get (AL.set lm_44 ((xn126 % 3 : Nat) : Int) (((AL.get lm_44 ((xn126 % 3 : Nat) : Int)).getD 0) + 1)) ((xn126 % 3 : Nat) : Int)).getD 0) == (c : Int))) = false := by rw [hl_.1, c142]; rfl
                    refine W_cond_false (by show Value.bool _ = _; exact congrArg Value.bool c175) ?_
                    refine W_skip ?_
                    refine W_seq ?_
                    refine W_region_lit ?_
                    refine L_val (v := (.bool (((AL.get (AL.set lm_44 ((xn126 % 3 : Nat) : Int) (((AL.get lm_44 ((xn126 % 3 : Nat) : Int)).getD 0) + 1)) ((xn126 % 3 : Nat) : Int)).getD 0) == (c : Int)))) (w' := w165) rfl rfl rfl rfl ?_
                    refine L_nil ?_
                    refine W_cond_false (by show Value.bool _ = _; exact congrArg Value.bool c142) ?_
                    refine W_skip ?_
                    refine W_region_lit ?_
                    refine L_val (v := (.int .i64 (k_42 : Int))) (w' := w165) rfl rfl rfl rfl ?_
                    refine L_val (v := (.int .i64 ((k_42 + 1 : Nat) : Int))) (w' := w165) rfl rfl rfl (x_add_nat rfl rfl rfl (by omega)) ?_
                    refine L_val (v := (.int .i64 ((k_42 + 1 : Nat) : Int))) (w' := w165) rfl rfl rfl rfl ?_
                    refine L_nil ?_
                    refine ⟨60 - (k_42 + 1), by first | omega | (simp only [List.length_append, List.length_cons, List.length_nil]; omega), ?_⟩
                    exact ⟨_, _, (k_42 + 1), b_43, (AL.set lm_44 ((xn126 % 3 : Nat) : Int) (((AL.get lm_44 ((xn126 % 3 : Nat) : Int)).getD 0) + 1)), ((PS.left S_67 (0, 0) ((xn126 % 3 : Nat) : Int)).1), c171, bL47, c134, (upd_of (upd_of (upd_of (upd_of (upd_of (upd_of (upd_of (upd_of (upd_of (upd_of (upd_of (upd_of (upd_of (upd_of (upd_of (upd_of (upd_of (upd_of (upd_of (upd_of (upd_of (upd_of (upd_of (upd_of (upd_of (upd_of (upd_of (upd_of rfl rfl) rfl) rfl) rfl) rfl) rfl) rfl) rfl) rfl) rfl) rfl) rfl) rfl) rfl) rfl) rfl) rfl) rfl) rfl) rfl) rfl) rfl) rfl) rfl) rfl) rfl) rfl) rfl), hmk58, (((hst170.front 1 rfl rfl).front 2 rfl rfl).front 2 rfl rfl), (Le.trans hle34 (Le.trans hle61 (Le.trans hle78 (Le.trans hle92 hle169)))), hprof174, hm137, (by omega), hl_.2.1, hl_.2.2, rfl⟩
                · skip
                  have q176 := of_decide_eq_false c129
                  refine W_cond_false (by show Value.bool _ = _; exact congrArg Value.bool c129) ?_
                  refine W_skip ?_
                  refine W_seq ?_
                  refine W_region_lit ?_
                  refine L_val (v := (.int .i64 (b_43 : Int))) (w' := w88) rfl rfl rfl rfl ?_
                  refine L_val (v := (.bool (decide ((b_43 : Int) < 3)))) (w' := w88) rfl rfl rfl (by kernel_rfl) ?_
                  refine L_val (v := (.bool (decide ((b_43 : Int) < 3)))) (w' := w88) rfl rfl rfl rfl ?_
                  refine L_unwanted rfl rfl rfl rfl (by rw [c129]; rfl) rfl rfl ?_
                  refine L_unwanted rfl rfl rfl rfl (by rw [c129]; rfl) rfl rfl ?_
                  refine L_unwanted rfl rfl rfl rfl (by rw [c129]; rfl) rfl rfl ?_
                  refine L_unwanted rfl rfl rfl rfl (by rw [c129]; rfl) rfl rfl ?_
                  refine L_unwanted rfl rfl rfl rfl (by rw [c129]; rfl) rfl rfl ?_
                  refine L_val (v := (.bool false)) (w' := w88) rfl rfl rfl (x_pick rfl rfl (by rw [c129]; rfl)) ?_
                  refine L_val (v := (.bool false)) (w' := w88) rfl rfl rfl rfl ?_
                  refine L_nil ?_
                  refine W_seq ?_
                  refine W_seq ?_
                  have hmid := hf63.mid (by omega)
                  have hl_ := hmid.keep (by have := hmid.inv.tier_cases; omega) ((xn126 % 3 : Nat) : Int)
                  refine W_region_lit ?_
                  refine L_val (v := (ptr p17 0)) (w' := w88) rfl rfl rfl rfl ?_
                  refine L_val (v := (.agg #[(.int .i64 0), (.int .i64 0)])) (w' := w88) rfl rfl rfl (x_load rfl rfl (run_loadVar_agg ti_43 (hst93.blk (i := 1) rfl) (l := [(.int .i64 0), (.int .i64 0)]) rfl rfl)) ?_
                  refine L_val (v := (.int .i64 ((xn126 % 3 : Nat) : Int))) (w' := w88) rfl rfl rfl rfl ?_
                  have hst177 := hst93
                  refine L_callS [c94] [one b21 (.cells #[(.int .i64 0), (.int .i64 0)] 43 (0, 0)), cL48] hst177 rfl rfl rfl (x_call (vs := #[(ptr p17 0), (.agg #[(.int .i64 0), (.int .i64 0)]), (.int .i64 ((xn126 % 3 : Nat) : Int))]) rfl rfl (by kernel_rfl) ent_24) (Left_spec (s := S_67) (0, 0) ((xn126 % 3 : Nat) : Int) (by constructor <;> first | decide | omega) (hst177.sats.take 1 rfl) hprof97 (hT.mono (Le.trans hle7 (Le.trans hle15 (Le.trans hle34 (Le.trans hle61 (Le.trans hle78 hle92)))))) (by have h_ := hmid.n; omega)) (fun v178 w179 R180 L181 hp182 hle183 hst184 => ?_)
                  obtain ⟨c185, hv186, rfl, hp187⟩ := hp182
                  subst hv186
                  have hprof188 : Prof R180 p17 (PS.left S_67 (0, 0) ((xn126 % 3 : Nat) : Int)).1 c185 := hp187
                  refine L_val (v := (.bool false)) (w' := w179) rfl rfl rfl rfl ?_
                  refine L_val (v := (.bool (((PS.left S_67 (0, 0) ((xn126 % 3 : Nat) : Int)).2) != false))) (w' := w179) rfl rfl rfl (by kernel_rfl) ?_
                  refine L_nil ?_
                  have c189 : (((PS.left S_67 (0, 0) ((xn126 % 3 : Nat) : Int)).2) != false) = false := by rw [hl_.1]; rfl
                  refine W_cond_false (by show Value.bool _ = _; exact congrArg Value.bool c189) ?_
                  refine W_skip ?_
                  refine W_seq ?_
                  refine W_region_lit ?_
                  refine L_val (v := (.bool false)) (w' := w179) rfl rfl rfl rfl ?_
                  refine L_nil ?_
                  refine W_cond_false (by show Value.bool _ = _; exact congrArg Value.bool rfl) ?_
                  refine W_skip ?_
                  refine W_region_lit ?_
                  refine L_val (v := (.int .i64 (k_42 : Int))) (w' := w179) rfl rfl rfl rfl ?_
                  refine L_val (v := (.int .i64 ((k_42 + 1 : Nat) : Int))) (w' := w179) rfl rfl rfl (x_add_nat rfl rfl rfl (by omega)) ?_
                  refine L_val (v := (.int .i64 ((k_42 + 1 : Nat) : Int))) (w' := w179) rfl rfl rfl rfl ?_
                  refine L_nil ?_
                  refine ⟨60 - (k_42 + 1), by first | omega | (simp only [List.length_append, List.length_cons, List.length_nil]; omega), ?_⟩
                  exact ⟨_, _, (k_42 + 1), b_43, lm_44, ((PS.left S_67 (0, 0) ((xn126 % 3 : Nat) : Int)).1), c185, bL47, cL48, (upd_of (upd_of (upd_of (upd_of (upd_of (upd_of (upd_of (upd_of (upd_of (upd_of (upd_of (upd_of (upd_of (upd_of (upd_of (upd_of (upd_of (upd_of (upd_of (upd_of (upd_of (upd_of (upd_of (upd_of (upd_of (upd_of (upd_of (upd_of rfl rfl) rfl) rfl) rfl) rfl) rfl) rfl) rfl) rfl) rfl) rfl) rfl) rfl) rfl) rfl) rfl) rfl) rfl) rfl) rfl) rfl) rfl) rfl) rfl) rfl) rfl) rfl) rfl), hmk58, (((hst184.front 2 rfl rfl).front 2 rfl rfl).front 2 rfl rfl), (Le.trans hle34 (Le.trans hle61 (Le.trans hle78 (Le.trans hle92 hle183)))), hprof188, hi36, (by omega), hl_.2.1, hl_.2.2, rfl⟩
            · skip
              have q190 := of_decide_eq_false c84
              refine L_unwanted rfl rfl rfl rfl (by rw [c84]; rfl) rfl rfl ?_
              refine L_unwanted rfl rfl rfl rfl (by rw [c84]; rfl) rfl rfl ?_
              refine L_unwanted rfl rfl rfl rfl (by rw [c84]; rfl) rfl rfl ?_
              refine L_unwanted rfl rfl rfl rfl (by rw [c84]; rfl) rfl rfl ?_
              refine L_val (v := (.bool false)) (w' := w74) rfl rfl rfl (x_pick rfl rfl (by rw [c84]; rfl)) ?_
              refine L_nil ?_
              refine W_cond_false (by show Value.bool _ = _; exact congrArg Value.bool rfl) ?_
              refine W_exit ?_
              refine W_seq ?_
              refine W_region_lit ?_
              refine L_val (v := (.slice a50 xs.length cap51)) (w' := w74) rfl rfl rfl rfl ?_
              refine L_val (v := (.int .i64 (k_42 : Int))) (w' := w74) rfl rfl rfl rfl ?_
              obtain ⟨b191, off192, cap193, cs194, T195, fz196, e197, hc198, hb199, he200⟩ := hv.open (by omega)
              cases e197
              obtain ⟨cl201, hs202, hr203⟩ := he200.at k_42 (by omega)
              obtain ⟨xn204, hxn205, hxb206⟩ := u8_nat hk (List.getElem_mem (l := xs) (n := k_42) (by omega))
              rw [hxn205] at hr203
              obtain rfl := u8_open hr203
              refine L_val (v := (ptr b191 (off192 + k_42 * 1))) (w' := w74) rfl rfl rfl (x_indexAddr' rfl sl_58 ti_5 rfl rfl (by omega)) ?_
              refine L_val (v := (.int .u8 (xn204 : Int))) (w' := w74) rfl rfl rfl (x_load rfl rfl (run_loadVar_one ti_5 ((Le.trans hle7 (Le.trans hle15 (Le.trans hle34 (Le.trans hle61 (Le.trans hle78 hst79.rle'))))) _ _ hb199) (seg_get (j := 0) hs202 rfl))) ?_
              refine L_val (v := (.int .u8 ((xn204 % 3 : Nat) : Int))) (w' := w74) rfl rfl rfl (x_remK rfl rfl rfl (by omega)) ?_
              refine L_val (v := (.int .i64 ((xn204 % 3 : Nat) : Int))) (w' := w74) rfl rfl rfl (x_conv8 rfl rfl (by omega)) ?_
              refine L_val (v := (.int .i64 ((xn204 % 3 : Nat) : Int))) (w' := w74) rfl rfl rfl rfl ?_
              refine L_nil ?_
              refine W_seq ?_
              refine W_seq ?_
              refine W_region_lit ?_
              refine L_val (v := (.int .i64 (b_43 : Int))) (w' := w74) rfl rfl rfl rfl ?_
              refine L_val (v := (.bool (decide ((b_43 : Int) < 3)))) (w' := w74) rfl rfl rfl (by kernel_rfl) ?_
              refine L_nil ?_
              rcases Bool.eq_false_or_eq_true (decide ((b_43 : Int) < 3)) with c207 | c207
              · skip
                have q208 := of_decide_eq_true c207
                refine W_cond_true (by show Value.bool _ = _; exact congrArg Value.bool c207) ?_
                obtain ⟨hx1_, hx2_⟩ := hf63.inv.lmb ((xn204 % 3 : Nat) : Int)
                refine W_region_lit ?_
                refine L_val (v := (.map (some bL47))) (w' := w74) rfl rfl rfl rfl ?_
                refine L_val (v := (.int .i64 ((xn204 % 3 : Nat) : Int))) (w' := w74) rfl rfl rfl rfl ?_
                obtain ⟨v209, hr210, hv211⟩ := MapC.lookupD (w := w74) hi36 (hst79.get (i := 2) rfl) law3 mt_59 ti_3 ((xn204 % 3 : Nat) : Int) false 0 rfl
                have hv211' : v209 = .int .i64 ((AL.get lm_44 ((xn204 % 3 : Nat) : Int)).getD 0) := hv211
                subst hv211'
                refine L_val (v := (.int .i64 ((AL.get lm_44 ((xn204 % 3 : Nat) : Int)).getD 0))) (w' := w74) rfl rfl rfl (x_lookup rfl rfl rfl hr210) ?_
                refine L_val (v := (.int .i64 (((AL.get lm_44 ((xn204 % 3 : Nat) : Int)).getD 0) + 1))) (w' := w74) rfl rfl rfl (x_add rfl rfl rfl (by constructor <;> omega)) ?_
                obtain ⟨c212, w213, hr214, hm215, hst216⟩ := MapC.update hi36 (hst79.front 2 rfl rfl) law3 mt_59 ((xn204 % 3 : Nat) : Int) (((AL.get lm_44 ((xn204 % 3 : Nat) : Int)).getD 0) + 1) (.int .i64 (((AL.get lm_44 ((xn204 % 3 : Nat) : Int)).getD 0) + 1)) rfl
                refine L_skip rfl rfl (x_mapUpdate rfl rfl rfl rfl hr214) ?_
                refine L_nil ?_
                refine W_seq ?_
                refine W_region_lit ?_
                refine L_val (v := (.int .i64 (b_43 : Int))) (w' := w213) rfl rfl rfl rfl ?_
                refine L_val (v := (.bool (decide ((b_43 : Int) < 3)))) (w' := w213) rfl rfl rfl (by kernel_rfl) ?_
                refine L_val (v := (.bool (decide ((b_43 : Int) < 3)))) (w' := w213) rfl rfl rfl rfl ?_
                refine L_guard rfl rfl rfl rfl c207 ?_
                refine L_val (v := (.map (some bL47))) (w' := w213) rfl rfl rfl rfl ?_
                refine L_guard rfl rfl rfl rfl c207 ?_
                refine L_val (v := (.int .i64 ((xn204 % 3 : Nat) : Int))) (w' := w213) rfl rfl rfl rfl ?_
                refine L_guard rfl rfl rfl rfl c207 ?_
                obtain ⟨v217, hr218, hv219⟩ := MapC.lookupD (w := w213) hm215 (hst216.get (i := 0) rfl) law3 mt_59 ti_3 ((xn204 % 3 : Nat) : Int) false 0 rfl
                have hv219' : v217 = .int .i64 ((AL.get (AL.set lm_44 ((xn204 % 3 : Nat) : Int) (((AL.get lm_44 ((xn204 % 3 : Nat) : Int)).getD 0) + 1)) ((xn204 % 3 : Nat) : Int)).getD 0) := hv219
                subst hv219'
                refine L_val (v := (.int .i64 ((AL.get (AL.set lm_44 ((xn204 % 3 : Nat) : Int) (((AL.get lm_44 ((xn204 % 3 : Nat) : Int)).getD 0) + 1)) ((xn204 % 3 : Nat) : Int)).getD 0))) (w' := w213) rfl rfl rfl (x_lookup rfl rfl rfl hr218) ?_
                refine L_guard rfl rfl rfl rfl c207 ?_
                refine L_val (v := (.int .i64 (c : Int))) (w' := w213) rfl rfl rfl rfl ?_
                refine L_guard rfl rfl rfl rfl c207 ?_
                refine L_val (v := (.bool (((AL.get (AL.set lm_44 ((xn204 % 3 : Nat) : Int) (((AL.get lm_44 ((xn204 % 3 : Nat) : Int)).getD 0) + 1)) ((xn204 % 3 : Nat) : Int)).getD 0) == (c : Int)))) (w' := w213) rfl rfl rfl (by kernel_rfl) ?_
                refine L_val (v := (.bool (((AL.get (AL.set lm_44 ((xn204 % 3 : Nat) : Int) (((AL.get lm_44 ((xn204 % 3 : Nat) : Int)).getD 0) + 1)) ((xn204 % 3 : Nat) : Int)).getD 0) == (c : Int)))) (w' := w213) rfl rfl rfl (x_pick rfl rfl (by rw [c207]; rfl)) ?_
                refine L_val (v := (.bool (((AL.get (AL.set lm_44 ((xn204 % 3 : Nat) : Int) (((AL.get lm_44 ((xn204 % 3 : Nat) : Int)).getD 0) + 1)) ((xn204 % 3 : Nat) : Int)).getD 0) == (c : Int)))) (w' := w213) rfl rfl rfl rfl ?_
                refine L_nil ?_
                refine W_seq ?_
                refine W_seq ?_
                rcases Bool.eq_false_or_eq_true (((AL.get (AL.set lm_44 ((xn204 % 3 : Nat) : Int) (((AL.get lm_44 ((xn204 % 3 : Nat) : Int)).getD 0) + 1)) ((xn204 % 3 : Nat) : Int)).getD 0) == (c : Int)) with c220 | c220
                · skip
                  have q221 := eq_of_beq c220
                  have hmid := hf63.mid (by omega)
                  have hl_ := hmid.gone (by omega) (by omega) (x := ((xn204 % 3 : Nat) : Int)) (by omega) (by simpa [AL.get_set] using eq_of_beq c220)
                  refine W_region_lit ?_
                  refine L_val (v := (ptr p17 0)) (w' := w213) rfl rfl rfl rfl ?_
                  refine L_val (v := (.agg #[(.int .i64 0), (.int .i64 0)])) (w' := w213) rfl rfl rfl (x_load rfl rfl (run_loadVar_agg ti_43 (hst216.blk (i := 2) rfl) (l := [(.int .i64 0), (.int .i64 0)]) rfl rfl)) ?_
                  refine L_val (v := (.int .i64 ((xn204 % 3 : Nat) : Int))) (w' := w213) rfl rfl rfl rfl ?_
                  have hst222 := (hst216.front 1 rfl rfl)
                  refine L_callS [c80] [c212, one b21 (.cells #[(.int .i64 0), (.int .i64 0)] 43 (0, 0))] hst222 rfl rfl rfl (x_call (vs := #[(ptr p17 0), (.agg #[(.int .i64 0), (.int .i64 0)]), (.int .i64 ((xn204 % 3 : Nat) : Int))]) rfl rfl (by kernel_rfl) ent_24) (Left_spec (s := S_67) (0, 0) ((xn204 % 3 : Nat) : Int) (by constructor <;> first | decide | omega) (hst222.sats.take 1 rfl) hprof83 (hT.mono (Le.trans hle7 (Le.trans hle15 (Le.trans hle34 (Le.trans hle61 hle78))))) (by have h_ := hmid.n; omega)) (fun v223 w224 R225 L226 hp227 hle228 hst229 => ?_)
                  obtain ⟨c230, hv231, rfl, hp232⟩ := hp227
                  subst hv231
                  have hprof233 : Prof R225 p17 (PS.left S_67 (0, 0) ((xn204 % 3 : Nat) : Int)).1 c230 := hp232
                  refine L_val (v := (.bool (((AL.get (AL.set lm_44 ((xn204 % 3 : Nat) : Int) (((AL.get lm_44 ((xn204 % 3 : Nat) : Int)).getD 0) + 1)) ((xn204 % 3 : Nat) : Int)).getD 0) == (c : Int)))) (w' := w224) rfl rfl rfl rfl ?_
                  refine L_val (v := (.bool (((PS.left S_67 (0, 0) ((xn204 % 3 : Nat) : Int)).2) != (((AL.get (AL.set lm_44 ((xn204 % 3 : Nat) : Int) (((AL.get lm_44 ((xn204 % 3 : Nat) : Int)).getD 0) + 1)) ((xn204 % 3 : Nat) : Int)).getD 0) == (c : Int))))) (w' := w224) rfl rfl rfl (by kernel_rfl) ?_
                  refine L_nil ?_
                  have c234 : (((PS.left S_67 (0, 0) ((xn204 % 3 : Nat) : Int)).2) != (((AL.get (AL.set lm_44 ((xn204 % 3 : Nat) : Int) (((AL.get lm_44 ((xn204 % 3 : Nat) : Int)).getD 0) + 1)) ((xn204 % 3 : Nat) : Int)).getD 0) == (c : Int))) = false := by rw [hl_.1, c220]; rfl
                  refine W_cond_false (by show Value.bool _ = _; exact congrArg Value.bool c234) ?_
                  refine W_skip ?_
                  refine W_seq ?_
                  refine W_region_lit ?_
                  refine L_val (v := (.bool (((AL.get (AL.set lm_44 ((xn204 % 3 : Nat) : Int) (((AL.get lm_44 ((xn204 % 3 : Nat) : Int)).getD 0) + 1)) ((xn204 % 3 : Nat) : Int)).getD 0) == (c : Int)))) (w' := w224) rfl rfl rfl rfl ?_
                  refine L_nil ?_
                  refine W_cond_true (by show Value.bool _ = _; exact congrArg Value.bool c220) ?_
                  refine W_seq ?_
                  refine W_region_lit ?_
                  refine L_val (v := (.int .i64 (b_43 : Int))) (w' := w224) rfl rfl rfl rfl ?_
                  refine L_val (v := (.int .i64 ((b_43 + 1 : Nat) : Int))) (w' := w224) rfl rfl rfl (x_add_nat rfl rfl rfl (by omega)) ?_
                  refine L_val (v := (.int .i64 ((b_43 + 1 : Nat) : Int))) (w' := w224) rfl rfl rfl rfl ?_
                  refine L_nil ?_
                  refine W_region_lit ?_
                  refine L_new hst229 (v := fun b => .map (some b)) (ob := .map #[] 0) rfl rfl rfl (by kernel_rfl) (fun b235 w236 hst237 => ?_)
                  have hm238 : MapC (Value.int .i64) (vE (Value.int .i64)) (some b235) [] _ := MapC.made b235
                  generalize one b235 (.map #[] 0) = c239 at hm238 hst237
                  refine L_val (v := (.map (some b235))) (w' := w236) rfl rfl rfl rfl ?_
                  refine L_nil ?_
                  refine W_region_lit ?_
                  refine L_val (v := (.int .i64 (k_42 : Int))) (w' := w236) rfl rfl rfl rfl ?_
                  refine L_val (v := (.int .i64 ((k_42 + 1 : Nat) : Int))) (w' := w236) rfl rfl rfl (x_add_nat rfl rfl rfl (by omega)) ?_
                  refine L_val (v := (.int .i64 ((k_42 + 1 : Nat) : Int))) (w' := w236) rfl rfl rfl rfl ?_
                  refine L_nil ?_
                  refine ⟨60 - (k_42 + 1), by first | omega | (simp only [List.length_append, List.length_cons, List.length_nil]; omega), ?_⟩
                  exact ⟨_, _, (k_42 + 1), (b_43 + 1), [], ((PS.left S_67 (0, 0) ((xn204 % 3 : Nat) : Int)).1), c230, b235, c239, (upd_of (upd_of (upd_of (upd_of (upd_of (upd_of (upd_of (upd_of (upd_of (upd_of (upd_of (upd_of (upd_of (upd_of (upd_of (upd_of (upd_of (upd_of (upd_of (upd_of (upd_of (upd_of (upd_of (upd_of (upd_of (upd_of (upd_of (upd_of rfl rfl) rfl) rfl) rfl) rfl) rfl) rfl) rfl) rfl) rfl) rfl) rfl) rfl) rfl) rfl) rfl) rfl) rfl) rfl) rfl) rfl) rfl) rfl) rfl) rfl) rfl) rfl) rfl), hmk58, (((hst237.front 3 rfl rfl).front 2 rfl rfl).keepN 3 rfl), (Le.trans hle34 (Le.trans hle61 (Le.trans hle78 hle228))), hprof233, hm238, (by omega), hl_.2.1, hl_.2.2, rfl⟩
                · skip
                  have q240 := ne_of_beq_false c220
                  have hmid := hf63.mid (by omega)
                  have hl_ := hmid.stay (by omega) (x := ((xn204 % 3 : Nat) : Int)) (by omega) (by simpa [AL.get_set] using ne_of_beq_false c220)
                  refine W_region_lit ?_
                  refine L_val (v := (ptr p17 0)) (w' := w213) rfl rfl rfl rfl ?_
                  refine L_val (v := (.agg #[(.int .i64 0), (.int .i64 0)])) (w' := w213) rfl rfl rfl (x_load rfl rfl (run_loadVar_agg ti_43 (hst216.blk (i := 2) rfl) (l := [(.int .i64 0), (.int .i64 0)]) rfl rfl)) ?_
                  refine L_val (v := (.int .i64 ((xn204 % 3 : Nat) : Int))) (w' := w213) rfl rfl rfl rfl ?_
                  have hst241 := (hst216.front 1 rfl rfl)
                  refine L_callS [c80] [c212, one b21 (.cells #[(.int .i64 0), (.int .i64 0)] 43 (0, 0))] hst241 rfl rfl rfl (x_call (vs := #[(ptr p17 0), (.agg #[(.int .i64 0), (.int .i64 0)]), (.int .i64 ((xn204 % 3 : Nat) : Int))]) rfl rfl (by kernel_rfl) ent_24) (Left_spec (s := S_67) (0, 0) ((xn204 % 3 : Nat) : Int) (by constructor <;> first | decide | omega) (hst241.sats.take 1 rfl) hprof83 (hT.mono (Le.trans hle7 (Le.trans hle15 (Le.trans hle34 (Le.trans hle61 hle78))))) (by have h_ := hmid.n; omega)) (fun v242 w243 R244 L245 hp246 hle247 hst248 => ?_)
                  obtain ⟨c249, hv250, rfl, hp251⟩ := hp246
                  subst hv250
                  have hprof252 : Prof R244 p17 (PS.left S_67 (0, 0) ((xn204 % 3 : Nat) : Int)).1 c249 := hp251
                  refine L_val (v := (.bool (((AL.get (AL.set lm_44 ((xn204 % 3 : Nat) : Int) (((AL.get lm_44 ((xn204 % 3 : Nat) : Int)).getD 0) + 1)) ((xn204 % 3 : Nat) : Int)).getD 0) == (c : Int)))) (w' := w243) rfl rfl rfl rfl ?_
                  refine L_val (v := (.bool (((PS.left S_67 (0, 0) ((xn204 % 3 : Nat) : Int)).2) != (((AL.get (AL.set lm_44 ((xn204 % 3 : Nat) : Int) (((AL.get lm_44 ((xn204 % 3 : Nat) : Int)).getD 0) + 1)) ((xn204 % 3 : Nat) : Int)).getD 0) == (c : Int))))) (w' := w243) rfl rfl rfl (by kernel_rfl) ?_
                  refine L_nil ?_
                  have c253 : (((PS.left S_67 (0, 0) ((xn204 % 3 : Nat) : Int)).2) != (((AL.get (AL.set lm_44 ((xn204 % 3 : Nat) : Int) (((AL.get lm_44 ((xn204 % 3 : Nat) : Int)).getD 0) + 1)) ((xn204 % 3 : Nat) : Int)).getD 0) == (c : Int))) = false := by rw [hl_.1, c220]; rfl
                  refine W_cond_false (by show Value.bool _ = _; exact congrArg Value.bool c253) ?_
                  refine W_skip ?_
                  refine W_seq ?_
                  refine W_region_lit ?_
                  refine L_val (v := (.bool (((AL.get (AL.set lm_44 ((xn204 % 3 : Nat) : Int) (((AL.get lm_44 ((xn204 % 3 : Nat) : Int)).getD 0) + 1)) ((xn204 % 3 : Nat) : Int)).getD 0) == (c : Int)))) (w' := w243) rfl rfl rfl rfl ?_
                  refine L_nil ?_
                  refine W_cond_false (by show Value.bool _ = _; exact congrArg Value.bool c220) ?_
                  refine W_skip ?_
                  refine W_region_lit ?_
                  refine L_val (v := (.int .i64 (k_42 : Int))) (w' := w243) rfl rfl rfl rfl ?_
                  refine L_val (v := (.int .i64 ((k_42 + 1 : Nat) : Int))) (w' := w243) rfl rfl rfl (x_add_nat rfl rfl rfl (by omega)) ?_
                  refine L_val (v := (.int .i64 ((k_42 + 1 : Nat) : Int))) (w' := w243) rfl rfl rfl rfl ?_
                  refine L_nil ?_
                  refine ⟨60 - (k_42 + 1), by first | omega | (simp only [List.length_append, List.length_cons, List.length_nil]; omega), ?_⟩
                  exact ⟨_, _, (k_42 + 1), b_43, (AL.set lm_44 ((xn204 % 3 : Nat) : Int) (((AL.get lm_44 ((xn204 % 3 : Nat) : Int)).getD 0) + 1)), ((PS.left S_67 (0, 0) ((xn204 % 3 : Nat) : Int)).1), c249, bL47, c212, (upd_of (upd_of (upd_of (upd_of (upd_of (upd_of (upd_of (upd_of (upd_of (upd_of (upd_of (upd_of (upd_of (upd_of (upd_of (upd_of (upd_of (upd_of (upd_of (upd_of (upd_of (upd_of (upd_of (upd_of (upd_of (upd_of (upd_of (upd_of rfl rfl) rfl) rfl) rfl) rfl) rfl) rfl) rfl) rfl) rfl) rfl) rfl) rfl) rfl) rfl) rfl) rfl) rfl) rfl) rfl) rfl) rfl) rfl) rfl) rfl) rfl) rfl) rfl), hmk58, (((hst248.front 1 rfl rfl).front 2 rfl rfl).front 2 rfl rfl), (Le.trans hle34 (Le.trans hle61 (Le.trans hle78 hle247))), hprof252, hm215, (by omega), hl_.2.1, hl_.2.2, rfl⟩
              · skip
                have q254 := of_decide_eq_false c207
                refine W_cond_false (by show Value.bool _ = _; exact congrArg Value.bool c207) ?_
                refine W_skip ?_
                refine W_seq ?_
                refine W_region_lit ?_
                refine L_val (v := (.int .i64 (b_43 : Int))) (w' := w74) rfl rfl rfl rfl ?_
                refine L_val (v := (.bool (decide ((b_43 : Int) < 3)))) (w' := w74) rfl rfl rfl (by kernel_rfl) ?_
                refine L_val (v := (.bool (decide ((b_43 : Int) < 3)))) (w' := w74) rfl rfl rfl rfl ?_
                refine L_unwanted rfl rfl rfl rfl (by rw [c207]; rfl) rfl rfl ?_
                refine L_unwanted rfl rfl rfl rfl (by rw [c207]; rfl) rfl rfl ?_
                refine L_unwanted rfl rfl rfl rfl (by rw [c207]; rfl) rfl rfl ?_
                refine L_unwanted rfl rfl rfl rfl (by rw [c207]; rfl) rfl rfl ?_
                refine L_unwanted rfl rfl rfl rfl (by rw [c207]; rfl) rfl rfl ?_
                refine L_val (v := (.bool false)) (w' := w74) rfl rfl rfl (x_pick rfl rfl (by rw [c207]; rfl)) ?_
                refine L_val (v := (.bool false)) (w' := w74) rfl rfl rfl rfl ?_
                refine L_nil ?_
                refine W_seq ?_
                refine W_seq ?_
                have hmid := hf63.mid (by omega)
                have hl_ := hmid.keep (by have := hmid.inv.tier_cases; omega) ((xn204 % 3 : Nat) : Int)
                refine W_region_lit ?_
                refine L_val (v := (ptr p17 0)) (w' := w74) rfl rfl rfl rfl ?_
                refine L_val (v := (.agg #[(.int .i64 0), (.int .i64 0)])) (w' := w74) rfl rfl rfl (x_load rfl rfl (run_loadVar_agg ti_43 (hst79.blk (i := 1) rfl) (l := [(.int .i64 0), (.int .i64 0)]) rfl rfl)) ?_
                refine L_val (v := (.int .i64 ((xn204 % 3 : Nat) : Int))) (w' := w74) rfl rfl rfl rfl ?_
                have hst255 := hst79
                refine L_callS [c80] [one b21 (.cells #[(.int .i64 0), (.int .i64 0)] 43 (0, 0)), cL48] hst255 rfl rfl rfl (x_call (vs := #[(ptr p17 0), (.agg #[(.int .i64 0), (.int .i64 0)]), (.int .i64 ((xn204 % 3 : Nat) : Int))]) rfl rfl (by kernel_rfl) ent_24) (Left_spec (s := S_67) (0, 0) ((xn204 % 3 : Nat) : Int) (by constructor <;> first | decide | omega) (hst255.sats.take 1 rfl) hprof83 (hT.mono (Le.trans hle7 (Le.trans hle15 (Le.trans hle34 (Le.trans hle61 hle78))))) (by have h_ := hmid.n; omega)) (fun v256 w257 R258 L259 hp260 hle261 hst262 => ?_)
                obtain ⟨c263, hv264, rfl, hp265⟩ := hp260
                subst hv264
                have hprof266 : Prof R258 p17 (PS.left S_67 (0, 0) ((xn204 % 3 : Nat) : Int)).1 c263 := hp265
                refine L_val (v := (.bool false)) (w' := w257) rfl rfl rfl rfl ?_
                refine L_val (v := (.bool (((PS.left S_67 (0, 0) ((xn204 % 3 : Nat) : Int)).2) != false))) (w' := w257) rfl rfl rfl (by kernel_rfl) ?_
                refine L_nil ?_
                have c267 : (((PS.left S_67 (0, 0) ((xn204 % 3 : Nat) : Int)).2) != false) = false := by rw [hl_.1]; rfl
                refine W_cond_false (by show Value.bool _ = _; exact congrArg Value.bool c267) ?_
                refine W_skip ?_
                refine W_seq ?_
                refine W_region_lit ?_
                refine L_val (v := (.bool false)) (w' := w257) rfl rfl rfl rfl ?_
                refine L_nil ?_
                refine W_cond_false (by show Value.bool _ = _; exact congrArg Value.bool rfl) ?_
                refine W_skip ?_
                refine W_region_lit ?_
                refine L_val (v := (.int .i64 (k_42 : Int))) (w' := w257) rfl rfl rfl rfl ?_
                refine L_val (v := (.int .i64 ((k_42 + 1 : Nat) : Int))) (w' := w257) rfl rfl rfl (x_add_nat rfl rfl rfl (by omega)) ?_
                refine L_val (v := (.int .i64 ((k_42 + 1 : Nat) : Int))) (w' := w257) rfl rfl rfl rfl ?_
                refine L_nil ?_
                refine ⟨60 - (k_42 + 1), by first | omega | (simp only [List.length_append, List.length_cons, List.length_nil]; omega), ?_⟩
                exact ⟨_, _, (k_42 + 1), b_43, lm_44, ((PS.left S_67 (0, 0) ((xn204 % 3 : Nat) : Int)).1), c263, bL47, cL48, (upd_of (upd_of (upd_of (upd_of (upd_of (upd_of (upd_of (upd_of (upd_of (upd_of (upd_of (upd_of (upd_of (upd_of (upd_of (upd_of (upd_of (upd_of (upd_of (upd_of (upd_of (upd_of (upd_of (upd_of (upd_of (upd_of (upd_of (upd_of rfl rfl) rfl) rfl) rfl) rfl) rfl) rfl) rfl) rfl) rfl) rfl) rfl) rfl) rfl) rfl) rfl) rfl) rfl) rfl) rfl) rfl) rfl) rfl) rfl) rfl) rfl) rfl) rfl), hmk58, (((hst262.front 2 rfl rfl).front 2 rfl rfl).front 2 rfl rfl), (Le.trans hle34 (Le.trans hle61 (Le.trans hle78 hle261))), hprof266, hi36, (by omega), hl_.2.1, hl_.2.2, rfl⟩
          · skip
            have q268 := of_decide_eq_false c70
            refine L_unwanted rfl rfl rfl rfl (by rw [c70]; rfl) rfl rfl ?_
            refine L_unwanted rfl rfl rfl rfl (by rw [c70]; rfl) rfl rfl ?_
            refine L_unwanted rfl rfl rfl rfl (by rw [c70]; rfl) rfl rfl ?_
            refine L_unwanted rfl rfl rfl rfl (by rw [c70]; rfl) rfl rfl ?_
            refine L_val (v := (.bool false)) (w' := w60) rfl rfl rfl (x_pick rfl rfl (by rw [c70]; rfl)) ?_
            refine L_val (v := (.bool false)) (w' := w60) rfl rfl rfl rfl ?_
            refine L_unwanted rfl rfl rfl rfl rfl rfl rfl ?_
            refine L_unwanted rfl rfl rfl rfl rfl rfl rfl ?_
            refine L_unwanted rfl rfl rfl rfl rfl rfl rfl ?_
            refine L_unwanted rfl rfl rfl rfl rfl rfl rfl ?_
            refine L_val (v := (.bool false)) (w' := w60) rfl rfl rfl rfl ?_
            refine L_nil ?_
            refine W_cond_false (by show Value.bool _ = _; exact congrArg Value.bool rfl) ?_
            refine W_exit ?_
            refine W_seq ?_
            refine W_region_lit ?_
            refine L_val (v := (.slice a50 xs.length cap51)) (w' := w60) rfl rfl rfl rfl ?_
            refine L_val (v := (.int .i64 (k_42 : Int))) (w' := w60) rfl rfl rfl rfl ?_
            obtain ⟨b269, off270, cap271, cs272, T273, fz274, e275, hc276, hb277, he278⟩ := hv.open (by omega)
            cases e275
            obtain ⟨cl279, hs280, hr281⟩ := he278.at k_42 (by omega)
            obtain ⟨xn282, hxn283, hxb284⟩ := u8_nat hk (List.getElem_mem (l := xs) (n := k_42) (by omega))
            rw [hxn283] at hr281
            obtain rfl := u8_open hr281
            refine L_val (v := (ptr b269 (off270 + k_42 * 1))) (w' := w60) rfl rfl rfl (x_indexAddr' rfl sl_58 ti_5 rfl rfl (by omega)) ?_
            refine L_val (v := (.int .u8 (xn282 : Int))) (w' := w60) rfl rfl rfl (x_load rfl rfl (run_loadVar_one ti_5 ((Le.trans hle7 (Le.trans hle15 (Le.trans hle34 (Le.trans hle61 hst59.rle')))) _ _ hb277) (seg_get (j := 0) hs280 rfl))) ?_
            refine L_val (v := (.int .u8 ((xn282 % 3 : Nat) : Int))) (w' := w60) rfl rfl rfl (x_remK rfl rfl rfl (by omega)) ?_
            refine L_val (v := (.int .i64 ((xn282 % 3 : Nat) : Int))) (w' := w60) rfl rfl rfl (x_conv8 rfl rfl (by omega)) ?_
            refine L_val (v := (.int .i64 ((xn282 % 3 : Nat) : Int))) (w' := w60) rfl rfl rfl rfl ?_
            refine L_nil ?_
            refine W_seq ?_
            refine W_seq ?_
            refine W_region_lit ?_
            refine L_val (v := (.int .i64 (b_43 : Int))) (w' := w60) rfl rfl rfl rfl ?_
            refine L_val (v := (.bool (decide ((b_43 : Int) < 3)))) (w' := w60) rfl rfl rfl (by kernel_rfl) ?_
            refine L_nil ?_
            rcases Bool.eq_false_or_eq_true (decide ((b_43 : Int) < 3)) with c285 | c285
            · skip
              have q286 := of_decide_eq_true c285
              refine W_cond_true (by show Value.bool _ = _; exact congrArg Value.bool c285) ?_
              obtain ⟨hx1_, hx2_⟩ := hf63.inv.lmb ((xn282 % 3 : Nat) : Int)
              refine W_region_lit ?_
              refine L_val (v := (.map (some bL47))) (w' := w60) rfl rfl rfl rfl ?_
              refine L_val (v := (.int .i64 ((xn282 % 3 : Nat) : Int))) (w' := w60) rfl rfl rfl rfl ?_
              obtain ⟨v287, hr288, hv289⟩ := MapC.lookupD (w := w60) hi36 (hst59.get (i := 2) rfl) law3 mt_59 ti_3 ((xn282 % 3 : Nat) : Int) false 0 rfl
              have hv289' : v287 = .int .i64 ((AL.get lm_44 ((xn282 % 3 : Nat) : Int)).getD 0) := hv289
              subst hv289'
              refine L_val (v := (.int .i64 ((AL.get lm_44 ((xn282 % 3 : Nat) : Int)).getD 0))) (w' := w60) rfl rfl rfl (x_lookup rfl rfl rfl hr288) ?_
              refine L_val (v := (.int .i64 (((AL.get lm_44 ((xn282 % 3 : Nat) : Int)).getD 0) + 1))) (w' := w60) rfl rfl rfl (x_add rfl rfl rfl (by constructor <;> omega)) ?_
              obtain ⟨c290, w291, hr292, hm293, hst294⟩ := MapC.update hi36 (hst59.front 2 rfl rfl) law3 mt_59 ((xn282 % 3 : Nat) : Int) (((AL.get lm_44 ((xn282 % 3 : Nat) : Int)).getD 0) + 1) (.int .i64 (((AL.get lm_44 ((xn282 % 3 : Nat) : Int)).getD 0) + 1)) rfl
              refine L_skip rfl rfl (x_mapUpdate rfl rfl rfl rfl hr292) ?_
              refine L_nil ?_
              refine W_seq ?_
              refine W_region_lit ?_
              refine L_val (v := (.int .i64 (b_43 : Int))) (w' := w291) rfl rfl rfl rfl ?_
              refine L_val (v := (.bool (decide ((b_43 : Int) < 3)))) (w' := w291) rfl rfl rfl (by kernel_rfl) ?_
              refine L_val (v := (.bool (decide ((b_43 : Int) < 3)))) (w' := w291) rfl rfl rfl rfl ?_
              refine L_guard rfl rfl rfl rfl c285 ?_
              refine L_val (v := (.map (some bL47))) (w' := w291) rfl rfl rfl rfl ?_
              refine L_guard rfl rfl rfl rfl c285 ?_
              refine L_val (v := (.int .i64 ((xn282 % 3 : Nat) : Int))) (w' := w291) rfl rfl rfl rfl ?_
              refine L_guard rfl rfl rfl rfl c285 ?_
              obtain ⟨v295, hr296, hv297⟩ := MapC.lookupD (w := w291) hm293 (hst294.get (i := 0) rfl) law3 mt_59 ti_3 ((xn282 % 3 : Nat) : Int) false 0 rfl
              have hv297' : v295 = .int .i64 ((AL.get (AL.set lm_44 ((xn282 % 3 : Nat) : Int) (((AL.get lm_44 ((xn282 % 3 : Nat) : Int)).getD 0) + 1)) ((xn282 % 3 : Nat) : Int)).getD 0) := hv297
              subst hv297'
              refine L_val (v := (.int .i64 ((AL.get (AL.set lm_44 ((xn282 % 3 : Nat) : Int) (((AL.get lm_44 ((xn282 % 3 : Nat) : Int)).getD 0) + 1)) ((xn282 % 3 : Nat) : Int)).getD 0))) (w' := w291) rfl rfl rfl (x_lookup rfl rfl rfl hr296) ?_
              refine L_guard rfl rfl rfl rfl c285 ?_
              refine L_val (v := (.int .i64 (c : Int))) (w' := w291) rfl rfl rfl rfl ?_
              refine L_guard rfl rfl rfl rfl c285 ?_
              refine L_val (v := (.bool (((AL.get (AL.set lm_44 ((xn282 % 3 : Nat) : Int) (((AL.get lm_44 ((xn282 % 3 : Nat) : Int)).getD 0) + 1)) ((xn282 % 3 : Nat) : Int)).getD 0) == (c : Int)))) (w' := w291) rfl rfl rfl (by kernel_rfl) ?_
              refine L_val (v := (.bool (((AL.get (AL.set lm_44 ((xn282 % 3 : Nat) : Int) (((AL.get lm_44 ((xn282 % 3 : Nat) : Int)).getD 0) + 1)) ((xn282 % 3 : Nat) : Int)).getD 0) == (c : Int)))) (w' := w291) rfl rfl rfl (x_pick rfl rfl (by rw [c285]; rfl)) ?_
              refine L_val (v := (.bool (((AL.get (AL.set lm_44 ((xn282 % 3 : Nat) : Int) (((AL.get lm_44 ((xn282 % 3 : Nat) : Int)).getD 0) + 1)) ((xn282 % 3 : Nat) : Int)).getD 0) == (c : Int)))) (w' := w291) rfl rfl rfl rfl ?_
              refine L_nil ?_
              refine W_seq ?_
              refine W_seq ?_
              rcases Bool.eq_false_or_eq_true (((AL.get (AL.set lm_44 ((xn282 % 3 : Nat) : Int) (((AL.get lm_44 ((xn282 % 3 : Nat) : Int)).getD 0) + 1)) ((xn282 % 3 : Nat) : Int)).getD 0) == (c : Int)) with c298 | c298
              · skip
                have q299 := eq_of_beq c298
                have hmid := hf63.mid (by omega)
                have hl_ := hmid.gone (by omega) (by omega) (x := ((xn282 % 3 : Nat) : Int)) (by omega) (by simpa [AL.get_set] using eq_of_beq c298)
                refine W_region_lit ?_
                refine L_val (v := (ptr p17 0)) (w' := w291) rfl rfl rfl rfl ?_
                refine L_val (v := (.agg #[(.int .i64 0), (.int .i64 0)])) (w' := w291) rfl rfl rfl (x_load rfl rfl (run_loadVar_agg ti_43 (hst294.blk (i := 2) rfl) (l := [(.int .i64 0), (.int .i64 0)]) rfl rfl)) ?_
                refine L_val (v := (.int .i64 ((xn282 % 3 : Nat) : Int))) (w' := w291) rfl rfl rfl rfl ?_
                have hst300 := (hst294.front 1 rfl rfl)
                refine L_callS [cP68] [c290, one b21 (.cells #[(.int .i64 0), (.int .i64 0)] 43 (0, 0))] hst300 rfl rfl rfl (x_call (vs := #[(ptr p17 0), (.agg #[(.int .i64 0), (.int .i64 0)]), (.int .i64 ((xn282 % 3 : Nat) : Int))]) rfl rfl (by kernel_rfl) ent_24) (Left_spec (s := S_67) (0, 0) ((xn282 % 3 : Nat) : Int) (by constructor <;> first | decide | omega) (hst300.sats.take 1 rfl) hi62 (hT.mono (Le.trans hle7 (Le.trans hle15 (Le.trans hle34 hle61)))) (by have h_ := hmid.n; omega)) (fun v301 w302 R303 L304 hp305 hle306 hst307 => ?_)
                obtain ⟨c308, hv309, rfl, hp310⟩ := hp305
                subst hv309
                have hprof311 : Prof R303 p17 (PS.left S_67 (0, 0) ((xn282 % 3 : Nat) : Int)).1 c308 := hp310
                refine L_val (v := (.bool (((AL.get (AL.set lm_44 ((xn282 % 3 : Nat) : Int) (((AL.get lm_44 ((xn282 % 3 : Nat) : Int)).getD 0) + 1)) ((xn282 % 3 : Nat) : Int)).getD 0) == (c : Int)))) (w' := w302) rfl rfl rfl rfl ?_
                refine L_val (v := (.bool (((PS.left S_67 (0, 0) ((xn282 % 3 : Nat) : Int)).2) != (((AL.get (AL.set lm_44 ((xn282 % 3 : Nat) : Int) (((AL.get lm_44 ((xn282 % 3 : Nat) : Int)).getD 0) + 1)) ((xn282 % 3 : Nat) : Int)).getD 0) == (c : Int))))) (w' := w302) rfl rfl rfl (by kernel_rfl) ?_
                refine L_nil ?_
                have c312 : (((PS.left S_67 (0, 0) ((xn282 % 3 : Nat) : Int)).2) != (((AL.get (AL.set lm_44 ((xn282 % 3 : Nat) : Int) (((AL.get lm_44 ((xn282 % 3 : Nat) : Int)).getD 0) + 1)) ((xn282 % 3 : Nat) : Int)).getD 0) == (c : Int))) = false := by rw [hl_.1, c298]; rfl
                refine W_cond_false (by show Value.bool _ = _; exact congrArg Value.bool c312) ?_
                refine W_skip ?_
                refine W_seq ?_
                refine W_region_lit ?_
                refine L_val (v := (.bool (((AL.get (AL.set lm_44 ((xn282 % 3 : Nat) : Int) (((AL.get lm_44 ((xn282 % 3 : Nat) : Int)).getD 0) + 1)) ((xn282 % 3 : Nat) : Int)).getD 0) == (c : Int)))) (w' := w302) rfl rfl rfl rfl ?_
                refine L_nil ?_
                refine W_cond_true (by show Value.bool _ = _; exact congrArg Value.bool c298) ?_
                refine W_seq ?_
                refine W_region_lit ?_
                refine L_val (v := (.int .i64 (b_43 : Int))) (w' := w302) rfl rfl rfl rfl ?_
                refine L_val (v := (.int .i64 ((b_43 + 1 : Nat) : Int))) (w' := w302) rfl rfl rfl (x_add_nat rfl rfl rfl (by omega)) ?_
                refine L_val (v := (.int .i64 ((b_43 + 1 : Nat) : Int))) (w' := w302) rfl rfl rfl rfl ?_
                refine L_nil ?_
                refine W_region_lit ?_
                refine L_new hst307 (v := fun b => .map (some b)) (ob := .map #[] 0) rfl rfl rfl (by kernel_rfl) (fun b313 w314 hst315 => ?_)
                have hm316 : MapC (Value.int .i64) (vE (Value.int .i64)) (some b313) [] _ := MapC.made b313
                generalize one b313 (.map #[] 0) = c317 at hm316 hst315
                refine L_val (v := (.map (some b313))) (w' := w314) rfl rfl rfl rfl ?_
                refine L_nil ?_
                refine W_region_lit ?_
                refine L_val (v := (.int .i64 (k_42 : Int))) (w' := w314) rfl rfl rfl rfl ?_
                refine L_val (v := (.int .i64 ((k_42 + 1 : Nat) : Int))) (w' := w314) rfl rfl rfl (x_add_nat rfl rfl rfl (by omega)) ?_
                refine L_val (v := (.int .i64 ((k_42 + 1 : Nat) : Int))) (w' := w314) rfl rfl rfl rfl ?_
                refine L_nil ?_
                refine ⟨60 - (k_42 + 1), by first | omega | (simp only [List.length_append, List.length_cons, List.length_nil]; omega), ?_⟩
                exact ⟨_, _, (k_42 + 1), (b_43 + 1), [], ((PS.left S_67 (0, 0) ((xn282 % 3 : Nat) : Int)).1), c308, b313, c317, (upd_of (upd_of (upd_of (upd_of (upd_of (upd_of (upd_of (upd_of (upd_of (upd_of (upd_of (upd_of (upd_of (upd_of (upd_of (upd_of (upd_of (upd_of (upd_of (upd_of (upd_of (upd_of (upd_of (upd_of (upd_of (upd_of (upd_of (upd_of rfl rfl) rfl) rfl) rfl) rfl) rfl) rfl) rfl) rfl) rfl) rfl) rfl) rfl) rfl) rfl) rfl) rfl) rfl) rfl) rfl) rfl) rfl) rfl) rfl) rfl) rfl) rfl) rfl), hmk58, (((hst315.front 3 rfl rfl).front 2 rfl rfl).keepN 3 rfl), (Le.trans hle34 (Le.trans hle61 hle306)), hprof311, hm316, (by omega), hl_.2.1, hl_.2.2, rfl⟩
              · skip
                have q318 := ne_of_beq_false c298
                have hmid := hf63.mid (by omega)
                have hl_ := hmid.stay (by omega) (x := ((xn282 % 3 : Nat) : Int)) (by omega) (by simpa [AL.get_set] using ne_of_beq_false c298)
                refine W_region_lit ?_
                refine L_val (v := (ptr p17 0)) (w' := w291) rfl rfl rfl rfl ?_
                refine L_val (v := (.agg #[(.int .i64 0), (.int .i64 0)])) (w' := w291) rfl rfl rfl (x_load rfl rfl (run_loadVar_agg ti_43 (hst294.blk (i := 2) rfl) (l := [(.int .i64 0), (.int .i64 0)]) rfl rfl)) ?_
                refine L_val (v := (.int .i64 ((xn282 % 3 : Nat) : Int))) (w' := w291) rfl rfl rfl rfl ?_
                have hst319 := (hst294.front 1 rfl rfl)
                refine L_callS [cP68] [c290, one b21 (.cells #[(.int .i64 0), (.int .i64 0)] 43 (0, 0))] hst319 rfl rfl rfl (x_call (vs := #[(ptr p17 0), (.agg #[(.int .i64 0), (.int .i64 0)]), (.int .i64 ((xn282 % 3 : Nat) : Int))]) rfl rfl (by kernel_rfl) ent_24) (Left_spec (s := S_67) (0, 0) ((xn282 % 3 : Nat) : Int) (by constructor <;> first | decide | omega) (hst319.sats.take 1 rfl) hi62 (hT.mono (Le.trans hle7 (Le.trans hle15 (Le.trans hle34 hle61)))) (by have h_ := hmid.n; omega)) (fun v320 w321 R322 L323 hp324 hle325 hst326 => ?_)
                obtain ⟨c327, hv328, rfl, hp329⟩ := hp324
                subst hv328
                have hprof330 : Prof R322 p17 (PS.left S_67 (0, 0) ((xn282 % 3 : Nat) : Int)).1 c327 := hp329
                refine L_val (v := (.bool (((AL.get (AL.set lm_44 ((xn282 % 3 : Nat) : Int) (((AL.get lm_44 ((xn282 % 3 : Nat) : Int)).getD 0) + 1)) ((xn282 % 3 : Nat) : Int)).getD 0) == (c : Int)))) (w' := w321) rfl rfl rfl rfl ?_
                refine L_val (v := (.bool (((PS.left S_67 (0, 0) ((xn282 % 3 : Nat) : Int)).2) != (((AL.get (AL.set lm_44 ((xn282 % 3 : Nat) : Int) (((AL.get lm_44 ((xn282 % 3 : Nat) : Int)).getD 0) + 1)) ((xn282 % 3 : Nat) : Int)).getD 0) == (c : Int))))) (w' := w321) rfl rfl rfl (by kernel_rfl) ?_
                refine L_nil ?_
                have c331 : (((PS.left S_67 (0, 0) ((xn282 % 3 : Nat) : Int)).2) != (((AL.get (AL.set lm_44 ((xn282 % 3 : Nat) : Int) (((AL.get lm_44 ((xn282 % 3 : Nat) : Int)).getD 0) + 1)) ((xn282 % 3 : Nat) : Int)).getD 0) == (c : Int))) = false := by rw [hl_.1, c298]; rfl
                refine W_cond_false (by show Value.bool _ = _; exact congrArg Value.bool c331) ?_
                refine W_skip ?_
                refine W_seq ?_
                refine W_region_lit ?_
                refine L_val (v := (.bool (((AL.get (AL.set lm_44 ((xn282 % 3 : Nat) : Int) (((AL.get lm_44 ((xn282 % 3 : Nat) : Int)).getD 0) + 1)) ((xn282 % 3 : Nat) : Int)).getD 0) == (c : Int)))) (w' := w321) rfl rfl rfl rfl ?_
                refine L_nil ?_
                refine W_cond_false (by show Value.bool _ = _; exact congrArg Value.bool c298) ?_
                refine W_skip ?_
                refine W_region_lit ?_
                refine L_val (v := (.int .i64 (k_42 : Int))) (w' := w321) rfl rfl rfl rfl ?_
                refine L_val (v := (.int .i64 ((k_42 + 1 : Nat) : Int))) (w' := w321) rfl rfl rfl (x_add_nat rfl rfl rfl (by omega)) ?_
                refine L_val (v := (.int .i64 ((k_42 + 1 : Nat) : Int))) (w' := w321) rfl rfl rfl rfl ?_
                refine L_nil ?_
                refine ⟨60 - (k_42 + 1), by first | omega | (simp only [List.length_append, List.length_cons, List.length_nil]; omega), ?_⟩
                exact ⟨_, _, (k_42 + 1), b_43, (AL.set lm_44 ((xn282 % 3 : Nat) : Int) (((AL.get lm_44 ((xn282 % 3 : Nat) : Int)).getD 0) + 1)), ((PS.left S_67 (0, 0) ((xn282 % 3 : Nat) : Int)).1), c327, bL47, c290, (upd_of (upd_of (upd_of (upd_of (upd_of (upd_of (upd_of (upd_of (upd_of (upd_of (upd_of (upd_of (upd_of (upd_of (upd_of (upd_of (upd_of (upd_of (upd_of (upd_of (upd_of (upd_of (upd_of (upd_of (upd_of (upd_of (upd_of (upd_of rfl rfl) rfl) rfl) rfl) rfl) rfl) rfl) rfl) rfl) rfl) rfl) rfl) rfl) rfl) rfl) rfl) rfl) rfl) rfl) rfl) rfl) rfl) rfl) rfl) rfl) rfl) rfl) rfl), hmk58, (((hst326.front 1 rfl rfl).front 2 rfl rfl).front 2 rfl rfl), (Le.trans hle34 (Le.trans hle61 hle325)), hprof330, hm293, (by omega), hl_.2.1, hl_.2.2, rfl⟩
            · skip
              have q332 := of_decide_eq_false c285
              refine W_cond_false (by show Value.bool _ = _; exact congrArg Value.bool c285) ?_
              refine W_skip ?_
              refine W_seq ?_
              refine W_region_lit ?_
              refine L_val (v := (.int .i64 (b_43 : Int))) (w' := w60) rfl rfl rfl rfl ?_
              refine L_val (v := (.bool (decide ((b_43 : Int) < 3)))) (w' := w60) rfl rfl rfl (by kernel_rfl) ?_
              refine L_val (v := (.bool (decide ((b_43 : Int) < 3)))) (w' := w60) rfl rfl rfl rfl ?_
              refine L_unwanted rfl rfl rfl rfl (by rw [c285]; rfl) rfl rfl ?_
              refine L_unwanted rfl rfl rfl rfl (by rw [c285]; rfl) rfl rfl ?_
              refine L_unwanted rfl rfl rfl rfl (by rw [c285]; rfl) rfl rfl ?_
              refine L_unwanted rfl rfl rfl rfl (by rw [c285]; rfl) rfl rfl ?_
              refine L_unwanted rfl rfl rfl rfl (by rw [c285]; rfl) rfl rfl ?_
              refine L_val (v := (.bool false)) (w' := w60) rfl rfl rfl (x_pick rfl rfl (by rw [c285]; rfl)) ?_
              refine L_val (v := (.bool false)) (w' := w60) rfl rfl rfl rfl ?_
              refine L_nil ?_
              refine W_seq ?_
              refine W_seq ?_
              have hmid := hf63.mid (by omega)
              have hl_ := hmid.keep (by have := hmid.inv.tier_cases; omega) ((xn282 % 3 : Nat) : Int)
              refine W_region_lit ?_
              refine L_val (v := (ptr p17 0)) (w' := w60) rfl rfl rfl rfl ?_
              refine L_val (v := (.agg #[(.int .i64 0), (.int .i64 0)])) (w' := w60) rfl rfl rfl (x_load rfl rfl (run_loadVar_agg ti_43 (hst59.blk (i := 1) rfl) (l := [(.int .i64 0), (.int .i64 0)]) rfl rfl)) ?_
              refine L_val (v := (.int .i64 ((xn282 % 3 : Nat) : Int))) (w' := w60) rfl rfl rfl rfl ?_
              have hst333 := hst59
              refine L_callS [cP68] [one b21 (.cells #[(.int .i64 0), (.int .i64 0)] 43 (0, 0)), cL48] hst333 rfl rfl rfl (x_call (vs := #[(ptr p17 0), (.agg #[(.int .i64 0), (.int .i64 0)]), (.int .i64 ((xn282 % 3 : Nat) : Int))]) rfl rfl (by kernel_rfl) ent_24) (Left_spec (s := S_67) (0, 0) ((xn282 % 3 : Nat) : Int) (by constructor <;> first | decide | omega) (hst333.sats.take 1 rfl) hi62 (hT.mono (Le.trans hle7 (Le.trans hle15 (Le.trans hle34 hle61)))) (by have h_ := hmid.n; omega)) (fun v334 w335 R336 L337 hp338 hle339 hst340 => ?_)
              obtain ⟨c341, hv342, rfl, hp343⟩ := hp338
              subst hv342
              have hprof344 : Prof R336 p17 (PS.left S_67 (0, 0) ((xn282 % 3 : Nat) : Int)).1 c341 := hp343
              refine L_val (v := (.bool false)) (w' := w335) rfl rfl rfl rfl ?_
              refine L_val (v := (.bool (((PS.left S_67 (0, 0) ((xn282 % 3 : Nat) : Int)).2) != false))) (w' := w335) rfl rfl rfl (by kernel_rfl) ?_
              refine L_nil ?_
              have c345 : (((PS.left S_67 (0, 0) ((xn282 % 3 : Nat) : Int)).2) != false) = false := by rw [hl_.1]; rfl
              refine W_cond_false (by show Value.bool _ = _; exact congrArg Value.bool c345) ?_
              refine W_skip ?_
              refine W_seq ?_
              refine W_region_lit ?_
              refine L_val (v := (.bool false)) (w' := w335) rfl rfl rfl rfl ?_
              refine L_nil ?_
              refine W_cond_false (by show Value.bool _ = _; exact congrArg Value.bool rfl) ?_
              refine W_skip ?_
              refine W_region_lit ?_
              refine L_val (v := (.int .i64 (k_42 : Int))) (w' := w335) rfl rfl rfl rfl ?_
              refine L_val (v := (.int .i64 ((k_42 + 1 : Nat) : Int))) (w' := w335) rfl rfl rfl (x_add_nat rfl rfl rfl (by omega)) ?_
              refine L_val (v := (.int .i64 ((k_42 + 1 : Nat) : Int))) (w' := w335) rfl rfl rfl rfl ?_
              refine L_nil ?_
              refine ⟨60 - (k_42 + 1), by first | omega | (simp only [List.length_append, List.length_cons, List.length_nil]; omega), ?_⟩
              exact ⟨_, _, (k_42 + 1), b_43, lm_44, ((PS.left S_67 (0, 0) ((xn282 % 3 : Nat) : Int)).1), c341, bL47, cL48, (upd_of (upd_of (upd_of (upd_of (upd_of (upd_of (upd_of (upd_of (upd_of (upd_of (upd_of (upd_of (upd_of (upd_of (upd_of (upd_of (upd_of (upd_of (upd_of (upd_of (upd_of (upd_of (upd_of (upd_of (upd_of (upd_of (upd_of (upd_of rfl rfl) rfl) rfl) rfl) rfl) rfl) rfl) rfl) rfl) rfl) rfl) rfl) rfl) rfl) rfl) rfl) rfl) rfl) rfl) rfl) rfl) rfl) rfl) rfl) rfl) rfl) rfl) rfl), hmk58, (((hst340.front 2 rfl rfl).front 2 rfl rfl).front 2 rfl rfl), (Le.trans hle34 (Le.trans hle61 hle339)), hprof344, hi36, (by omega), hl_.2.1, hl_.2.2, rfl⟩
      · skip
        have q346 := of_decide_eq_false c56
        refine W_cond_false (by show Value.bool _ = _; exact congrArg Value.bool c56) ?_
        refine W_exit ?_
        refine W_seq ?_
        refine W_region_lit ?_
        refine L_val (v := (.bool true)) (w' := w33) rfl rfl rfl rfl ?_
        refine L_val (v := (.bool true)) (w' := w33) rfl rfl rfl rfl ?_
        refine L_guard rfl rfl rfl rfl rfl ?_
        refine L_val (v := (ptr p17 0)) (w' := w33) rfl rfl rfl rfl ?_
        refine L_guard rfl rfl rfl rfl rfl ?_
        refine L_val (v := (.agg #[(.int .i64 0), (.int .i64 0)])) (w' := w33) rfl rfl rfl (x_load rfl rfl (run_loadVar_agg ti_43 (hst32.blk (i := 1) rfl) (l := [(.int .i64 0), (.int .i64 0)]) rfl rfl)) ?_
        refine L_guard rfl rfl rfl rfl rfl ?_
        have hst347 := hst32
        refine L_callS [cP46] [one b21 (.cells #[(.int .i64 0), (.int .i64 0)] 43 (0, 0)), cL48] hst347 rfl rfl rfl (x_call (vs := #[(ptr p17 0), (.agg #[(.int .i64 0), (.int .i64 0)])]) rfl rfl (by kernel_rfl) ent_18) (Tier_spec (s := S_45) (0, 0)  (hst347.sats.take 1 rfl) hi35 (hT.mono (Le.trans hle7 (Le.trans hle15 hle34))) (by have h_ := hf39; omega)) (fun v348 w349 R350 L351 hp352 hle353 hst354 => ?_)
        obtain ⟨c355, hv356, rfl, hp357⟩ := hp352
        subst hv356
        have hprof358 : Prof R350 p17 S_45 c355 := hp357
        refine L_guard rfl rfl rfl rfl rfl ?_
        refine L_val (v := (.bool ((PS.tier S_45 (0, 0)) == (-1)))) (w' := w349) rfl rfl rfl (by kernel_rfl) ?_
        refine L_guard rfl rfl rfl rfl rfl ?_
        refine L_val (v := (.int .i64 (b_43 : Int))) (w' := w349) rfl rfl rfl rfl ?_
        refine L_guard rfl rfl rfl rfl rfl ?_
        refine L_val (v := (.bool ((b_43 : Int) == 3))) (w' := w349) rfl rfl rfl (by kernel_rfl) ?_
        refine L_guard rfl rfl rfl rfl rfl ?_
        refine L_val (v := (.bool (((PS.tier S_45 (0, 0)) == (-1)) == ((b_43 : Int) == 3)))) (w' := w349) rfl rfl rfl (by kernel_rfl) ?_
        refine L_val (v := (.bool (((PS.tier S_45 (0, 0)) == (-1)) == ((b_43 : Int) == 3)))) (w' := w349) rfl rfl rfl rfl ?_
        refine L_val (v := (.bool (((PS.tier S_45 (0, 0)) == (-1)) == ((b_43 : Int) == 3)))) (w' := w349) rfl rfl rfl rfl ?_
        refine L_nil ?_
        refine W_ret ?_
        refine ⟨_, _, res_run (rs := [.tmp 4]) (vs := [(.bool (((PS.tier S_45 (0, 0)) == (-1)) == ((b_43 : Int) == 3)))]) Tryd.results7 (.cons (.tmp rfl) .nil) hmk31, ?_⟩
        exact ⟨_, _, [], rfl, hst354.keepN 0 rfl, congrArg Value.bool (by rw [hf38.end]; exact beq_self_eq_true _), rfl⟩
    · skip
      have q359 := of_decide_eq_false c54
      refine L_unwanted rfl rfl rfl rfl (by rw [c54]; rfl) rfl rfl ?_
      refine L_unwanted rfl rfl rfl rfl (by rw [c54]; rfl) rfl rfl ?_
      refine L_val (v := (.bool false)) (w' := w33) rfl rfl rfl (x_pick rfl rfl (by rw [c54]; rfl)) ?_
      refine L_nil ?_
      refine W_cond_false (by show Value.bool _ = _; exact congrArg Value.bool rfl) ?_
      refine W_exit ?_
      refine W_seq ?_
      refine W_region_lit ?_
      refine L_val (v := (.bool true)) (w' := w33) rfl rfl rfl rfl ?_
      refine L_val (v := (.bool true)) (w' := w33) rfl rfl rfl rfl ?_
      refine L_guard rfl rfl rfl rfl rfl ?_
      refine L_val (v := (ptr p17 0)) (w' := w33) rfl rfl rfl rfl ?_
      refine L_guard rfl rfl rfl rfl rfl ?_
      refine L_val (v := (.agg #[(.int .i64 0), (.int .i64 0)])) (w' := w33) rfl rfl rfl (x_load rfl rfl (run_loadVar_agg ti_43 (hst32.blk (i := 1) rfl) (l := [(.int .i64 0), (.int .i64 0)]) rfl rfl)) ?_
      refine L_guard rfl rfl rfl rfl rfl ?_
      have hst360 := hst32
      refine L_callS [cP46] [one b21 (.cells #[(.int .i64 0), (.int .i64 0)] 43 (0, 0)), cL48] hst360 rfl rfl rfl (x_call (vs := #[(ptr p17 0), (.agg #[(.int .i64 0), (.int .i64 0)])]) rfl rfl (by kernel_rfl) ent_18) (Tier_spec (s := S_45) (0, 0)  (hst360.sats.take 1 rfl) hi35 (hT.mono (Le.trans hle7 (Le.trans hle15 hle34))) (by have h_ := hf39; omega)) (fun v361 w362 R363 L364 hp365 hle366 hst367 => ?_)
      obtain ⟨c368, hv369, rfl, hp370⟩ := hp365
      subst hv369
      have hprof371 : Prof R363 p17 S_45 c368 := hp370
      refine L_guard rfl rfl rfl rfl rfl ?_
      refine L_val (v := (.bool ((PS.tier S_45 (0, 0)) == (-1)))) (w' := w362) rfl rfl rfl (by kernel_rfl) ?_
      refine L_guard rfl rfl rfl rfl rfl ?_
      refine L_val (v := (.int .i64 (b_43 : Int))) (w' := w362) rfl rfl rfl rfl ?_
      refine L_guard rfl rfl rfl rfl rfl ?_
      refine L_val (v := (.bool ((b_43 : Int) == 3))) (w' := w362) rfl rfl rfl (by kernel_rfl) ?_
      refine L_guard rfl rfl rfl rfl rfl ?_
      refine L_val (v := (.bool (((PS.tier S_45 (0, 0)) == (-1)) == ((b_43 : Int) == 3)))) (w' := w362) rfl rfl rfl (by kernel_rfl) ?_
      refine L_val (v := (.bool (((PS.tier S_45 (0, 0)) == (-1)) == ((b_43 : Int) == 3)))) (w' := w362) rfl rfl rfl rfl ?_
      refine L_val (v := (.bool (((PS.tier S_45 (0, 0)) == (-1)) == ((b_43 : Int) == 3)))) (w' := w362) rfl rfl rfl rfl ?_
      refine L_nil ?_
      refine W_ret ?_
      refine ⟨_, _, res_run (rs := [.tmp 4]) (vs := [(.bool (((PS.tier S_45 (0, 0)) == (-1)) == ((b_43 : Int) == 3)))]) Tryd.results7 (.cons (.tmp rfl) .nil) hmk31, ?_⟩
      exact ⟨_, _, [], rfl, hst367.keepN 0 rfl, congrArg Value.bool (by rw [hf38.end]; exact beq_self_eq_true _), rfl⟩

end Go.Fx.YtdkjoljcffkpkaaDoor
