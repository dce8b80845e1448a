/-
  Chapter 14: sanity, printed by genv.py
-/
import Derived.Test.YtdkjoljcffkpkaaDoorPrU
set_option linter.unusedSimpArgs false
set_option linter.unusedVariables false
namespace Go.Fx.YtdkjoljcffkpkaaDoor
open Go Go.Fx Go.Proofs
set_option maxRecDepth 20000

theorem ent_14 : Ent Tryd.prog 14 := fun _ _ => by kernel_rfl
theorem ent_17 : Ent Tryd.prog 17 := fun _ _ => by kernel_rfl
theorem ent_18 : Ent Tryd.prog 18 := fun _ _ => by kernel_rfl
theorem ent_22 : Ent Tryd.prog 22 := fun _ _ => by kernel_rfl
theorem ent_23 : Ent Tryd.prog 23 := fun _ _ => by kernel_rfl
theorem ent_24 : Ent Tryd.prog 24 := fun _ _ => by kernel_rfl
theorem ent_26 : Ent Tryd.prog 26 := fun _ _ => by kernel_rfl
theorem ent_27 : Ent Tryd.prog 27 := fun _ _ => by kernel_rfl
theorem sl_71 : SL Tryd.prog 71 4 := Tryd.underlying71
theorem ti_4 : TI Tryd.prog 4 false 1 1 (.bool false) := ⟨by kernel_rfl, by kernel_rfl⟩

set_option maxHeartbeats 4000000 in
theorem sanity_spec {w : World} {R : Hp} (hs : Sats w R []) (hT : Tab R) :
    Calls Tryd.prog 10 #[] w (Comes' w R [] fun v' R' L' => v' = .bool true ∧ L' = []) := by
 have hst := Step.refl hs
 have hlD := zD_len
 refine calls_of_W (n := 129) Tryd.func10 rfl Tryd.ntmps10 (Nat.le_of_ble_eq_true rfl) ?_
 refine W_seq ?_
 refine W_region_lit ?_
 refine Lq (.bool false) rfl rfl rfl rfl ?_
 refine L_nil ?_
 refine W_seq ?_
 refine W_region_lit ?_
 have hst1 := hst
 refine L_callS [] [] hst1 rfl rfl rfl (x_call (vs := #[(int 2), (int 1), (int 3), (int 2)]) rfl rfl (by kernel_rfl) ent_22) (New_spec (a := 2) (b := 1) (c := 3) (d := 2) (hst1.sats.take 0 rfl) (by omega) (by omega) (by omega) (by omega)) (fun v2 w3 R4 L5 hp6 hle7 hst8 => ?_)
 obtain ⟨p9, c10, rfl, rfl, hp11⟩ := hp6
 have hprof12 : Prof R4 p9 z0 c10 := hp11
 refine Lq (.tuple #[(ptr p9 0), (int 0)]) rfl rfl rfl rfl ?_
 refine Lq (ptr p9 0) rfl rfl rfl (by kernel_rfl) ?_
 refine Lq (int 0) rfl rfl rfl (by kernel_rfl) ?_
 refine L_new hst8 (v := fun b => ptr b 0) (ob := .cells #[(.pointer none)] 26 (0, 0)) rfl rfl rfl (by kernel_rfl) (fun b13 w14 hst15 => ?_)
 refine L_store hst15 0 ti_26 rfl rfl rfl rfl rfl rfl rfl rfl rfl rfl rfl (fun w16 hst17 => ?_)
 change Step _ _ _ _ _ [one b13 (.cells #[(ptr p9 0)] 26 (0, 0)), c10] at hst17
 refine Lq (int 0) rfl rfl rfl rfl ?_
 refine L_nil ?_
 refine W_seq ?_
 refine W_region_lit ?_
 refine Lq (.agg #[(int 1), (int 2)]) rfl rfl rfl (by kernel_rfl) ?_
 refine L_new hst17 (v := fun b => ptr b 0) (ob := .cells #[(int 0), (int 0)] 43 (0, 0)) rfl rfl rfl (by kernel_rfl) (fun b18 w19 hst20 => ?_)
 refine L_store hst20 0 ti_43 rfl rfl rfl rfl rfl rfl rfl rfl rfl rfl rfl (fun w21 hst22 => ?_)
 change Step _ _ _ _ _ [one b18 (.cells #[(int 1), (int 2)] 43 (0, 0)), one b13 (.cells #[(ptr p9 0)] 26 (0, 0)), c10] at hst22
 refine L_nil ?_
 refine W_seq ?_
 refine W_seq ?_
 refine W_region_lit ?_
 refine Lq (int 0) rfl rfl rfl rfl ?_
 refine Lq (.bool false) rfl rfl rfl (by kernel_rfl) ?_
 refine Lq (.bool false) rfl rfl rfl rfl ?_
 refine L_guard rfl rfl rfl rfl rfl ?_
 refine Lq (ptr p9 0) rfl rfl rfl (x_load rfl rfl (run_loadVar_one ti_26 (hst22.b 1) rfl)) ?_
 refine L_guard rfl rfl rfl rfl rfl ?_
 refine Lq (.bool false) rfl rfl rfl (by kernel_rfl) ?_
 refine Lq (.bool false) rfl rfl rfl rfl ?_
 refine L_nil ?_
 refine W_cond_false (by show Value.bool _ = _; exact congrArg Value.bool rfl) ?_
 refine W_skip ?_
 refine W_seq ?_
 refine W_region_lit ?_
 refine Lq (.func (.func 27) #[] #[(ptr b13 0), (ptr b18 0)]) rfl rfl rfl (by kernel_rfl) ?_
 refine Lq (.func (.func 27) #[] #[(ptr b13 0), (ptr b18 0)]) rfl rfl rfl rfl ?_
 refine L_nil ?_
 refine W_seq ?_
 refine W_seq ?_
 refine W_region_lit ?_
 refine Lq (.func (.func 27) #[] #[(ptr b13 0), (ptr b18 0)]) rfl rfl rfl rfl ?_
 refine L_new hst22 (v := fun b => .slice (some ⟨b, 0, none⟩) 2 2) (ob := .cells #[(.bool false), (.bool true)] 4 (0, 0)) rfl rfl rfl (by kernel_rfl) (fun b23 w24 hst25 => ?_)
 refine L_call rfl rfl rfl (x_callv (vs := #[(.slice (some ⟨b23, 0, none⟩) 2 2), (ptr b13 0), (ptr b18 0)]) rfl rfl (by kernel_rfl) ent_27) ?_ (fun _ _ h => h)
 refine calls_of_W (n := 19) Tryd.func27 rfl Tryd.ntmps27 (Nat.le_of_ble_eq_true rfl) ?_
 refine W_seq ?_
 refine W_region_lit ?_
 refine Lq (.bool false) rfl rfl rfl rfl ?_
 refine L_nil ?_
 refine W_seq ?_
 refine W_seq ?_
 refine W_region_lit ?_
 refine Lq (.slice (some ⟨b23, 0, none⟩) 2 2) rfl rfl rfl rfl ?_
 refine Lq (int 2) rfl rfl rfl (x_len_slice rfl sl_71 rfl) ?_
 refine Lq (int 0) rfl rfl rfl rfl ?_
 refine L_nil ?_
 refine W_block ?_
 refine W_loop_unr 5 ?_
 show W _ _ _ _ _ _ _
 refine W_seq ?_
 refine W_region_lit ?_
 refine Lq (.bool true) rfl rfl rfl (by kernel_rfl) ?_
 refine L_nil ?_
 refine W_seq ?_
 refine W_cond_true (by show Value.bool _ = _; exact congrArg Value.bool rfl) ?_
 refine W_skip ?_
 refine W_seq ?_
 refine W_block ?_
 refine W_seq ?_
 refine W_region_lit ?_
 refine Lq (ptr b23 0) rfl rfl rfl (x_indexAddr' (k := 0) (len := 2) rfl sl_71 ti_4 rfl rfl (by decide)) ?_
 refine Lq (.bool false) rfl rfl rfl (x_load rfl rfl (run_loadVar_one ti_4 (hst25.b 0) rfl)) ?_
 refine Lq (.bool false) rfl rfl rfl rfl ?_
 refine L_nil ?_
 refine W_seq ?_
 refine W_region_lit ?_
 refine Lq (ptr p9 0) rfl rfl rfl (x_load rfl rfl (run_loadVar_one ti_26 (hst25.b 2) rfl)) ?_
 refine Lq (.agg #[(int 1), (int 2)]) rfl rfl rfl (x_load rfl rfl (run_loadVar_agg ti_43 (hst25.b 1) (l := [(int 1), (int 2)]) rfl rfl)) ?_
 have hst26 := (hst25.front 3 rfl rfl)
 refine L_callS [c10] [one b23 (.cells #[(.bool false), (.bool true)] 4 (0, 0)), one b18 (.cells #[(int 1), (int 2)] 43 (0, 0)), one b13 (.cells #[(ptr p9 0)] 26 (0, 0))] hst26 rfl rfl rfl (x_call (vs := #[(ptr p9 0), (.agg #[(int 1), (int 2)])]) rfl rfl (by kernel_rfl) ent_23) (Back_spec (s := z0) (1, 2)  (hst26.sats.take 1 rfl) hprof12 (hT.mono hle7) (z_n (by kernel_rfl))) (fun v27 w28 R29 L30 hp31 hle32 hst33 => ?_)
 obtain ⟨c34, hv35, rfl, hp36⟩ := hp31
 rw [z0_back] at hv35 hp36
 subst hv35
 have hprof37 : Prof R29 p9 z1 c34 := hp36
 refine Lq (.bool false) rfl rfl rfl rfl ?_
 refine Lq (.bool false) rfl rfl rfl (by kernel_rfl) ?_
 refine L_nil ?_
 refine W_cond_false (by show Value.bool _ = _; exact congrArg Value.bool rfl) ?_
 refine W_skip ?_
 refine W_region_lit ?_
 refine Lq (int 1) rfl rfl rfl (by kernel_rfl) ?_
 refine Lq (int 1) rfl rfl rfl rfl ?_
 refine L_nil ?_
 show W _ _ _ _ _ _ _
 refine W_seq ?_
 refine W_region_lit ?_
 refine Lq (.bool true) rfl rfl rfl (by kernel_rfl) ?_
 refine L_nil ?_
 refine W_seq ?_
 refine W_cond_true (by show Value.bool _ = _; exact congrArg Value.bool rfl) ?_
 refine W_skip ?_
 refine W_seq ?_
 refine W_block ?_
 refine W_seq ?_
 refine W_region_lit ?_
 refine Lq (ptr b23 1) rfl rfl rfl (x_indexAddr' (k := 1) (len := 2) rfl sl_71 ti_4 rfl rfl (by decide)) ?_
 refine Lq (.bool true) rfl rfl rfl (x_load rfl rfl (run_loadVar_one ti_4 (hst33.b 1) rfl)) ?_
 refine Lq (.bool true) rfl rfl rfl rfl ?_
 refine L_nil ?_
 refine W_seq ?_
 refine W_region_lit ?_
 refine Lq (ptr p9 0) rfl rfl rfl (x_load rfl rfl (run_loadVar_one ti_26 (hst33.b 3) rfl)) ?_
 refine Lq (.agg #[(int 1), (int 2)]) rfl rfl rfl (x_load rfl rfl (run_loadVar_agg ti_43 (hst33.b 2) (l := [(int 1), (int 2)]) rfl rfl)) ?_
 have hst38 := hst33
 refine L_callS [c34] [one b23 (.cells #[(.bool false), (.bool true)] 4 (0, 0)), one b18 (.cells #[(int 1), (int 2)] 43 (0, 0)), one b13 (.cells #[(ptr p9 0)] 26 (0, 0))] hst38 rfl rfl rfl (x_call (vs := #[(ptr p9 0), (.agg #[(int 1), (int 2)])]) rfl rfl (by kernel_rfl) ent_23) (Back_spec (s := z1) (1, 2)  (hst38.sats.take 1 rfl) hprof37 (hT.mono (Le.trans hle7 hle32)) (z_n (by kernel_rfl))) (fun v39 w40 R41 L42 hp43 hle44 hst45 => ?_)
 obtain ⟨c46, hv47, rfl, hp48⟩ := hp43
 rw [z1_back] at hv47 hp48
 subst hv47
 have hprof49 : Prof R41 p9 z2 c46 := hp48
 refine Lq (.bool true) rfl rfl rfl rfl ?_
 refine Lq (.bool false) rfl rfl rfl (by kernel_rfl) ?_
 refine L_nil ?_
 refine W_cond_false (by show Value.bool _ = _; exact congrArg Value.bool rfl) ?_
 refine W_skip ?_
 refine W_region_lit ?_
 refine Lq (int 2) rfl rfl rfl (by kernel_rfl) ?_
 refine Lq (int 2) rfl rfl rfl rfl ?_
 refine L_nil ?_
 show W _ _ _ _ _ _ _
 refine W_seq ?_
 refine W_region_lit ?_
 refine Lq (.bool false) rfl rfl rfl (by kernel_rfl) ?_
 refine L_nil ?_
 refine W_seq ?_
 refine W_cond_false (by show Value.bool _ = _; exact congrArg Value.bool rfl) ?_
 refine W_exit ?_
 refine W_seq ?_
 refine W_region_lit ?_
 refine Lq (.bool true) rfl rfl rfl rfl ?_
 refine L_nil ?_
 refine W_ret ?_
 refine ⟨_, _, res_run (rs := [.tmp 4]) (vs := [(.bool true)]) Tryd.results27 (.cons (.tmp rfl) .nil) rfl, ?_⟩
 refine ⟨_, rfl, ?_⟩
 refine Lq (.bool false) rfl rfl rfl rfl ?_
 refine Lq (.bool false) rfl rfl rfl rfl ?_
 refine L_guard rfl rfl rfl rfl rfl ?_
 refine Lq (ptr p9 0) rfl rfl rfl (x_load rfl rfl (run_loadVar_one ti_26 (hst45.b 3) rfl)) ?_
 refine L_guard rfl rfl rfl rfl rfl ?_
 refine Lq (.agg #[(int 1), (int 2)]) rfl rfl rfl (x_load rfl rfl (run_loadVar_agg ti_43 (hst45.b 2) (l := [(int 1), (int 2)]) rfl rfl)) ?_
 refine L_guard rfl rfl rfl rfl rfl ?_
 have hst50 := hst45
 refine L_callS [c46] [one b23 (.cells #[(.bool false), (.bool true)] 4 (0, 0)), one b18 (.cells #[(int 1), (int 2)] 43 (0, 0)), one b13 (.cells #[(ptr p9 0)] 26 (0, 0))] hst50 rfl rfl rfl (x_call (vs := #[(ptr p9 0), (.agg #[(int 1), (int 2)])]) rfl rfl (by kernel_rfl) ent_18) (Tier_spec (s := z2) (1, 2)  (hst50.sats.take 1 rfl) hprof49 (hT.mono (Le.trans hle7 (Le.trans hle32 hle44))) (z_n (by kernel_rfl))) (fun v51 w52 R53 L54 hp55 hle56 hst57 => ?_)
 obtain ⟨c58, hv59, rfl, hp60⟩ := hp55
 rw [z2_tier] at hv59
 subst hv59
 have hprof61 : Prof R53 p9 z2 c58 := hp60
 refine L_guard rfl rfl rfl rfl rfl ?_
 refine Lq (.bool false) rfl rfl rfl (by kernel_rfl) ?_
 refine Lq (.bool false) rfl rfl rfl rfl ?_
 refine Lq (.bool false) rfl rfl rfl rfl ?_
 refine L_guard rfl rfl rfl rfl rfl ?_
 refine Lq (.func (.func 27) #[] #[(ptr b13 0), (ptr b18 0)]) rfl rfl rfl rfl ?_
 refine L_guard rfl rfl rfl rfl rfl ?_
 refine L_new hst57 (v := fun b => .slice (some ⟨b, 0, none⟩) 4 4) (ob := .cells #[(.bool false), (.bool false), (.bool false), (.bool true)] 4 (0, 0)) rfl rfl rfl (by kernel_rfl) (fun b62 w63 hst64 => ?_)
 refine L_guard rfl rfl rfl rfl rfl ?_
 refine L_call rfl rfl rfl (x_callv (vs := #[(.slice (some ⟨b62, 0, none⟩) 4 4), (ptr b13 0), (ptr b18 0)]) rfl rfl (by kernel_rfl) ent_27) ?_ (fun _ _ h => h)
 refine calls_of_W (n := 19) Tryd.func27 rfl Tryd.ntmps27 (Nat.le_of_ble_eq_true rfl) ?_
 refine W_seq ?_
 refine W_region_lit ?_
 refine Lq (.bool false) rfl rfl rfl rfl ?_
 refine L_nil ?_
 refine W_seq ?_
 refine W_seq ?_
 refine W_region_lit ?_
 refine Lq (.slice (some ⟨b62, 0, none⟩) 4 4) rfl rfl rfl rfl ?_
 refine Lq (int 4) rfl rfl rfl (x_len_slice rfl sl_71 rfl) ?_
 refine Lq (int 0) rfl rfl rfl rfl ?_
 refine L_nil ?_
 refine W_block ?_
 refine W_loop_unr 5 ?_
 show W _ _ _ _ _ _ _
 refine W_seq ?_
 refine W_region_lit ?_
 refine Lq (.bool true) rfl rfl rfl (by kernel_rfl) ?_
 refine L_nil ?_
 refine W_seq ?_
 refine W_cond_true (by show Value.bool _ = _; exact congrArg Value.bool rfl) ?_
 refine W_skip ?_
 refine W_seq ?_
 refine W_block ?_
 refine W_seq ?_
 refine W_region_lit ?_
 refine Lq (ptr b62 0) rfl rfl rfl (x_indexAddr' (k := 0) (len := 4) rfl sl_71 ti_4 rfl rfl (by decide)) ?_
 refine Lq (.bool false) rfl rfl rfl (x_load rfl rfl (run_loadVar_one ti_4 (hst64.b 0) rfl)) ?_
 refine Lq (.bool false) rfl rfl rfl rfl ?_
 refine L_nil ?_
 refine W_seq ?_
 refine W_region_lit ?_
 refine Lq (ptr p9 0) rfl rfl rfl (x_load rfl rfl (run_loadVar_one ti_26 (hst64.b 4) rfl)) ?_
 refine Lq (.agg #[(int 1), (int 2)]) rfl rfl rfl (x_load rfl rfl (run_loadVar_agg ti_43 (hst64.b 3) (l := [(int 1), (int 2)]) rfl rfl)) ?_
 have hst65 := (hst64.front 1 rfl rfl)
 refine L_callS [c58] [one b62 (.cells #[(.bool false), (.bool false), (.bool false), (.bool true)] 4 (0, 0)), one b23 (.cells #[(.bool false), (.bool true)] 4 (0, 0)), one b18 (.cells #[(int 1), (int 2)] 43 (0, 0)), one b13 (.cells #[(ptr p9 0)] 26 (0, 0))] hst65 rfl rfl rfl (x_call (vs := #[(ptr p9 0), (.agg #[(int 1), (int 2)])]) rfl rfl (by kernel_rfl) ent_23) (Back_spec (s := z2) (1, 2)  (hst65.sats.take 1 rfl) hprof61 (hT.mono (Le.trans hle7 (Le.trans hle32 (Le.trans hle44 hle56)))) (z_n (by kernel_rfl))) (fun v66 w67 R68 L69 hp70 hle71 hst72 => ?_)
 obtain ⟨c73, hv74, rfl, hp75⟩ := hp70
 rw [z2_back] at hv74 hp75
 subst hv74
 have hprof76 : Prof R68 p9 z3 c73 := hp75
 refine Lq (.bool false) rfl rfl rfl rfl ?_
 refine Lq (.bool false) rfl rfl rfl (by kernel_rfl) ?_
 refine L_nil ?_
 refine W_cond_false (by show Value.bool _ = _; exact congrArg Value.bool rfl) ?_
 refine W_skip ?_
 refine W_region_lit ?_
 refine Lq (int 1) rfl rfl rfl (by kernel_rfl) ?_
 refine Lq (int 1) rfl rfl rfl rfl ?_
 refine L_nil ?_
 show W _ _ _ _ _ _ _
 refine W_seq ?_
 refine W_region_lit ?_
 refine Lq (.bool true) rfl rfl rfl (by kernel_rfl) ?_
 refine L_nil ?_
 refine W_seq ?_
 refine W_cond_true (by show Value.bool _ = _; exact congrArg Value.bool rfl) ?_
 refine W_skip ?_
 refine W_seq ?_
 refine W_block ?_
 refine W_seq ?_
 refine W_region_lit ?_
 refine Lq (ptr b62 1) rfl rfl rfl (x_indexAddr' (k := 1) (len := 4) rfl sl_71 ti_4 rfl rfl (by decide)) ?_
 refine Lq (.bool false) rfl rfl rfl (x_load rfl rfl (run_loadVar_one ti_4 (hst72.b 1) rfl)) ?_
 refine Lq (.bool false) rfl rfl rfl rfl ?_
 refine L_nil ?_
 refine W_seq ?_
 refine W_region_lit ?_
 refine Lq (ptr p9 0) rfl rfl rfl (x_load rfl rfl (run_loadVar_one ti_26 (hst72.b 4) rfl)) ?_
 refine Lq (.agg #[(int 1), (int 2)]) rfl rfl rfl (x_load rfl rfl (run_loadVar_agg ti_43 (hst72.b 3) (l := [(int 1), (int 2)]) rfl rfl)) ?_
 have hst77 := hst72
 refine L_callS [c73] [one b62 (.cells #[(.bool false), (.bool false), (.bool false), (.bool true)] 4 (0, 0)), one b23 (.cells #[(.bool false), (.bool true)] 4 (0, 0)), one b18 (.cells #[(int 1), (int 2)] 43 (0, 0)), one b13 (.cells #[(ptr p9 0)] 26 (0, 0))] hst77 rfl rfl rfl (x_call (vs := #[(ptr p9 0), (.agg #[(int 1), (int 2)])]) rfl rfl (by kernel_rfl) ent_23) (Back_spec (s := z3) (1, 2)  (hst77.sats.take 1 rfl) hprof76 (hT.mono (Le.trans hle7 (Le.trans hle32 (Le.trans hle44 (Le.trans hle56 hle71))))) (z_n (by kernel_rfl))) (fun v78 w79 R80 L81 hp82 hle83 hst84 => ?_)
 obtain ⟨c85, hv86, rfl, hp87⟩ := hp82
 rw [z3_back] at hv86 hp87
 subst hv86
 have hprof88 : Prof R80 p9 z4 c85 := hp87
 refine Lq (.bool false) rfl rfl rfl rfl ?_
 refine Lq (.bool false) rfl rfl rfl (by kernel_rfl) ?_
 refine L_nil ?_
 refine W_cond_false (by show Value.bool _ = _; exact congrArg Value.bool rfl) ?_
 refine W_skip ?_
 refine W_region_lit ?_
 refine Lq (int 2) rfl rfl rfl (by kernel_rfl) ?_
 refine Lq (int 2) rfl rfl rfl rfl ?_
 refine L_nil ?_
 show W _ _ _ _ _ _ _
 refine W_seq ?_
 refine W_region_lit ?_
 refine Lq (.bool true) rfl rfl rfl (by kernel_rfl) ?_
 refine L_nil ?_
 refine W_seq ?_
 refine W_cond_true (by show Value.bool _ = _; exact congrArg Value.bool rfl) ?_
 refine W_skip ?_
 refine W_seq ?_
 refine W_block ?_
 refine W_seq ?_
 refine W_region_lit ?_
 refine Lq (ptr b62 2) rfl rfl rfl (x_indexAddr' (k := 2) (len := 4) rfl sl_71 ti_4 rfl rfl (by decide)) ?_
 refine Lq (.bool false) rfl rfl rfl (x_load rfl rfl (run_loadVar_one ti_4 (hst84.b 1) rfl)) ?_
 refine Lq (.bool false) rfl rfl rfl rfl ?_
 refine L_nil ?_
 refine W_seq ?_
 refine W_region_lit ?_
 refine Lq (ptr p9 0) rfl rfl rfl (x_load rfl rfl (run_loadVar_one ti_26 (hst84.b 4) rfl)) ?_
 refine Lq (.agg #[(int 1), (int 2)]) rfl rfl rfl (x_load rfl rfl (run_loadVar_agg ti_43 (hst84.b 3) (l := [(int 1), (int 2)]) rfl rfl)) ?_
 have hst89 := hst84
 refine L_callS [c85] [one b62 (.cells #[(.bool false), (.bool false), (.bool false), (.bool true)] 4 (0, 0)), one b23 (.cells #[(.bool false), (.bool true)] 4 (0, 0)), one b18 (.cells #[(int 1), (int 2)] 43 (0, 0)), one b13 (.cells #[(ptr p9 0)] 26 (0, 0))] hst89 rfl rfl rfl (x_call (vs := #[(ptr p9 0), (.agg #[(int 1), (int 2)])]) rfl rfl (by kernel_rfl) ent_23) (Back_spec (s := z4) (1, 2)  (hst89.sats.take 1 rfl) hprof88 (hT.mono (Le.trans hle7 (Le.trans hle32 (Le.trans hle44 (Le.trans hle56 (Le.trans hle71 hle83)))))) (z_n (by kernel_rfl))) (fun v90 w91 R92 L93 hp94 hle95 hst96 => ?_)
 obtain ⟨c97, hv98, rfl, hp99⟩ := hp94
 rw [z4_back] at hv98 hp99
 subst hv98
 have hprof100 : Prof R92 p9 z5 c97 := hp99
 refine Lq (.bool false) rfl rfl rfl rfl ?_
 refine Lq (.bool false) rfl rfl rfl (by kernel_rfl) ?_
 refine L_nil ?_
 refine W_cond_false (by show Value.bool _ = _; exact congrArg Value.bool rfl) ?_
 refine W_skip ?_
 refine W_region_lit ?_
 refine Lq (int 3) rfl rfl rfl (by kernel_rfl) ?_
 refine Lq (int 3) rfl rfl rfl rfl ?_
 refine L_nil ?_
 show W _ _ _ _ _ _ _
 refine W_seq ?_
 refine W_region_lit ?_
 refine Lq (.bool true) rfl rfl rfl (by kernel_rfl) ?_
 refine L_nil ?_
 refine W_seq ?_
 refine W_cond_true (by show Value.bool _ = _; exact congrArg Value.bool rfl) ?_
 refine W_skip ?_
 refine W_seq ?_
 refine W_block ?_
 refine W_seq ?_
 refine W_region_lit ?_
 refine Lq (ptr b62 3) rfl rfl rfl (x_indexAddr' (k := 3) (len := 4) rfl sl_71 ti_4 rfl rfl (by decide)) ?_
 refine Lq (.bool true) rfl rfl rfl (x_load rfl rfl (run_loadVar_one ti_4 (hst96.b 1) rfl)) ?_
 refine Lq (.bool true) rfl rfl rfl rfl ?_
 refine L_nil ?_
 refine W_seq ?_
 refine W_region_lit ?_
 refine Lq (ptr p9 0) rfl rfl rfl (x_load rfl rfl (run_loadVar_one ti_26 (hst96.b 4) rfl)) ?_
 refine Lq (.agg #[(int 1), (int 2)]) rfl rfl rfl (x_load rfl rfl (run_loadVar_agg ti_43 (hst96.b 3) (l := [(int 1), (int 2)]) rfl rfl)) ?_
 have hst101 := hst96
 refine L_callS [c97] [one b62 (.cells #[(.bool false), (.bool false), (.bool false), (.bool true)] 4 (0, 0)), one b23 (.cells #[(.bool false), (.bool true)] 4 (0, 0)), one b18 (.cells #[(int 1), (int 2)] 43 (0, 0)), one b13 (.cells #[(ptr p9 0)] 26 (0, 0))] hst101 rfl rfl rfl (x_call (vs := #[(ptr p9 0), (.agg #[(int 1), (int 2)])]) rfl rfl (by kernel_rfl) ent_23) (Back_spec (s := z5) (1, 2)  (hst101.sats.take 1 rfl) hprof100 (hT.mono (Le.trans hle7 (Le.trans hle32 (Le.trans hle44 (Le.trans hle56 (Le.trans hle71 (Le.trans hle83 hle95))))))) (z_n (by kernel_rfl))) (fun v102 w103 R104 L105 hp106 hle107 hst108 => ?_)
 obtain ⟨c109, hv110, rfl, hp111⟩ := hp106
 rw [z5_back] at hv110 hp111
 subst hv110
 have hprof112 : Prof R104 p9 z6 c109 := hp111
 refine Lq (.bool true) rfl rfl rfl rfl ?_
 refine Lq (.bool false) rfl rfl rfl (by kernel_rfl) ?_
 refine L_nil ?_
 refine W_cond_false (by show Value.bool _ = _; exact congrArg Value.bool rfl) ?_
 refine W_skip ?_
 refine W_region_lit ?_
 refine Lq (int 4) rfl rfl rfl (by kernel_rfl) ?_
 refine Lq (int 4) rfl rfl rfl rfl ?_
 refine L_nil ?_
 show W _ _ _ _ _ _ _
 refine W_seq ?_
 refine W_region_lit ?_
 refine Lq (.bool false) rfl rfl rfl (by kernel_rfl) ?_
 refine L_nil ?_
 refine W_seq ?_
 refine W_cond_false (by show Value.bool _ = _; exact congrArg Value.bool rfl) ?_
 refine W_exit ?_
 refine W_seq ?_
 refine W_region_lit ?_
 refine Lq (.bool true) rfl rfl rfl rfl ?_
 refine L_nil ?_
 refine W_ret ?_
 refine ⟨_, _, res_run (rs := [.tmp 4]) (vs := [(.bool true)]) Tryd.results27 (.cons (.tmp rfl) .nil) rfl, ?_⟩
 refine ⟨_, rfl, ?_⟩
 refine L_guard rfl rfl rfl rfl rfl ?_
 refine Lq (.bool false) rfl rfl rfl rfl ?_
 refine Lq (.bool false) rfl rfl rfl rfl ?_
 refine Lq (.bool false) rfl rfl rfl rfl ?_
 refine L_guard rfl rfl rfl rfl rfl ?_
 refine Lq (ptr p9 0) rfl rfl rfl (x_load rfl rfl (run_loadVar_one ti_26 (hst108.b 4) rfl)) ?_
 refine L_guard rfl rfl rfl rfl rfl ?_
 refine Lq (.agg #[(int 1), (int 2)]) rfl rfl rfl (x_load rfl rfl (run_loadVar_agg ti_43 (hst108.b 3) (l := [(int 1), (int 2)]) rfl rfl)) ?_
 refine L_guard rfl rfl rfl rfl rfl ?_
 have hst113 := hst108
 refine L_callS [c109] [one b62 (.cells #[(.bool false), (.bool false), (.bool false), (.bool true)] 4 (0, 0)), one b23 (.cells #[(.bool false), (.bool true)] 4 (0, 0)), one b18 (.cells #[(int 1), (int 2)] 43 (0, 0)), one b13 (.cells #[(ptr p9 0)] 26 (0, 0))] hst113 rfl rfl rfl (x_call (vs := #[(ptr p9 0), (.agg #[(int 1), (int 2)])]) rfl rfl (by kernel_rfl) ent_18) (Tier_spec (s := z6) (1, 2)  (hst113.sats.take 1 rfl) hprof112 (hT.mono (Le.trans hle7 (Le.trans hle32 (Le.trans hle44 (Le.trans hle56 (Le.trans hle71 (Le.trans hle83 (Le.trans hle95 hle107)))))))) (z_n (by kernel_rfl))) (fun v114 w115 R116 L117 hp118 hle119 hst120 => ?_)
 obtain ⟨c121, hv122, rfl, hp123⟩ := hp118
 rw [z6_tier] at hv122
 subst hv122
 have hprof124 : Prof R116 p9 z6 c121 := hp123
 refine L_guard rfl rfl rfl rfl rfl ?_
 refine Lq (.bool false) rfl rfl rfl (by kernel_rfl) ?_
 refine Lq (.bool false) rfl rfl rfl rfl ?_
 refine Lq (.bool false) rfl rfl rfl rfl ?_
 refine L_guard rfl rfl rfl rfl rfl ?_
 refine Lq (ptr p9 0) rfl rfl rfl (x_load rfl rfl (run_loadVar_one ti_26 (hst120.b 4) rfl)) ?_
 refine L_guard rfl rfl rfl rfl rfl ?_
 refine Lq (.agg #[(int 1), (int 2)]) rfl rfl rfl (x_load rfl rfl (run_loadVar_agg ti_43 (hst120.b 3) (l := [(int 1), (int 2)]) rfl rfl)) ?_
 refine L_guard rfl rfl rfl rfl rfl ?_
 have hst125 := hst120
 refine L_callS [c121] [one b62 (.cells #[(.bool false), (.bool false), (.bool false), (.bool true)] 4 (0, 0)), one b23 (.cells #[(.bool false), (.bool true)] 4 (0, 0)), one b18 (.cells #[(int 1), (int 2)] 43 (0, 0)), one b13 (.cells #[(ptr p9 0)] 26 (0, 0))] hst125 rfl rfl rfl (x_call (vs := #[(ptr p9 0), (.agg #[(int 1), (int 2)]), (int 5)]) rfl rfl (by kernel_rfl) ent_24) (Left_spec (s := z6) (1, 2) 5 (by constructor <;> first | decide | omega) (hst125.sats.take 1 rfl) hprof124 (hT.mono (Le.trans hle7 (Le.trans hle32 (Le.trans hle44 (Le.trans hle56 (Le.trans hle71 (Le.trans hle83 (Le.trans hle95 (Le.trans hle107 hle119))))))))) (z_n (by kernel_rfl))) (fun v126 w127 R128 L129 hp130 hle131 hst132 => ?_)
 obtain ⟨c133, hv134, rfl, hp135⟩ := hp130
 rw [z6_left] at hv134 hp135
 subst hv134
 have hprof136 : Prof R128 p9 z7 c133 := hp135
 refine Lq (.bool false) rfl rfl rfl rfl ?_
 refine Lq (.bool false) rfl rfl rfl rfl ?_
 refine L_guard rfl rfl rfl rfl rfl ?_
 refine Lq (ptr p9 0) rfl rfl rfl (x_load rfl rfl (run_loadVar_one ti_26 (hst132.b 4) rfl)) ?_
 refine L_guard rfl rfl rfl rfl rfl ?_
 refine Lq (.agg #[(int 1), (int 2)]) rfl rfl rfl (x_load rfl rfl (run_loadVar_agg ti_43 (hst132.b 3) (l := [(int 1), (int 2)]) rfl rfl)) ?_
 refine L_guard rfl rfl rfl rfl rfl ?_
 have hst137 := hst132
 refine L_callS [c133] [one b62 (.cells #[(.bool false), (.bool false), (.bool false), (.bool true)] 4 (0, 0)), one b23 (.cells #[(.bool false), (.bool true)] 4 (0, 0)), one b18 (.cells #[(int 1), (int 2)] 43 (0, 0)), one b13 (.cells #[(ptr p9 0)] 26 (0, 0))] hst137 rfl rfl rfl (x_call (vs := #[(ptr p9 0), (.agg #[(int 1), (int 2)]), (int 5)]) rfl rfl (by kernel_rfl) ent_24) (Left_spec (s := z7) (1, 2) 5 (by constructor <;> first | decide | omega) (hst137.sats.take 1 rfl) hprof136 (hT.mono (Le.trans hle7 (Le.trans hle32 (Le.trans hle44 (Le.trans hle56 (Le.trans hle71 (Le.trans hle83 (Le.trans hle95 (Le.trans hle107 (Le.trans hle119 hle131)))))))))) (z_n (by kernel_rfl))) (fun v138 w139 R140 L141 hp142 hle143 hst144 => ?_)
 obtain ⟨c145, hv146, rfl, hp147⟩ := hp142
 rw [z7_left] at hv146 hp147
 subst hv146
 have hprof148 : Prof R140 p9 z8 c145 := hp147
 refine L_guard rfl rfl rfl rfl rfl ?_
 refine Lq (.bool false) rfl rfl rfl rfl ?_
 refine Lq (.bool false) rfl rfl rfl rfl ?_
 refine Lq (.bool false) rfl rfl rfl rfl ?_
 refine L_guard rfl rfl rfl rfl rfl ?_
 refine Lq (ptr p9 0) rfl rfl rfl (x_load rfl rfl (run_loadVar_one ti_26 (hst144.b 4) rfl)) ?_
 refine L_guard rfl rfl rfl rfl rfl ?_
 refine Lq (.agg #[(int 1), (int 2)]) rfl rfl rfl (x_load rfl rfl (run_loadVar_agg ti_43 (hst144.b 3) (l := [(int 1), (int 2)]) rfl rfl)) ?_
 refine L_guard rfl rfl rfl rfl rfl ?_
 have hst149 := hst144
 refine L_callS [c145] [one b62 (.cells #[(.bool false), (.bool false), (.bool false), (.bool true)] 4 (0, 0)), one b23 (.cells #[(.bool false), (.bool true)] 4 (0, 0)), one b18 (.cells #[(int 1), (int 2)] 43 (0, 0)), one b13 (.cells #[(ptr p9 0)] 26 (0, 0))] hst149 rfl rfl rfl (x_call (vs := #[(ptr p9 0), (.agg #[(int 1), (int 2)])]) rfl rfl (by kernel_rfl) ent_18) (Tier_spec (s := z8) (1, 2)  (hst149.sats.take 1 rfl) hprof148 (hT.mono (Le.trans hle7 (Le.trans hle32 (Le.trans hle44 (Le.trans hle56 (Le.trans hle71 (Le.trans hle83 (Le.trans hle95 (Le.trans hle107 (Le.trans hle119 (Le.trans hle131 hle143))))))))))) (z_n (by kernel_rfl))) (fun v150 w151 R152 L153 hp154 hle155 hst156 => ?_)
 obtain ⟨c157, hv158, rfl, hp159⟩ := hp154
 rw [z8_tier] at hv158
 subst hv158
 have hprof160 : Prof R152 p9 z8 c157 := hp159
 refine L_guard rfl rfl rfl rfl rfl ?_
 refine Lq (.bool false) rfl rfl rfl (by kernel_rfl) ?_
 refine Lq (.bool false) rfl rfl rfl rfl ?_
 refine L_nil ?_
 refine W_cond_false (by show Value.bool _ = _; exact congrArg Value.bool rfl) ?_
 refine W_skip ?_
 refine W_seq ?_
 refine W_region_lit ?_
 refine Lq (ptr p9 0) rfl rfl rfl (x_load rfl rfl (run_loadVar_one ti_26 (hst156.b 4) rfl)) ?_
 refine Lq (.agg #[(int 1), (int 2)]) rfl rfl rfl (x_load rfl rfl (run_loadVar_agg ti_43 (hst156.b 3) (l := [(int 1), (int 2)]) rfl rfl)) ?_
 have hst161 := hst156
 refine L_callS [c157] [one b62 (.cells #[(.bool false), (.bool false), (.bool false), (.bool true)] 4 (0, 0)), one b23 (.cells #[(.bool false), (.bool true)] 4 (0, 0)), one b18 (.cells #[(int 1), (int 2)] 43 (0, 0)), one b13 (.cells #[(ptr p9 0)] 26 (0, 0))] hst161 rfl rfl rfl (x_call (vs := #[(ptr p9 0), (.agg #[(int 1), (int 2)]), (int 30)]) rfl rfl (by kernel_rfl) ent_26) (Failed_spec (s := z8) (1, 2) 30 (by constructor <;> first | decide | omega) (hst161.sats.take 1 rfl) hprof160 (hT.mono (Le.trans hle7 (Le.trans hle32 (Le.trans hle44 (Le.trans hle56 (Le.trans hle71 (Le.trans hle83 (Le.trans hle95 (Le.trans hle107 (Le.trans hle119 (Le.trans hle131 (Le.trans hle143 hle155)))))))))))) (z_n (by kernel_rfl))) (fun v162 w163 R164 L165 hp166 hle167 hst168 => ?_)
 obtain ⟨c169, hv170, rfl, hp171⟩ := hp166
 subst hv170
 have hprof172 : Prof R164 p9 z9 c169 := hp171
 refine L_nil ?_
 refine W_seq ?_
 refine W_region_lit ?_
 refine Lq (ptr p9 0) rfl rfl rfl (x_load rfl rfl (run_loadVar_one ti_26 (hst168.b 4) rfl)) ?_
 refine Lq (.agg #[(int 1), (int 2)]) rfl rfl rfl (x_load rfl rfl (run_loadVar_agg ti_43 (hst168.b 3) (l := [(int 1), (int 2)]) rfl rfl)) ?_
 have hst173 := hst168
 refine L_callS [c169] [one b62 (.cells #[(.bool false), (.bool false), (.bool false), (.bool true)] 4 (0, 0)), one b23 (.cells #[(.bool false), (.bool true)] 4 (0, 0)), one b18 (.cells #[(int 1), (int 2)] 43 (0, 0)), one b13 (.cells #[(ptr p9 0)] 26 (0, 0))] hst173 rfl rfl rfl (x_call (vs := #[(ptr p9 0), (.agg #[(int 1), (int 2)])]) rfl rfl (by kernel_rfl) ent_18) (Tier_spec (s := z9) (1, 2)  (hst173.sats.take 1 rfl) hprof172 (hT.mono (Le.trans hle7 (Le.trans hle32 (Le.trans hle44 (Le.trans hle56 (Le.trans hle71 (Le.trans hle83 (Le.trans hle95 (Le.trans hle107 (Le.trans hle119 (Le.trans hle131 (Le.trans hle143 (Le.trans hle155 hle167))))))))))))) (z_n (by kernel_rfl))) (fun v174 w175 R176 L177 hp178 hle179 hst180 => ?_)
 obtain ⟨c181, hv182, rfl, hp183⟩ := hp178
 rw [z9_tier] at hv182
 subst hv182
 have hprof184 : Prof R176 p9 z9 c181 := hp183
 refine Lq (int 0) rfl rfl rfl rfl ?_
 refine L_nil ?_
 refine W_seq ?_
 refine W_region_lit ?_
 refine Lq (.func (.func 27) #[] #[(ptr b13 0), (ptr b18 0)]) rfl rfl rfl rfl ?_
 refine L_new hst180 (v := fun b => .slice (some ⟨b, 0, none⟩) 2 2) (ob := .cells #[(.bool false), (.bool true)] 4 (0, 0)) rfl rfl rfl (by kernel_rfl) (fun b185 w186 hst187 => ?_)
 refine L_call rfl rfl rfl (x_callv (vs := #[(.slice (some ⟨b185, 0, none⟩) 2 2), (ptr b13 0), (ptr b18 0)]) rfl rfl (by kernel_rfl) ent_27) ?_ (fun _ _ h => h)
 refine calls_of_W (n := 19) Tryd.func27 rfl Tryd.ntmps27 (Nat.le_of_ble_eq_true rfl) ?_
 refine W_seq ?_
 refine W_region_lit ?_
 refine Lq (.bool false) rfl rfl rfl rfl ?_
 refine L_nil ?_
 refine W_seq ?_
 refine W_seq ?_
 refine W_region_lit ?_
 refine Lq (.slice (some ⟨b185, 0, none⟩) 2 2) rfl rfl rfl rfl ?_
 refine Lq (int 2) rfl rfl rfl (x_len_slice rfl sl_71 rfl) ?_
 refine Lq (int 0) rfl rfl rfl rfl ?_
 refine L_nil ?_
 refine W_block ?_
 refine W_loop_unr 5 ?_
 show W _ _ _ _ _ _ _
 refine W_seq ?_
 refine W_region_lit ?_
 refine Lq (.bool true) rfl rfl rfl (by kernel_rfl) ?_
 refine L_nil ?_
 refine W_seq ?_
 refine W_cond_true (by show Value.bool _ = _; exact congrArg Value.bool rfl) ?_
 refine W_skip ?_
 refine W_seq ?_
 refine W_block ?_
 refine W_seq ?_
 refine W_region_lit ?_
 refine Lq (ptr b185 0) rfl rfl rfl (x_indexAddr' (k := 0) (len := 2) rfl sl_71 ti_4 rfl rfl (by decide)) ?_
 refine Lq (.bool false) rfl rfl rfl (x_load rfl rfl (run_loadVar_one ti_4 (hst187.b 0) rfl)) ?_
 refine Lq (.bool false) rfl rfl rfl rfl ?_
 refine L_nil ?_
 refine W_seq ?_
 refine W_region_lit ?_
 refine Lq (ptr p9 0) rfl rfl rfl (x_load rfl rfl (run_loadVar_one ti_26 (hst187.b 5) rfl)) ?_
 refine Lq (.agg #[(int 1), (int 2)]) rfl rfl rfl (x_load rfl rfl (run_loadVar_agg ti_43 (hst187.b 4) (l := [(int 1), (int 2)]) rfl rfl)) ?_
 have hst188 := (hst187.front 1 rfl rfl)
 refine L_callS [c181] [one b185 (.cells #[(.bool false), (.bool true)] 4 (0, 0)), one b62 (.cells #[(.bool false), (.bool false), (.bool false), (.bool true)] 4 (0, 0)), one b23 (.cells #[(.bool false), (.bool true)] 4 (0, 0)), one b18 (.cells #[(int 1), (int 2)] 43 (0, 0)), one b13 (.cells #[(ptr p9 0)] 26 (0, 0))] hst188 rfl rfl rfl (x_call (vs := #[(ptr p9 0), (.agg #[(int 1), (int 2)])]) rfl rfl (by kernel_rfl) ent_23) (Back_spec (s := z9) (1, 2)  (hst188.sats.take 1 rfl) hprof184 (hT.mono (Le.trans hle7 (Le.trans hle32 (Le.trans hle44 (Le.trans hle56 (Le.trans hle71 (Le.trans hle83 (Le.trans hle95 (Le.trans hle107 (Le.trans hle119 (Le.trans hle131 (Le.trans hle143 (Le.trans hle155 (Le.trans hle167 hle179)))))))))))))) (z_n (by kernel_rfl))) (fun v189 w190 R191 L192 hp193 hle194 hst195 => ?_)
 obtain ⟨c196, hv197, rfl, hp198⟩ := hp193
 rw [z9_back] at hv197 hp198
 subst hv197
 have hprof199 : Prof R191 p9 z10 c196 := hp198
 refine Lq (.bool false) rfl rfl rfl rfl ?_
 refine Lq (.bool false) rfl rfl rfl (by kernel_rfl) ?_
 refine L_nil ?_
 refine W_cond_false (by show Value.bool _ = _; exact congrArg Value.bool rfl) ?_
 refine W_skip ?_
 refine W_region_lit ?_
 refine Lq (int 1) rfl rfl rfl (by kernel_rfl) ?_
 refine Lq (int 1) rfl rfl rfl rfl ?_
 refine L_nil ?_
 show W _ _ _ _ _ _ _
 refine W_seq ?_
 refine W_region_lit ?_
 refine Lq (.bool true) rfl rfl rfl (by kernel_rfl) ?_
 refine L_nil ?_
 refine W_seq ?_
 refine W_cond_true (by show Value.bool _ = _; exact congrArg Value.bool rfl) ?_
 refine W_skip ?_
 refine W_seq ?_
 refine W_block ?_
 refine W_seq ?_
 refine W_region_lit ?_
 refine Lq (ptr b185 1) rfl rfl rfl (x_indexAddr' (k := 1) (len := 2) rfl sl_71 ti_4 rfl rfl (by decide)) ?_
 refine Lq (.bool true) rfl rfl rfl (x_load rfl rfl (run_loadVar_one ti_4 (hst195.b 1) rfl)) ?_
 refine Lq (.bool true) rfl rfl rfl rfl ?_
 refine L_nil ?_
 refine W_seq ?_
 refine W_region_lit ?_
 refine Lq (ptr p9 0) rfl rfl rfl (x_load rfl rfl (run_loadVar_one ti_26 (hst195.b 5) rfl)) ?_
 refine Lq (.agg #[(int 1), (int 2)]) rfl rfl rfl (x_load rfl rfl (run_loadVar_agg ti_43 (hst195.b 4) (l := [(int 1), (int 2)]) rfl rfl)) ?_
 have hst200 := hst195
 refine L_callS [c196] [one b185 (.cells #[(.bool false), (.bool true)] 4 (0, 0)), one b62 (.cells #[(.bool false), (.bool false), (.bool false), (.bool true)] 4 (0, 0)), one b23 (.cells #[(.bool false), (.bool true)] 4 (0, 0)), one b18 (.cells #[(int 1), (int 2)] 43 (0, 0)), one b13 (.cells #[(ptr p9 0)] 26 (0, 0))] hst200 rfl rfl rfl (x_call (vs := #[(ptr p9 0), (.agg #[(int 1), (int 2)])]) rfl rfl (by kernel_rfl) ent_23) (Back_spec (s := z10) (1, 2)  (hst200.sats.take 1 rfl) hprof199 (hT.mono (Le.trans hle7 (Le.trans hle32 (Le.trans hle44 (Le.trans hle56 (Le.trans hle71 (Le.trans hle83 (Le.trans hle95 (Le.trans hle107 (Le.trans hle119 (Le.trans hle131 (Le.trans hle143 (Le.trans hle155 (Le.trans hle167 (Le.trans hle179 hle194))))))))))))))) (z_n (by kernel_rfl))) (fun v201 w202 R203 L204 hp205 hle206 hst207 => ?_)
 obtain ⟨c208, hv209, rfl, hp210⟩ := hp205
 rw [z10_back] at hv209 hp210
 subst hv209
 have hprof211 : Prof R203 p9 z11 c208 := hp210
 refine Lq (.bool true) rfl rfl rfl rfl ?_
 refine Lq (.bool false) rfl rfl rfl (by kernel_rfl) ?_
 refine L_nil ?_
 refine W_cond_false (by show Value.bool _ = _; exact congrArg Value.bool rfl) ?_
 refine W_skip ?_
 refine W_region_lit ?_
 refine Lq (int 2) rfl rfl rfl (by kernel_rfl) ?_
 refine Lq (int 2) rfl rfl rfl rfl ?_
 refine L_nil ?_
 show W _ _ _ _ _ _ _
 refine W_seq ?_
 refine W_region_lit ?_
 refine Lq (.bool false) rfl rfl rfl (by kernel_rfl) ?_
 refine L_nil ?_
 refine W_seq ?_
 refine W_cond_false (by show Value.bool _ = _; exact congrArg Value.bool rfl) ?_
 refine W_exit ?_
 refine W_seq ?_
 refine W_region_lit ?_
 refine Lq (.bool true) rfl rfl rfl rfl ?_
 refine L_nil ?_
 refine W_ret ?_
 refine ⟨_, _, res_run (rs := [.tmp 4]) (vs := [(.bool true)]) Tryd.results27 (.cons (.tmp rfl) .nil) rfl, ?_⟩
 refine ⟨_, rfl, ?_⟩
 refine Lq (.bool true) rfl rfl rfl rfl ?_
 refine L_nil ?_
 refine W_seq ?_
 refine W_region_lit ?_
 refine Lq (ptr p9 0) rfl rfl rfl (x_load rfl rfl (run_loadVar_one ti_26 (hst207.b 5) rfl)) ?_
 refine Lq (.agg #[(int 1), (int 2)]) rfl rfl rfl (x_load rfl rfl (run_loadVar_agg ti_43 (hst207.b 4) (l := [(int 1), (int 2)]) rfl rfl)) ?_
 have hst212 := hst207
 refine L_callS [c208] [one b185 (.cells #[(.bool false), (.bool true)] 4 (0, 0)), one b62 (.cells #[(.bool false), (.bool false), (.bool false), (.bool true)] 4 (0, 0)), one b23 (.cells #[(.bool false), (.bool true)] 4 (0, 0)), one b18 (.cells #[(int 1), (int 2)] 43 (0, 0)), one b13 (.cells #[(ptr p9 0)] 26 (0, 0))] hst212 rfl rfl rfl (x_call (vs := #[(ptr p9 0), (.agg #[(int 1), (int 2)]), (int 30)]) rfl rfl (by kernel_rfl) ent_26) (Failed_spec (s := z11) (1, 2) 30 (by constructor <;> first | decide | omega) (hst212.sats.take 1 rfl) hprof211 (hT.mono (Le.trans hle7 (Le.trans hle32 (Le.trans hle44 (Le.trans hle56 (Le.trans hle71 (Le.trans hle83 (Le.trans hle95 (Le.trans hle107 (Le.trans hle119 (Le.trans hle131 (Le.trans hle143 (Le.trans hle155 (Le.trans hle167 (Le.trans hle179 (Le.trans hle194 hle206)))))))))))))))) (z_n (by kernel_rfl))) (fun v213 w214 R215 L216 hp217 hle218 hst219 => ?_)
 obtain ⟨c220, hv221, rfl, hp222⟩ := hp217
 subst hv221
 have hprof223 : Prof R215 p9 z12 c220 := hp222
 refine L_nil ?_
 refine W_seq ?_
 refine W_region_lit ?_
 refine L_new hst219 (v := fun b => .slice (some ⟨b, 0, none⟩) 6 6) (ob := .cells #[(.string ⟨#[119, 97, 114, 109, 32, 49]⟩), (.string ⟨#[104, 111, 116, 32, 51]⟩), (.string ⟨#[101, 120, 105, 116, 32, 53, 32, 108, 101, 102, 116, 32, 50, 32, 116, 105, 109, 101, 115]⟩), (.string ⟨#[101, 114, 114, 111, 114, 32, 51, 48]⟩), (.string ⟨#[119, 97, 114, 109, 32, 49]⟩), (.string ⟨#[101, 114, 114, 111, 114, 32, 51, 48, 44, 32, 103, 105, 118, 101, 110, 32, 117, 112]⟩)] 9 (0, 0)) rfl rfl rfl (by kernel_rfl) (fun b224 w225 hst226 => ?_)
 refine Lq (.slice (some ⟨b224, 0, none⟩) 6 6) rfl rfl rfl rfl ?_
 refine L_nil ?_
 refine W_seq ?_
 refine W_region_lit ?_
 refine Lq (ptr p9 0) rfl rfl rfl (x_load rfl rfl (run_loadVar_one ti_26 (hst226.b 6) rfl)) ?_
 have hst227 := (hst226.front 1 rfl rfl)
 refine L_callS [c220] [one b224 (.cells #[(.string ⟨#[119, 97, 114, 109, 32, 49]⟩), (.string ⟨#[104, 111, 116, 32, 51]⟩), (.string ⟨#[101, 120, 105, 116, 32, 53, 32, 108, 101, 102, 116, 32, 50, 32, 116, 105, 109, 101, 115]⟩), (.string ⟨#[101, 114, 114, 111, 114, 32, 51, 48]⟩), (.string ⟨#[119, 97, 114, 109, 32, 49]⟩), (.string ⟨#[101, 114, 114, 111, 114, 32, 51, 48, 44, 32, 103, 105, 118, 101, 110, 32, 117, 112]⟩)] 9 (0, 0)), one b185 (.cells #[(.bool false), (.bool true)] 4 (0, 0)), one b62 (.cells #[(.bool false), (.bool false), (.bool false), (.bool true)] 4 (0, 0)), one b23 (.cells #[(.bool false), (.bool true)] 4 (0, 0)), one b18 (.cells #[(int 1), (int 2)] 43 (0, 0)), one b13 (.cells #[(ptr p9 0)] 26 (0, 0))] hst227 rfl rfl rfl (x_call (vs := #[(ptr p9 0)]) rfl rfl (by kernel_rfl) ent_17) (Decisions_spec (hst227.sats.take 1 rfl) hprof223 (z_n (by kernel_rfl))) (fun v228 w229 R230 L231 hp232 hle233 hst234 => ?_)
 obtain ⟨c235, c236, rfl, ho237, hp238⟩ := hp232
 rw [z12_decs] at ho237
 have hprof239 : Prof R230 p9 z12 c236 := hp238
 obtain ⟨R240, hst241, hle242, hc243⟩ := Step.frz hst234
 have hm244 := Prof.lift hprof239 hle242
 have hrd245 := OwnL.freeze ho237 hle242 hc243
 refine Lq v228 rfl rfl rfl rfl ?_
 refine L_nil ?_
 refine W_seq ?_
 refine W_seq ?_
 refine W_region_lit ?_
 refine Lq v228 rfl rfl rfl rfl ?_
 obtain ⟨a246, cap247, e248, hc249⟩ := hrd245.shape
 subst e248
 refine Lq (int (zD.length : Int)) rfl rfl rfl (x_len_slice rfl sl_36 rfl) ?_
 refine Lq (int 0) rfl rfl rfl rfl ?_
 refine L_nil ?_
 refine W_block ?_
 refine W_loop_unr 7 ?_
 show W _ _ _ _ _ _ _
 refine W_seq ?_
 refine W_region_lit ?_
 refine Lq (.bool (decide (0 < (zD.length : Int)))) rfl rfl rfl (by kernel_rfl) ?_
 refine L_nil ?_
 refine W_seq ?_
 have c250 : (decide (0 < (zD.length : Int))) = true := by rw [zD_len]; rfl
 have q251 := of_decide_eq_true c250
 refine W_cond_true (by show Value.bool _ = _; exact congrArg Value.bool c250) ?_
 refine W_skip ?_
 refine W_seq ?_
 refine W_block ?_
 refine W_seq ?_
 refine W_region_lit ?_
 refine Lq (int 0) rfl rfl rfl rfl ?_
 refine Lq (int 0) rfl rfl rfl rfl ?_
 refine L_nil ?_
 refine W_seq ?_
 refine W_region_draw [] (fun w => Le R240 (hp w) ∧ Le c236 (hp w) ∧ Le (one b224 (.cells #[(.string ⟨#[119, 97, 114, 109, 32, 49]⟩), (.string ⟨#[104, 111, 116, 32, 51]⟩), (.string ⟨#[101, 120, 105, 116, 32, 53, 32, 108, 101, 102, 116, 32, 50, 32, 116, 105, 109, 101, 115]⟩), (.string ⟨#[101, 114, 114, 111, 114, 32, 51, 48]⟩), (.string ⟨#[119, 97, 114, 109, 32, 49]⟩), (.string ⟨#[101, 114, 114, 111, 114, 32, 51, 48, 44, 32, 103, 105, 118, 101, 110, 32, 117, 112]⟩)] 9 (0, 0))) (hp w) ∧ Le (one b185 (.cells #[(.bool false), (.bool true)] 4 (0, 0))) (hp w) ∧ Le (one b62 (.cells #[(.bool false), (.bool false), (.bool false), (.bool true)] 4 (0, 0))) (hp w) ∧ Le (one b23 (.cells #[(.bool false), (.bool true)] 4 (0, 0))) (hp w) ∧ Le (one b18 (.cells #[(int 1), (int 2)] 43 (0, 0))) (hp w) ∧ Le (one b13 (.cells #[(ptr p9 0)] 26 (0, 0))) (hp w)) hmix (by decide +kernel) (fun _ _ h => h) ?_
 have hst253 := hst241.draws (w229.drawn + 1)
 generalize draws w229 (w229.drawn + 1) = w252 at hst253 ⊢
 refine LP (.slice a246 zD.length cap247) 0 rfl rfl rfl (fun u255 => rfl) hst253.a7 ?_
 refine LT (int (zD.length : Int)) 1 rfl rfl rfl (fun u258 hF259 => (x_len_slice rfl sl_36 rfl)) hst253.a7 ?_
 refine LP (.slice (some ⟨b224, 0, none⟩) 6 6) 2 rfl rfl rfl (fun u261 => rfl) hst253.a7 ?_
 refine LT (int 6) 3 rfl rfl rfl (fun u264 hF265 => (x_len_slice rfl sl_73 rfl)) hst253.a7 ?_
 refine LP (.bool ((zD.length : Int) != 6)) 4 rfl rfl rfl (fun u267 => (by kernel_rfl)) hst253.a7 ?_
 refine LP (.bool ((zD.length : Int) != 6)) 5 rfl rfl rfl (fun u270 => rfl) hst253.a7 ?_
 have c273 : ((zD.length : Int) != 6) = false := by rw [zD_len]; rfl
 have q274 : (zD.length : Int) = 6 := by simpa using c273
 refine LP (.slice a246 zD.length cap247) 6 rfl rfl rfl (fun u276 => rfl) hst253.a7 ?_ (hw := (Want.of rfl rfl rfl rfl (by rw [c273]; rfl)))
 refine LP (int 0) 7 rfl rfl rfl (fun u279 => rfl) hst253.a7 ?_ (hw := (Want.of rfl rfl rfl rfl (by rw [c273]; rfl)))
 obtain ⟨b284, off285, cap286, cs287, T288, fz289, e290, hc291, hb292, he293⟩ := hrd245.open (by omega)
 cases e290
 obtain ⟨cl294, hs295, hr296⟩ := he293.at 0 (by omega)
 obtain rfl := tyDec_open hr296
 refine LP (ptr b284 (off285 + 0 * 4)) 8 rfl rfl rfl (fun u282 => (x_indexAddr' rfl sl_36 ti_49 rfl rfl (by omega))) hst253.a7 ?_ (hw := (Want.of rfl rfl rfl rfl (by rw [c273]; rfl)))
 refine LP (ptr b284 (off285 + 0 * 4 + 3)) 9 rfl rfl rfl (fun u298 => (by kernel_rfl)) hst253.a7 ?_ (hw := (Want.of rfl rfl rfl rfl (by rw [c273]; rfl)))
 refine LT (.string ⟨#[119, 97, 114, 109, 32, 49]⟩) 10 rfl rfl rfl (fun u301 hF302 => (x_load rfl rfl (run_loadVar_one ti_9 (hF302.1 _ _ hb292) (seg_get (j := 3) hs295 rfl)))) hst253.a7 ?_ (hw := (Want.of rfl rfl rfl rfl (by rw [c273]; rfl)))
 refine LP (.slice (some ⟨b224, 0, none⟩) 6 6) 11 rfl rfl rfl (fun u304 => rfl) hst253.a7 ?_ (hw := (Want.of rfl rfl rfl rfl (by rw [c273]; rfl)))
 refine LP (int 0) 12 rfl rfl rfl (fun u307 => rfl) hst253.a7 ?_ (hw := (Want.of rfl rfl rfl rfl (by rw [c273]; rfl)))
 refine LP (ptr b224 0) 13 rfl rfl rfl (fun u310 => (x_indexAddr' (k := 0) (len := 6) rfl sl_73 ti_9 rfl rfl (by decide))) hst253.a7 ?_ (hw := (Want.of rfl rfl rfl rfl (by rw [c273]; rfl)))
 refine LT (.string ⟨#[119, 97, 114, 109, 32, 49]⟩) 14 rfl rfl rfl (fun u313 hF314 => (x_load rfl rfl (run_loadVar_one ti_9 (hF314.2.2.1 _ _ (one_self _ _)) rfl))) hst253.a7 ?_ (hw := (Want.of rfl rfl rfl rfl (by rw [c273]; rfl)))
 refine LP (.bool false) 15 rfl rfl rfl (fun u316 => (by kernel_rfl)) hst253.a7 ?_ (hw := (Want.of rfl rfl rfl rfl (by rw [c273]; rfl)))
 refine LP (.bool false) 16 rfl rfl rfl (fun u319 => (x_pick rfl rfl (by rw [c273]; rfl))) hst253.a7 ?_
 refine LP (.bool false) 17 rfl rfl rfl (fun u322 => rfl) hst253.a7 ?_
 refine LP (.slice (some ⟨b284, off285, none⟩) zD.length cap247) 18 rfl rfl rfl (fun u325 => rfl) hst253.a7 ?_ (hw := (Want.of rfl rfl rfl rfl rfl))
 refine LP (int 0) 19 rfl rfl rfl (fun u328 => rfl) hst253.a7 ?_ (hw := (Want.of rfl rfl rfl rfl rfl))
 obtain ⟨cl333, hs334, hr335⟩ := he293.at 0 (by omega)
 obtain rfl := tyDec_open hr335
 refine LP (ptr b284 (off285 + 0 * 4)) 20 rfl rfl rfl (fun u331 => (x_indexAddr' rfl sl_36 ti_49 rfl rfl (by omega))) hst253.a7 ?_ (hw := (Want.of rfl rfl rfl rfl rfl))
 refine LP (ptr b284 (off285 + 0 * 4)) 21 rfl rfl rfl (fun u337 => (by kernel_rfl)) hst253.a7 ?_ (hw := (Want.of rfl rfl rfl rfl rfl))
 refine LT (.agg #[(int 1), (int 2)]) 22 rfl rfl rfl (fun u340 hF341 => (x_load rfl rfl (run_loadVar_agg ti_43 (hF341.1 _ _ hb292) (seg_part hs334 0 2 rfl rfl) rfl))) hst253.a7 ?_ (hw := (Want.of rfl rfl rfl rfl rfl))
 refine LT (.agg #[(int 1), (int 2)]) 23 rfl rfl rfl (fun u343 hF344 => (x_load rfl rfl (run_loadVar_agg ti_43 (hF344.2.2.2.2.2.2.1 _ _ (one_self _ _)) (l := [(int 1), (int 2)]) rfl rfl))) hst253.a7 ?_ (hw := (Want.of rfl rfl rfl rfl rfl))
 refine LP (.bool false) 24 rfl rfl rfl (fun u346 => (by kernel_rfl)) hst253.a7 ?_ (hw := (Want.of rfl rfl rfl rfl rfl))
 refine LP (.bool false) 25 rfl rfl rfl (fun u349 => rfl) hst253.a7 ?_
 refine LA_done (by decide +kernel) ?_
 refine W_cond_false (by show Value.bool _ = _; exact congrArg Value.bool rfl) ?_
 refine W_skip ?_
 refine W_region_lit ?_
 refine Lq (int 1) rfl rfl rfl (by kernel_rfl) ?_
 refine Lq (int 1) rfl rfl rfl rfl ?_
 refine L_nil ?_
 show W _ _ _ _ _ _ _
 refine W_seq ?_
 refine W_region_lit ?_
 refine Lq (.bool (decide (1 < (zD.length : Int)))) rfl rfl rfl (by kernel_rfl) ?_
 refine L_nil ?_
 refine W_seq ?_
 have c351 : (decide (1 < (zD.length : Int))) = true := by rw [zD_len]; rfl
 have q352 := of_decide_eq_true c351
 refine W_cond_true (by show Value.bool _ = _; exact congrArg Value.bool c351) ?_
 refine W_skip ?_
 refine W_seq ?_
 refine W_block ?_
 refine W_seq ?_
 refine W_region_lit ?_
 refine Lq (int 1) rfl rfl rfl rfl ?_
 refine Lq (int 1) rfl rfl rfl rfl ?_
 refine L_nil ?_
 refine W_seq ?_
 refine W_region_draw [] (fun w => Le R240 (hp w) ∧ Le c236 (hp w) ∧ Le (one b224 (.cells #[(.string ⟨#[119, 97, 114, 109, 32, 49]⟩), (.string ⟨#[104, 111, 116, 32, 51]⟩), (.string ⟨#[101, 120, 105, 116, 32, 53, 32, 108, 101, 102, 116, 32, 50, 32, 116, 105, 109, 101, 115]⟩), (.string ⟨#[101, 114, 114, 111, 114, 32, 51, 48]⟩), (.string ⟨#[119, 97, 114, 109, 32, 49]⟩), (.string ⟨#[101, 114, 114, 111, 114, 32, 51, 48, 44, 32, 103, 105, 118, 101, 110, 32, 117, 112]⟩)] 9 (0, 0))) (hp w) ∧ Le (one b185 (.cells #[(.bool false), (.bool true)] 4 (0, 0))) (hp w) ∧ Le (one b62 (.cells #[(.bool false), (.bool false), (.bool false), (.bool true)] 4 (0, 0))) (hp w) ∧ Le (one b23 (.cells #[(.bool false), (.bool true)] 4 (0, 0))) (hp w) ∧ Le (one b18 (.cells #[(int 1), (int 2)] 43 (0, 0))) (hp w) ∧ Le (one b13 (.cells #[(ptr p9 0)] 26 (0, 0))) (hp w)) hmix (by decide +kernel) (fun _ _ h => h) ?_
 have hst354 := hst253.draws (w252.drawn + 1)
 generalize draws w252 (w252.drawn + 1) = w353 at hst354 ⊢
 refine LP (.slice (some ⟨b284, off285, none⟩) zD.length cap247) 0 rfl rfl rfl (fun u356 => rfl) hst354.a7 ?_
 refine LT (int (zD.length : Int)) 1 rfl rfl rfl (fun u359 hF360 => (x_len_slice rfl sl_36 rfl)) hst354.a7 ?_
 refine LP (.slice (some ⟨b224, 0, none⟩) 6 6) 2 rfl rfl rfl (fun u362 => rfl) hst354.a7 ?_
 refine LT (int 6) 3 rfl rfl rfl (fun u365 hF366 => (x_len_slice rfl sl_73 rfl)) hst354.a7 ?_
 refine LP (.bool ((zD.length : Int) != 6)) 4 rfl rfl rfl (fun u368 => (by kernel_rfl)) hst354.a7 ?_
 refine LP (.bool ((zD.length : Int) != 6)) 5 rfl rfl rfl (fun u371 => rfl) hst354.a7 ?_
 refine LP (.slice (some ⟨b284, off285, none⟩) zD.length cap247) 6 rfl rfl rfl (fun u374 => rfl) hst354.a7 ?_ (hw := (Want.of rfl rfl rfl rfl (by rw [c273]; rfl)))
 refine LP (int 1) 7 rfl rfl rfl (fun u377 => rfl) hst354.a7 ?_ (hw := (Want.of rfl rfl rfl rfl (by rw [c273]; rfl)))
 obtain ⟨cl382, hs383, hr384⟩ := he293.at 1 (by omega)
 obtain rfl := tyDec_open hr384
 refine LP (ptr b284 (off285 + 1 * 4)) 8 rfl rfl rfl (fun u380 => (x_indexAddr' rfl sl_36 ti_49 rfl rfl (by omega))) hst354.a7 ?_ (hw := (Want.of rfl rfl rfl rfl (by rw [c273]; rfl)))
 refine LP (ptr b284 (off285 + 1 * 4 + 3)) 9 rfl rfl rfl (fun u386 => (by kernel_rfl)) hst354.a7 ?_ (hw := (Want.of rfl rfl rfl rfl (by rw [c273]; rfl)))
 refine LT (.string ⟨#[104, 111, 116, 32, 51]⟩) 10 rfl rfl rfl (fun u389 hF390 => (x_load rfl rfl (run_loadVar_one ti_9 (hF390.1 _ _ hb292) (seg_get (j := 3) hs383 rfl)))) hst354.a7 ?_ (hw := (Want.of rfl rfl rfl rfl (by rw [c273]; rfl)))
 refine LP (.slice (some ⟨b224, 0, none⟩) 6 6) 11 rfl rfl rfl (fun u392 => rfl) hst354.a7 ?_ (hw := (Want.of rfl rfl rfl rfl (by rw [c273]; rfl)))
 refine LP (int 1) 12 rfl rfl rfl (fun u395 => rfl) hst354.a7 ?_ (hw := (Want.of rfl rfl rfl rfl (by rw [c273]; rfl)))
 refine LP (ptr b224 1) 13 rfl rfl rfl (fun u398 => (x_indexAddr' (k := 1) (len := 6) rfl sl_73 ti_9 rfl rfl (by decide))) hst354.a7 ?_ (hw := (Want.of rfl rfl rfl rfl (by rw [c273]; rfl)))
 refine LT (.string ⟨#[104, 111, 116, 32, 51]⟩) 14 rfl rfl rfl (fun u401 hF402 => (x_load rfl rfl (run_loadVar_one ti_9 (hF402.2.2.1 _ _ (one_self _ _)) rfl))) hst354.a7 ?_ (hw := (Want.of rfl rfl rfl rfl (by rw [c273]; rfl)))
 refine LP (.bool false) 15 rfl rfl rfl (fun u404 => (by kernel_rfl)) hst354.a7 ?_ (hw := (Want.of rfl rfl rfl rfl (by rw [c273]; rfl)))
 refine LP (.bool false) 16 rfl rfl rfl (fun u407 => (x_pick rfl rfl (by rw [c273]; rfl))) hst354.a7 ?_
 refine LP (.bool false) 17 rfl rfl rfl (fun u410 => rfl) hst354.a7 ?_
 refine LP (.slice (some ⟨b284, off285, none⟩) zD.length cap247) 18 rfl rfl rfl (fun u413 => rfl) hst354.a7 ?_ (hw := (Want.of rfl rfl rfl rfl rfl))
 refine LP (int 1) 19 rfl rfl rfl (fun u416 => rfl) hst354.a7 ?_ (hw := (Want.of rfl rfl rfl rfl rfl))
 obtain ⟨cl421, hs422, hr423⟩ := he293.at 1 (by omega)
 obtain rfl := tyDec_open hr423
 refine LP (ptr b284 (off285 + 1 * 4)) 20 rfl rfl rfl (fun u419 => (x_indexAddr' rfl sl_36 ti_49 rfl rfl (by omega))) hst354.a7 ?_ (hw := (Want.of rfl rfl rfl rfl rfl))
 refine LP (ptr b284 (off285 + 1 * 4)) 21 rfl rfl rfl (fun u425 => (by kernel_rfl)) hst354.a7 ?_ (hw := (Want.of rfl rfl rfl rfl rfl))
 refine LT (.agg #[(int 1), (int 2)]) 22 rfl rfl rfl (fun u428 hF429 => (x_load rfl rfl (run_loadVar_agg ti_43 (hF429.1 _ _ hb292) (seg_part hs422 0 2 rfl rfl) rfl))) hst354.a7 ?_ (hw := (Want.of rfl rfl rfl rfl rfl))
 refine LT (.agg #[(int 1), (int 2)]) 23 rfl rfl rfl (fun u431 hF432 => (x_load rfl rfl (run_loadVar_agg ti_43 (hF432.2.2.2.2.2.2.1 _ _ (one_self _ _)) (l := [(int 1), (int 2)]) rfl rfl))) hst354.a7 ?_ (hw := (Want.of rfl rfl rfl rfl rfl))
 refine LP (.bool false) 24 rfl rfl rfl (fun u434 => (by kernel_rfl)) hst354.a7 ?_ (hw := (Want.of rfl rfl rfl rfl rfl))
 refine LP (.bool false) 25 rfl rfl rfl (fun u437 => rfl) hst354.a7 ?_
 refine LA_done (by decide +kernel) ?_
 refine W_cond_false (by show Value.bool _ = _; exact congrArg Value.bool rfl) ?_
 refine W_skip ?_
 refine W_region_lit ?_
 refine Lq (int 2) rfl rfl rfl (by kernel_rfl) ?_
 refine Lq (int 2) rfl rfl rfl rfl ?_
 refine L_nil ?_
 show W _ _ _ _ _ _ _
 refine W_seq ?_
 refine W_region_lit ?_
 refine Lq (.bool (decide (2 < (zD.length : Int)))) rfl rfl rfl (by kernel_rfl) ?_
 refine L_nil ?_
 refine W_seq ?_
 have c439 : (decide (2 < (zD.length : Int))) = true := by rw [zD_len]; rfl
 have q440 := of_decide_eq_true c439
 refine W_cond_true (by show Value.bool _ = _; exact congrArg Value.bool c439) ?_
 refine W_skip ?_
 refine W_seq ?_
 refine W_block ?_
 refine W_seq ?_
 refine W_region_lit ?_
 refine Lq (int 2) rfl rfl rfl rfl ?_
 refine Lq (int 2) rfl rfl rfl rfl ?_
 refine L_nil ?_
 refine W_seq ?_
 refine W_region_draw [] (fun w => Le R240 (hp w) ∧ Le c236 (hp w) ∧ Le (one b224 (.cells #[(.string ⟨#[119, 97, 114, 109, 32, 49]⟩), (.string ⟨#[104, 111, 116, 32, 51]⟩), (.string ⟨#[101, 120, 105, 116, 32, 53, 32, 108, 101, 102, 116, 32, 50, 32, 116, 105, 109, 101, 115]⟩), (.string ⟨#[101, 114, 114, 111, 114, 32, 51, 48]⟩), (.string ⟨#[119, 97, 114, 109, 32, 49]⟩), (.string ⟨#[101, 114, 114, 111, 114, 32, 51, 48, 44, 32, 103, 105, 118, 101, 110, 32, 117, 112]⟩)] 9 (0, 0))) (hp w) ∧ Le (one b185 (.cells #[(.bool false), (.bool true)] 4 (0, 0))) (hp w) ∧ Le (one b62 (.cells #[(.bool false), (.bool false), (.bool false), (.bool true)] 4 (0, 0))) (hp w) ∧ Le (one b23 (.cells #[(.bool false), (.bool true)] 4 (0, 0))) (hp w) ∧ Le (one b18 (.cells #[(int 1), (int 2)] 43 (0, 0))) (hp w) ∧ Le (one b13 (.cells #[(ptr p9 0)] 26 (0, 0))) (hp w)) hmix (by decide +kernel) (fun _ _ h => h) ?_
 have hst442 := hst354.draws (w353.drawn + 1)
 generalize draws w353 (w353.drawn + 1) = w441 at hst442 ⊢
 refine LP (.slice (some ⟨b284, off285, none⟩) zD.length cap247) 0 rfl rfl rfl (fun u444 => rfl) hst442.a7 ?_
 refine LT (int (zD.length : Int)) 1 rfl rfl rfl (fun u447 hF448 => (x_len_slice rfl sl_36 rfl)) hst442.a7 ?_
 refine LP (.slice (some ⟨b224, 0, none⟩) 6 6) 2 rfl rfl rfl (fun u450 => rfl) hst442.a7 ?_
 refine LT (int 6) 3 rfl rfl rfl (fun u453 hF454 => (x_len_slice rfl sl_73 rfl)) hst442.a7 ?_
 refine LP (.bool ((zD.length : Int) != 6)) 4 rfl rfl rfl (fun u456 => (by kernel_rfl)) hst442.a7 ?_
 refine LP (.bool ((zD.length : Int) != 6)) 5 rfl rfl rfl (fun u459 => rfl) hst442.a7 ?_
 refine LP (.slice (some ⟨b284, off285, none⟩) zD.length cap247) 6 rfl rfl rfl (fun u462 => rfl) hst442.a7 ?_ (hw := (Want.of rfl rfl rfl rfl (by rw [c273]; rfl)))
 refine LP (int 2) 7 rfl rfl rfl (fun u465 => rfl) hst442.a7 ?_ (hw := (Want.of rfl rfl rfl rfl (by rw [c273]; rfl)))
 obtain ⟨cl470, hs471, hr472⟩ := he293.at 2 (by omega)
 obtain rfl := tyDec_open hr472
 refine LP (ptr b284 (off285 + 2 * 4)) 8 rfl rfl rfl (fun u468 => (x_indexAddr' rfl sl_36 ti_49 rfl rfl (by omega))) hst442.a7 ?_ (hw := (Want.of rfl rfl rfl rfl (by rw [c273]; rfl)))
 refine LP (ptr b284 (off285 + 2 * 4 + 3)) 9 rfl rfl rfl (fun u474 => (by kernel_rfl)) hst442.a7 ?_ (hw := (Want.of rfl rfl rfl rfl (by rw [c273]; rfl)))
 refine LT (.string ⟨#[101, 120, 105, 116, 32, 53, 32, 108, 101, 102, 116, 32, 50, 32, 116, 105, 109, 101, 115]⟩) 10 rfl rfl rfl (fun u477 hF478 => (x_load rfl rfl (run_loadVar_one ti_9 (hF478.1 _ _ hb292) (seg_get (j := 3) hs471 rfl)))) hst442.a7 ?_ (hw := (Want.of rfl rfl rfl rfl (by rw [c273]; rfl)))
 refine LP (.slice (some ⟨b224, 0, none⟩) 6 6) 11 rfl rfl rfl (fun u480 => rfl) hst442.a7 ?_ (hw := (Want.of rfl rfl rfl rfl (by rw [c273]; rfl)))
 refine LP (int 2) 12 rfl rfl rfl (fun u483 => rfl) hst442.a7 ?_ (hw := (Want.of rfl rfl rfl rfl (by rw [c273]; rfl)))
 refine LP (ptr b224 2) 13 rfl rfl rfl (fun u486 => (x_indexAddr' (k := 2) (len := 6) rfl sl_73 ti_9 rfl rfl (by decide))) hst442.a7 ?_ (hw := (Want.of rfl rfl rfl rfl (by rw [c273]; rfl)))
 refine LT (.string ⟨#[101, 120, 105, 116, 32, 53, 32, 108, 101, 102, 116, 32, 50, 32, 116, 105, 109, 101, 115]⟩) 14 rfl rfl rfl (fun u489 hF490 => (x_load rfl rfl (run_loadVar_one ti_9 (hF490.2.2.1 _ _ (one_self _ _)) rfl))) hst442.a7 ?_ (hw := (Want.of rfl rfl rfl rfl (by rw [c273]; rfl)))
 refine LP (.bool false) 15 rfl rfl rfl (fun u492 => (by kernel_rfl)) hst442.a7 ?_ (hw := (Want.of rfl rfl rfl rfl (by rw [c273]; rfl)))
 refine LP (.bool false) 16 rfl rfl rfl (fun u495 => (x_pick rfl rfl (by rw [c273]; rfl))) hst442.a7 ?_
 refine LP (.bool false) 17 rfl rfl rfl (fun u498 => rfl) hst442.a7 ?_
 refine LP (.slice (some ⟨b284, off285, none⟩) zD.length cap247) 18 rfl rfl rfl (fun u501 => rfl) hst442.a7 ?_ (hw := (Want.of rfl rfl rfl rfl rfl))
 refine LP (int 2) 19 rfl rfl rfl (fun u504 => rfl) hst442.a7 ?_ (hw := (Want.of rfl rfl rfl rfl rfl))
 obtain ⟨cl509, hs510, hr511⟩ := he293.at 2 (by omega)
 obtain rfl := tyDec_open hr511
 refine LP (ptr b284 (off285 + 2 * 4)) 20 rfl rfl rfl (fun u507 => (x_indexAddr' rfl sl_36 ti_49 rfl rfl (by omega))) hst442.a7 ?_ (hw := (Want.of rfl rfl rfl rfl rfl))
 refine LP (ptr b284 (off285 + 2 * 4)) 21 rfl rfl rfl (fun u513 => (by kernel_rfl)) hst442.a7 ?_ (hw := (Want.of rfl rfl rfl rfl rfl))
 refine LT (.agg #[(int 1), (int 2)]) 22 rfl rfl rfl (fun u516 hF517 => (x_load rfl rfl (run_loadVar_agg ti_43 (hF517.1 _ _ hb292) (seg_part hs510 0 2 rfl rfl) rfl))) hst442.a7 ?_ (hw := (Want.of rfl rfl rfl rfl rfl))
 refine LT (.agg #[(int 1), (int 2)]) 23 rfl rfl rfl (fun u519 hF520 => (x_load rfl rfl (run_loadVar_agg ti_43 (hF520.2.2.2.2.2.2.1 _ _ (one_self _ _)) (l := [(int 1), (int 2)]) rfl rfl))) hst442.a7 ?_ (hw := (Want.of rfl rfl rfl rfl rfl))
 refine LP (.bool false) 24 rfl rfl rfl (fun u522 => (by kernel_rfl)) hst442.a7 ?_ (hw := (Want.of rfl rfl rfl rfl rfl))
 refine LP (.bool false) 25 rfl rfl rfl (fun u525 => rfl) hst442.a7 ?_
 refine LA_done (by decide +kernel) ?_
 refine W_cond_false (by show Value.bool _ = _; exact congrArg Value.bool rfl) ?_
 refine W_skip ?_
 refine W_region_lit ?_
 refine Lq (int 3) rfl rfl rfl (by kernel_rfl) ?_
 refine Lq (int 3) rfl rfl rfl rfl ?_
 refine L_nil ?_
 show W _ _ _ _ _ _ _
 refine W_seq ?_
 refine W_region_lit ?_
 refine Lq (.bool (decide (3 < (zD.length : Int)))) rfl rfl rfl (by kernel_rfl) ?_
 refine L_nil ?_
 refine W_seq ?_
 have c527 : (decide (3 < (zD.length : Int))) = true := by rw [zD_len]; rfl
 have q528 := of_decide_eq_true c527
 refine W_cond_true (by show Value.bool _ = _; exact congrArg Value.bool c527) ?_
 refine W_skip ?_
 refine W_seq ?_
 refine W_block ?_
 refine W_seq ?_
 refine W_region_lit ?_
 refine Lq (int 3) rfl rfl rfl rfl ?_
 refine Lq (int 3) rfl rfl rfl rfl ?_
 refine L_nil ?_
 refine W_seq ?_
 refine W_region_draw [] (fun w => Le R240 (hp w) ∧ Le c236 (hp w) ∧ Le (one b224 (.cells #[(.string ⟨#[119, 97, 114, 109, 32, 49]⟩), (.string ⟨#[104, 111, 116, 32, 51]⟩), (.string ⟨#[101, 120, 105, 116, 32, 53, 32, 108, 101, 102, 116, 32, 50, 32, 116, 105, 109, 101, 115]⟩), (.string ⟨#[101, 114, 114, 111, 114, 32, 51, 48]⟩), (.string ⟨#[119, 97, 114, 109, 32, 49]⟩), (.string ⟨#[101, 114, 114, 111, 114, 32, 51, 48, 44, 32, 103, 105, 118, 101, 110, 32, 117, 112]⟩)] 9 (0, 0))) (hp w) ∧ Le (one b185 (.cells #[(.bool false), (.bool true)] 4 (0, 0))) (hp w) ∧ Le (one b62 (.cells #[(.bool false), (.bool false), (.bool false), (.bool true)] 4 (0, 0))) (hp w) ∧ Le (one b23 (.cells #[(.bool false), (.bool true)] 4 (0, 0))) (hp w) ∧ Le (one b18 (.cells #[(int 1), (int 2)] 43 (0, 0))) (hp w) ∧ Le (one b13 (.cells #[(ptr p9 0)] 26 (0, 0))) (hp w)) hmix (by decide +kernel) (fun _ _ h => h) ?_
 have hst530 := hst442.draws (w441.drawn + 1)
 generalize draws w441 (w441.drawn + 1) = w529 at hst530 ⊢
 refine LP (.slice (some ⟨b284, off285, none⟩) zD.length cap247) 0 rfl rfl rfl (fun u532 => rfl) hst530.a7 ?_
 refine LT (int (zD.length : Int)) 1 rfl rfl rfl (fun u535 hF536 => (x_len_slice rfl sl_36 rfl)) hst530.a7 ?_
 refine LP (.slice (some ⟨b224, 0, none⟩) 6 6) 2 rfl rfl rfl (fun u538 => rfl) hst530.a7 ?_
 refine LT (int 6) 3 rfl rfl rfl (fun u541 hF542 => (x_len_slice rfl sl_73 rfl)) hst530.a7 ?_
 refine LP (.bool ((zD.length : Int) != 6)) 4 rfl rfl rfl (fun u544 => (by kernel_rfl)) hst530.a7 ?_
 refine LP (.bool ((zD.length : Int) != 6)) 5 rfl rfl rfl (fun u547 => rfl) hst530.a7 ?_
 refine LP (.slice (some ⟨b284, off285, none⟩) zD.length cap247) 6 rfl rfl rfl (fun u550 => rfl) hst530.a7 ?_ (hw := (Want.of rfl rfl rfl rfl (by rw [c273]; rfl)))
 refine LP (int 3) 7 rfl rfl rfl (fun u553 => rfl) hst530.a7 ?_ (hw := (Want.of rfl rfl rfl rfl (by rw [c273]; rfl)))
 obtain ⟨cl558, hs559, hr560⟩ := he293.at 3 (by omega)
 obtain rfl := tyDec_open hr560
 refine LP (ptr b284 (off285 + 3 * 4)) 8 rfl rfl rfl (fun u556 => (x_indexAddr' rfl sl_36 ti_49 rfl rfl (by omega))) hst530.a7 ?_ (hw := (Want.of rfl rfl rfl rfl (by rw [c273]; rfl)))
 refine LP (ptr b284 (off285 + 3 * 4 + 3)) 9 rfl rfl rfl (fun u562 => (by kernel_rfl)) hst530.a7 ?_ (hw := (Want.of rfl rfl rfl rfl (by rw [c273]; rfl)))
 refine LT (.string ⟨#[101, 114, 114, 111, 114, 32, 51, 48]⟩) 10 rfl rfl rfl (fun u565 hF566 => (x_load rfl rfl (run_loadVar_one ti_9 (hF566.1 _ _ hb292) (seg_get (j := 3) hs559 rfl)))) hst530.a7 ?_ (hw := (Want.of rfl rfl rfl rfl (by rw [c273]; rfl)))
 refine LP (.slice (some ⟨b224, 0, none⟩) 6 6) 11 rfl rfl rfl (fun u568 => rfl) hst530.a7 ?_ (hw := (Want.of rfl rfl rfl rfl (by rw [c273]; rfl)))
 refine LP (int 3) 12 rfl rfl rfl (fun u571 => rfl) hst530.a7 ?_ (hw := (Want.of rfl rfl rfl rfl (by rw [c273]; rfl)))
 refine LP (ptr b224 3) 13 rfl rfl rfl (fun u574 => (x_indexAddr' (k := 3) (len := 6) rfl sl_73 ti_9 rfl rfl (by decide))) hst530.a7 ?_ (hw := (Want.of rfl rfl rfl rfl (by rw [c273]; rfl)))
 refine LT (.string ⟨#[101, 114, 114, 111, 114, 32, 51, 48]⟩) 14 rfl rfl rfl (fun u577 hF578 => (x_load rfl rfl (run_loadVar_one ti_9 (hF578.2.2.1 _ _ (one_self _ _)) rfl))) hst530.a7 ?_ (hw := (Want.of rfl rfl rfl rfl (by rw [c273]; rfl)))
 refine LP (.bool false) 15 rfl rfl rfl (fun u580 => (by kernel_rfl)) hst530.a7 ?_ (hw := (Want.of rfl rfl rfl rfl (by rw [c273]; rfl)))
 refine LP (.bool false) 16 rfl rfl rfl (fun u583 => (x_pick rfl rfl (by rw [c273]; rfl))) hst530.a7 ?_
 refine LP (.bool false) 17 rfl rfl rfl (fun u586 => rfl) hst530.a7 ?_
 refine LP (.slice (some ⟨b284, off285, none⟩) zD.length cap247) 18 rfl rfl rfl (fun u589 => rfl) hst530.a7 ?_ (hw := (Want.of rfl rfl rfl rfl rfl))
 refine LP (int 3) 19 rfl rfl rfl (fun u592 => rfl) hst530.a7 ?_ (hw := (Want.of rfl rfl rfl rfl rfl))
 obtain ⟨cl597, hs598, hr599⟩ := he293.at 3 (by omega)
 obtain rfl := tyDec_open hr599
 refine LP (ptr b284 (off285 + 3 * 4)) 20 rfl rfl rfl (fun u595 => (x_indexAddr' rfl sl_36 ti_49 rfl rfl (by omega))) hst530.a7 ?_ (hw := (Want.of rfl rfl rfl rfl rfl))
 refine LP (ptr b284 (off285 + 3 * 4)) 21 rfl rfl rfl (fun u601 => (by kernel_rfl)) hst530.a7 ?_ (hw := (Want.of rfl rfl rfl rfl rfl))
 refine LT (.agg #[(int 1), (int 2)]) 22 rfl rfl rfl (fun u604 hF605 => (x_load rfl rfl (run_loadVar_agg ti_43 (hF605.1 _ _ hb292) (seg_part hs598 0 2 rfl rfl) rfl))) hst530.a7 ?_ (hw := (Want.of rfl rfl rfl rfl rfl))
 refine LT (.agg #[(int 1), (int 2)]) 23 rfl rfl rfl (fun u607 hF608 => (x_load rfl rfl (run_loadVar_agg ti_43 (hF608.2.2.2.2.2.2.1 _ _ (one_self _ _)) (l := [(int 1), (int 2)]) rfl rfl))) hst530.a7 ?_ (hw := (Want.of rfl rfl rfl rfl rfl))
 refine LP (.bool false) 24 rfl rfl rfl (fun u610 => (by kernel_rfl)) hst530.a7 ?_ (hw := (Want.of rfl rfl rfl rfl rfl))
 refine LP (.bool false) 25 rfl rfl rfl (fun u613 => rfl) hst530.a7 ?_
 refine LA_done (by decide +kernel) ?_
 refine W_cond_false (by show Value.bool _ = _; exact congrArg Value.bool rfl) ?_
 refine W_skip ?_
 refine W_region_lit ?_
 refine Lq (int 4) rfl rfl rfl (by kernel_rfl) ?_
 refine Lq (int 4) rfl rfl rfl rfl ?_
 refine L_nil ?_
 show W _ _ _ _ _ _ _
 refine W_seq ?_
 refine W_region_lit ?_
 refine Lq (.bool (decide (4 < (zD.length : Int)))) rfl rfl rfl (by kernel_rfl) ?_
 refine L_nil ?_
 refine W_seq ?_
 have c615 : (decide (4 < (zD.length : Int))) = true := by rw [zD_len]; rfl
 have q616 := of_decide_eq_true c615
 refine W_cond_true (by show Value.bool _ = _; exact congrArg Value.bool c615) ?_
 refine W_skip ?_
 refine W_seq ?_
 refine W_block ?_
 refine W_seq ?_
 refine W_region_lit ?_
 refine Lq (int 4) rfl rfl rfl rfl ?_
 refine Lq (int 4) rfl rfl rfl rfl ?_
 refine L_nil ?_
 refine W_seq ?_
 refine W_region_draw [] (fun w => Le R240 (hp w) ∧ Le c236 (hp w) ∧ Le (one b224 (.cells #[(.string ⟨#[119, 97, 114, 109, 32, 49]⟩), (.string ⟨#[104, 111, 116, 32, 51]⟩), (.string ⟨#[101, 120, 105, 116, 32, 53, 32, 108, 101, 102, 116, 32, 50, 32, 116, 105, 109, 101, 115]⟩), (.string ⟨#[101, 114, 114, 111, 114, 32, 51, 48]⟩), (.string ⟨#[119, 97, 114, 109, 32, 49]⟩), (.string ⟨#[101, 114, 114, 111, 114, 32, 51, 48, 44, 32, 103, 105, 118, 101, 110, 32, 117, 112]⟩)] 9 (0, 0))) (hp w) ∧ Le (one b185 (.cells #[(.bool false), (.bool true)] 4 (0, 0))) (hp w) ∧ Le (one b62 (.cells #[(.bool false), (.bool false), (.bool false), (.bool true)] 4 (0, 0))) (hp w) ∧ Le (one b23 (.cells #[(.bool false), (.bool true)] 4 (0, 0))) (hp w) ∧ Le (one b18 (.cells #[(int 1), (int 2)] 43 (0, 0))) (hp w) ∧ Le (one b13 (.cells #[(ptr p9 0)] 26 (0, 0))) (hp w)) hmix (by decide +kernel) (fun _ _ h => h) ?_
 have hst618 := hst530.draws (w529.drawn + 1)
 generalize draws w529 (w529.drawn + 1) = w617 at hst618 ⊢
 refine LP (.slice (some ⟨b284, off285, none⟩) zD.length cap247) 0 rfl rfl rfl (fun u620 => rfl) hst618.a7 ?_
 refine LT (int (zD.length : Int)) 1 rfl rfl rfl (fun u623 hF624 => (x_len_slice rfl sl_36 rfl)) hst618.a7 ?_
 refine LP (.slice (some ⟨b224, 0, none⟩) 6 6) 2 rfl rfl rfl (fun u626 => rfl) hst618.a7 ?_
 refine LT (int 6) 3 rfl rfl rfl (fun u629 hF630 => (x_len_slice rfl sl_73 rfl)) hst618.a7 ?_
 refine LP (.bool ((zD.length : Int) != 6)) 4 rfl rfl rfl (fun u632 => (by kernel_rfl)) hst618.a7 ?_
 refine LP (.bool ((zD.length : Int) != 6)) 5 rfl rfl rfl (fun u635 => rfl) hst618.a7 ?_
 refine LP (.slice (some ⟨b284, off285, none⟩) zD.length cap247) 6 rfl rfl rfl (fun u638 => rfl) hst618.a7 ?_ (hw := (Want.of rfl rfl rfl rfl (by rw [c273]; rfl)))
 refine LP (int 4) 7 rfl rfl rfl (fun u641 => rfl) hst618.a7 ?_ (hw := (Want.of rfl rfl rfl rfl (by rw [c273]; rfl)))
 obtain ⟨cl646, hs647, hr648⟩ := he293.at 4 (by omega)
 obtain rfl := tyDec_open hr648
 refine LP (ptr b284 (off285 + 4 * 4)) 8 rfl rfl rfl (fun u644 => (x_indexAddr' rfl sl_36 ti_49 rfl rfl (by omega))) hst618.a7 ?_ (hw := (Want.of rfl rfl rfl rfl (by rw [c273]; rfl)))
 refine LP (ptr b284 (off285 + 4 * 4 + 3)) 9 rfl rfl rfl (fun u650 => (by kernel_rfl)) hst618.a7 ?_ (hw := (Want.of rfl rfl rfl rfl (by rw [c273]; rfl)))
 refine LT (.string ⟨#[119, 97, 114, 109, 32, 49]⟩) 10 rfl rfl rfl (fun u653 hF654 => (x_load rfl rfl (run_loadVar_one ti_9 (hF654.1 _ _ hb292) (seg_get (j := 3) hs647 rfl)))) hst618.a7 ?_ (hw := (Want.of rfl rfl rfl rfl (by rw [c273]; rfl)))
 refine LP (.slice (some ⟨b224, 0, none⟩) 6 6) 11 rfl rfl rfl (fun u656 => rfl) hst618.a7 ?_ (hw := (Want.of rfl rfl rfl rfl (by rw [c273]; rfl)))
 refine LP (int 4) 12 rfl rfl rfl (fun u659 => rfl) hst618.a7 ?_ (hw := (Want.of rfl rfl rfl rfl (by rw [c273]; rfl)))
 refine LP (ptr b224 4) 13 rfl rfl rfl (fun u662 => (x_indexAddr' (k := 4) (len := 6) rfl sl_73 ti_9 rfl rfl (by decide))) hst618.a7 ?_ (hw := (Want.of rfl rfl rfl rfl (by rw [c273]; rfl)))
 refine LT (.string ⟨#[119, 97, 114, 109, 32, 49]⟩) 14 rfl rfl rfl (fun u665 hF666 => (x_load rfl rfl (run_loadVar_one ti_9 (hF666.2.2.1 _ _ (one_self _ _)) rfl))) hst618.a7 ?_ (hw := (Want.of rfl rfl rfl rfl (by rw [c273]; rfl)))
 refine LP (.bool false) 15 rfl rfl rfl (fun u668 => (by kernel_rfl)) hst618.a7 ?_ (hw := (Want.of rfl rfl rfl rfl (by rw [c273]; rfl)))
 refine LP (.bool false) 16 rfl rfl rfl (fun u671 => (x_pick rfl rfl (by rw [c273]; rfl))) hst618.a7 ?_
 refine LP (.bool false) 17 rfl rfl rfl (fun u674 => rfl) hst618.a7 ?_
 refine LP (.slice (some ⟨b284, off285, none⟩) zD.length cap247) 18 rfl rfl rfl (fun u677 => rfl) hst618.a7 ?_ (hw := (Want.of rfl rfl rfl rfl rfl))
 refine LP (int 4) 19 rfl rfl rfl (fun u680 => rfl) hst618.a7 ?_ (hw := (Want.of rfl rfl rfl rfl rfl))
 obtain ⟨cl685, hs686, hr687⟩ := he293.at 4 (by omega)
 obtain rfl := tyDec_open hr687
 refine LP (ptr b284 (off285 + 4 * 4)) 20 rfl rfl rfl (fun u683 => (x_indexAddr' rfl sl_36 ti_49 rfl rfl (by omega))) hst618.a7 ?_ (hw := (Want.of rfl rfl rfl rfl rfl))
 refine LP (ptr b284 (off285 + 4 * 4)) 21 rfl rfl rfl (fun u689 => (by kernel_rfl)) hst618.a7 ?_ (hw := (Want.of rfl rfl rfl rfl rfl))
 refine LT (.agg #[(int 1), (int 2)]) 22 rfl rfl rfl (fun u692 hF693 => (x_load rfl rfl (run_loadVar_agg ti_43 (hF693.1 _ _ hb292) (seg_part hs686 0 2 rfl rfl) rfl))) hst618.a7 ?_ (hw := (Want.of rfl rfl rfl rfl rfl))
 refine LT (.agg #[(int 1), (int 2)]) 23 rfl rfl rfl (fun u695 hF696 => (x_load rfl rfl (run_loadVar_agg ti_43 (hF696.2.2.2.2.2.2.1 _ _ (one_self _ _)) (l := [(int 1), (int 2)]) rfl rfl))) hst618.a7 ?_ (hw := (Want.of rfl rfl rfl rfl rfl))
 refine LP (.bool false) 24 rfl rfl rfl (fun u698 => (by kernel_rfl)) hst618.a7 ?_ (hw := (Want.of rfl rfl rfl rfl rfl))
 refine LP (.bool false) 25 rfl rfl rfl (fun u701 => rfl) hst618.a7 ?_
 refine LA_done (by decide +kernel) ?_
 refine W_cond_false (by show Value.bool _ = _; exact congrArg Value.bool rfl) ?_
 refine W_skip ?_
 refine W_region_lit ?_
 refine Lq (int 5) rfl rfl rfl (by kernel_rfl) ?_
 refine Lq (int 5) rfl rfl rfl rfl ?_
 refine L_nil ?_
 show W _ _ _ _ _ _ _
 refine W_seq ?_
 refine W_region_lit ?_
 refine Lq (.bool (decide (5 < (zD.length : Int)))) rfl rfl rfl (by kernel_rfl) ?_
 refine L_nil ?_
 refine W_seq ?_
 have c703 : (decide (5 < (zD.length : Int))) = true := by rw [zD_len]; rfl
 have q704 := of_decide_eq_true c703
 refine W_cond_true (by show Value.bool _ = _; exact congrArg Value.bool c703) ?_
 refine W_skip ?_
 refine W_seq ?_
 refine W_block ?_
 refine W_seq ?_
 refine W_region_lit ?_
 refine Lq (int 5) rfl rfl rfl rfl ?_
 refine Lq (int 5) rfl rfl rfl rfl ?_
 refine L_nil ?_
 refine W_seq ?_
 refine W_region_draw [] (fun w => Le R240 (hp w) ∧ Le c236 (hp w) ∧ Le (one b224 (.cells #[(.string ⟨#[119, 97, 114, 109, 32, 49]⟩), (.string ⟨#[104, 111, 116, 32, 51]⟩), (.string ⟨#[101, 120, 105, 116, 32, 53, 32, 108, 101, 102, 116, 32, 50, 32, 116, 105, 109, 101, 115]⟩), (.string ⟨#[101, 114, 114, 111, 114, 32, 51, 48]⟩), (.string ⟨#[119, 97, 114, 109, 32, 49]⟩), (.string ⟨#[101, 114, 114, 111, 114, 32, 51, 48, 44, 32, 103, 105, 118, 101, 110, 32, 117, 112]⟩)] 9 (0, 0))) (hp w) ∧ Le (one b185 (.cells #[(.bool false), (.bool true)] 4 (0, 0))) (hp w) ∧ Le (one b62 (.cells #[(.bool false), (.bool false), (.bool false), (.bool true)] 4 (0, 0))) (hp w) ∧ Le (one b23 (.cells #[(.bool false), (.bool true)] 4 (0, 0))) (hp w) ∧ Le (one b18 (.cells #[(int 1), (int 2)] 43 (0, 0))) (hp w) ∧ Le (one b13 (.cells #[(ptr p9 0)] 26 (0, 0))) (hp w)) hmix (by decide +kernel) (fun _ _ h => h) ?_
 have hst706 := hst618.draws (w617.drawn + 1)
 generalize draws w617 (w617.drawn + 1) = w705 at hst706 ⊢
 refine LP (.slice (some ⟨b284, off285, none⟩) zD.length cap247) 0 rfl rfl rfl (fun u708 => rfl) hst706.a7 ?_
 refine LT (int (zD.length : Int)) 1 rfl rfl rfl (fun u711 hF712 => (x_len_slice rfl sl_36 rfl)) hst706.a7 ?_
 refine LP (.slice (some ⟨b224, 0, none⟩) 6 6) 2 rfl rfl rfl (fun u714 => rfl) hst706.a7 ?_
 refine LT (int 6) 3 rfl rfl rfl (fun u717 hF718 => (x_len_slice rfl sl_73 rfl)) hst706.a7 ?_
 refine LP (.bool ((zD.length : Int) != 6)) 4 rfl rfl rfl (fun u720 => (by kernel_rfl)) hst706.a7 ?_
 refine LP (.bool ((zD.length : Int) != 6)) 5 rfl rfl rfl (fun u723 => rfl) hst706.a7 ?_
 refine LP (.slice (some ⟨b284, off285, none⟩) zD.length cap247) 6 rfl rfl rfl (fun u726 => rfl) hst706.a7 ?_ (hw := (Want.of rfl rfl rfl rfl (by rw [c273]; rfl)))
 refine LP (int 5) 7 rfl rfl rfl (fun u729 => rfl) hst706.a7 ?_ (hw := (Want.of rfl rfl rfl rfl (by rw [c273]; rfl)))
 obtain ⟨cl734, hs735, hr736⟩ := he293.at 5 (by omega)
 obtain rfl := tyDec_open hr736
 refine LP (ptr b284 (off285 + 5 * 4)) 8 rfl rfl rfl (fun u732 => (x_indexAddr' rfl sl_36 ti_49 rfl rfl (by omega))) hst706.a7 ?_ (hw := (Want.of rfl rfl rfl rfl (by rw [c273]; rfl)))
 refine LP (ptr b284 (off285 + 5 * 4 + 3)) 9 rfl rfl rfl (fun u738 => (by kernel_rfl)) hst706.a7 ?_ (hw := (Want.of rfl rfl rfl rfl (by rw [c273]; rfl)))
 refine LT (.string ⟨#[101, 114, 114, 111, 114, 32, 51, 48, 44, 32, 103, 105, 118, 101, 110, 32, 117, 112]⟩) 10 rfl rfl rfl (fun u741 hF742 => (x_load rfl rfl (run_loadVar_one ti_9 (hF742.1 _ _ hb292) (seg_get (j := 3) hs735 rfl)))) hst706.a7 ?_ (hw := (Want.of rfl rfl rfl rfl (by rw [c273]; rfl)))
 refine LP (.slice (some ⟨b224, 0, none⟩) 6 6) 11 rfl rfl rfl (fun u744 => rfl) hst706.a7 ?_ (hw := (Want.of rfl rfl rfl rfl (by rw [c273]; rfl)))
 refine LP (int 5) 12 rfl rfl rfl (fun u747 => rfl) hst706.a7 ?_ (hw := (Want.of rfl rfl rfl rfl (by rw [c273]; rfl)))
 refine LP (ptr b224 5) 13 rfl rfl rfl (fun u750 => (x_indexAddr' (k := 5) (len := 6) rfl sl_73 ti_9 rfl rfl (by decide))) hst706.a7 ?_ (hw := (Want.of rfl rfl rfl rfl (by rw [c273]; rfl)))
 refine LT (.string ⟨#[101, 114, 114, 111, 114, 32, 51, 48, 44, 32, 103, 105, 118, 101, 110, 32, 117, 112]⟩) 14 rfl rfl rfl (fun u753 hF754 => (x_load rfl rfl (run_loadVar_one ti_9 (hF754.2.2.1 _ _ (one_self _ _)) rfl))) hst706.a7 ?_ (hw := (Want.of rfl rfl rfl rfl (by rw [c273]; rfl)))
 refine LP (.bool false) 15 rfl rfl rfl (fun u756 => (by kernel_rfl)) hst706.a7 ?_ (hw := (Want.of rfl rfl rfl rfl (by rw [c273]; rfl)))
 refine LP (.bool false) 16 rfl rfl rfl (fun u759 => (x_pick rfl rfl (by rw [c273]; rfl))) hst706.a7 ?_
 refine LP (.bool false) 17 rfl rfl rfl (fun u762 => rfl) hst706.a7 ?_
 refine LP (.slice (some ⟨b284, off285, none⟩) zD.length cap247) 18 rfl rfl rfl (fun u765 => rfl) hst706.a7 ?_ (hw := (Want.of rfl rfl rfl rfl rfl))
 refine LP (int 5) 19 rfl rfl rfl (fun u768 => rfl) hst706.a7 ?_ (hw := (Want.of rfl rfl rfl rfl rfl))
 obtain ⟨cl773, hs774, hr775⟩ := he293.at 5 (by omega)
 obtain rfl := tyDec_open hr775
 refine LP (ptr b284 (off285 + 5 * 4)) 20 rfl rfl rfl (fun u771 => (x_indexAddr' rfl sl_36 ti_49 rfl rfl (by omega))) hst706.a7 ?_ (hw := (Want.of rfl rfl rfl rfl rfl))
 refine LP (ptr b284 (off285 + 5 * 4)) 21 rfl rfl rfl (fun u777 => (by kernel_rfl)) hst706.a7 ?_ (hw := (Want.of rfl rfl rfl rfl rfl))
 refine LT (.agg #[(int 1), (int 2)]) 22 rfl rfl rfl (fun u780 hF781 => (x_load rfl rfl (run_loadVar_agg ti_43 (hF781.1 _ _ hb292) (seg_part hs774 0 2 rfl rfl) rfl))) hst706.a7 ?_ (hw := (Want.of rfl rfl rfl rfl rfl))
 refine LT (.agg #[(int 1), (int 2)]) 23 rfl rfl rfl (fun u783 hF784 => (x_load rfl rfl (run_loadVar_agg ti_43 (hF784.2.2.2.2.2.2.1 _ _ (one_self _ _)) (l := [(int 1), (int 2)]) rfl rfl))) hst706.a7 ?_ (hw := (Want.of rfl rfl rfl rfl rfl))
 refine LP (.bool false) 24 rfl rfl rfl (fun u786 => (by kernel_rfl)) hst706.a7 ?_ (hw := (Want.of rfl rfl rfl rfl rfl))
 refine LP (.bool false) 25 rfl rfl rfl (fun u789 => rfl) hst706.a7 ?_
 refine LA_done (by decide +kernel) ?_
 refine W_cond_false (by show Value.bool _ = _; exact congrArg Value.bool rfl) ?_
 refine W_skip ?_
 refine W_region_lit ?_
 refine Lq (int 6) rfl rfl rfl (by kernel_rfl) ?_
 refine Lq (int 6) rfl rfl rfl rfl ?_
 refine L_nil ?_
 show W _ _ _ _ _ _ _
 refine W_seq ?_
 refine W_region_lit ?_
 refine Lq (.bool (decide (6 < (zD.length : Int)))) rfl rfl rfl (by kernel_rfl) ?_
 refine L_nil ?_
 refine W_seq ?_
 have c791 : (decide (6 < (zD.length : Int))) = false := by rw [zD_len]; rfl
 have q792 := of_decide_eq_false c791
 refine W_cond_false (by show Value.bool _ = _; exact congrArg Value.bool c791) ?_
 refine W_exit ?_
 refine W_seq ?_
 refine W_region_lit ?_
 refine Lq (int 0) rfl rfl rfl rfl ?_
 refine Lq (.bool true) rfl rfl rfl (by kernel_rfl) ?_
 refine Lq (.bool true) rfl rfl rfl rfl ?_
 refine L_guard rfl rfl rfl rfl rfl ?_
 refine Lq (.bool true) rfl rfl rfl rfl ?_
 refine Lq (.bool true) rfl rfl rfl rfl ?_
 refine Lq (.bool true) rfl rfl rfl rfl ?_
 refine L_guard rfl rfl rfl rfl rfl ?_
 refine Lq (ptr p9 0) rfl rfl rfl (x_load rfl rfl (run_loadVar_one ti_26 (hst706.b 6) rfl)) ?_
 refine L_guard rfl rfl rfl rfl rfl ?_
 refine Lq (.agg #[(int 1), (int 2)]) rfl rfl rfl (x_load rfl rfl (run_loadVar_agg ti_43 (hst706.b 5) (l := [(int 1), (int 2)]) rfl rfl)) ?_
 refine L_guard rfl rfl rfl rfl rfl ?_
 have hst793 := hst706
 refine L_callS [c236] [one b224 (.cells #[(.string ⟨#[119, 97, 114, 109, 32, 49]⟩), (.string ⟨#[104, 111, 116, 32, 51]⟩), (.string ⟨#[101, 120, 105, 116, 32, 53, 32, 108, 101, 102, 116, 32, 50, 32, 116, 105, 109, 101, 115]⟩), (.string ⟨#[101, 114, 114, 111, 114, 32, 51, 48]⟩), (.string ⟨#[119, 97, 114, 109, 32, 49]⟩), (.string ⟨#[101, 114, 114, 111, 114, 32, 51, 48, 44, 32, 103, 105, 118, 101, 110, 32, 117, 112]⟩)] 9 (0, 0)), one b185 (.cells #[(.bool false), (.bool true)] 4 (0, 0)), one b62 (.cells #[(.bool false), (.bool false), (.bool false), (.bool true)] 4 (0, 0)), one b23 (.cells #[(.bool false), (.bool true)] 4 (0, 0)), one b18 (.cells #[(int 1), (int 2)] 43 (0, 0)), one b13 (.cells #[(ptr p9 0)] 26 (0, 0))] hst793 rfl rfl rfl (x_call (vs := #[(ptr p9 0), (.agg #[(int 1), (int 2)])]) rfl rfl (by kernel_rfl) ent_18) (Tier_spec (s := z12) (1, 2)  (hst793.sats.take 1 rfl) hm244 (hT.mono (Le.trans hle7 (Le.trans hle32 (Le.trans hle44 (Le.trans hle56 (Le.trans hle71 (Le.trans hle83 (Le.trans hle95 (Le.trans hle107 (Le.trans hle119 (Le.trans hle131 (Le.trans hle143 (Le.trans hle155 (Le.trans hle167 (Le.trans hle179 (Le.trans hle194 (Le.trans hle206 (Le.trans hle218 (Le.trans hle233 hle242))))))))))))))))))) (z_n (by kernel_rfl))) (fun v794 w795 R796 L797 hp798 hle799 hst800 => ?_)
 obtain ⟨c801, hv802, rfl, hp803⟩ := hp798
 rw [z12_tier] at hv802
 subst hv802
 have hprof804 : Prof R796 p9 z12 c801 := hp803
 refine L_guard rfl rfl rfl rfl rfl ?_
 refine Lq (.bool true) rfl rfl rfl (by kernel_rfl) ?_
 refine Lq (.bool true) rfl rfl rfl rfl ?_
 refine Lq (.bool true) rfl rfl rfl rfl ?_
 refine L_guard rfl rfl rfl rfl rfl ?_
 refine Lq (.slice (some ⟨b284, off285, none⟩) zD.length cap247) rfl rfl rfl rfl ?_
 refine L_guard rfl rfl rfl rfl rfl ?_
 refine Lq (int (zD.length : Int)) rfl rfl rfl (x_len_slice rfl sl_36 rfl) ?_
 refine L_guard rfl rfl rfl rfl rfl ?_
 refine Lq (.bool ((zD.length : Int) == 6)) rfl rfl rfl (by kernel_rfl) ?_
 refine Lq (.bool ((zD.length : Int) == 6)) rfl rfl rfl rfl ?_
 refine Lq (.bool ((zD.length : Int) == 6)) rfl rfl rfl rfl ?_
 have c805 : ((zD.length : Int) == 6) = true := by rw [zD_len]; rfl
 have q806 := eq_of_beq c805
 refine L_guard rfl rfl rfl rfl c805 ?_
 refine Lq (ptr p9 0) rfl rfl rfl (x_load rfl rfl (run_loadVar_one ti_26 (hst800.b 6) rfl)) ?_
 refine L_guard rfl rfl rfl rfl c805 ?_
 refine L_callG hst800 (v := (.string zT)) rfl rfl rfl (x_call (vs := #[(ptr p9 0)]) rfl rfl (by kernel_rfl) ent_14) (zText_spec (w := w795) hprof804 (hst800.g 0) (hT.mono (Le.trans hle7 (Le.trans hle32 (Le.trans hle44 (Le.trans hle56 (Le.trans hle71 (Le.trans hle83 (Le.trans hle95 (Le.trans hle107 (Le.trans hle119 (Le.trans hle131 (Le.trans hle143 (Le.trans hle155 (Le.trans hle167 (Le.trans hle179 (Le.trans hle194 (Le.trans hle206 (Le.trans hle218 (Le.trans hle233 (Le.trans hle242 (Le.trans hle799 hst800.rle')))))))))))))))))))))) (fun w807 hst808 => ?_)
 refine L_guard rfl rfl rfl rfl c805 ?_
 refine Lq (.bool true) rfl rfl rfl (by kernel_rfl) ?_
 refine Lq (.bool true) rfl rfl rfl (x_pick rfl rfl (by rw [c805]; rfl)) ?_
 refine Lq (.bool true) rfl rfl rfl rfl ?_
 refine L_nil ?_
 refine W_ret ?_
 refine ⟨_, _, res_run (rs := [.tmp 0]) (vs := [(.bool true)]) Tryd.results10 (.cons (.tmp rfl) .nil) rfl, ?_⟩
 exact ⟨_, _, [], rfl, hst808.keepN 0 rfl, rfl, rfl⟩

end Go.Fx.YtdkjoljcffkpkaaDoor
