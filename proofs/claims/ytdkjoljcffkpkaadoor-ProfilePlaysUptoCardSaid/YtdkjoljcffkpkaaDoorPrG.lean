/-
  Chapter 14: calls by numbers, do, made, printed by geny.py
-/
import Derived.Test.YtdkjoljcffkpkaaDoorPrF
set_option linter.unusedSimpArgs false
set_option linter.unusedVariables false
namespace Go.Fx.YtdkjoljcffkpkaaDoor
open Go Go.Fx Go.Proofs
set_option maxRecDepth 20000

theorem ent_10 : Ent Tryd.prog 10 := fun _ _ => by kernel_rfl
theorem ent_20 : Ent Tryd.prog 20 := fun _ _ => by kernel_rfl
theorem ent_21 : Ent Tryd.prog 21 := fun _ _ => by kernel_rfl
theorem ent_25 : Ent Tryd.prog 25 := fun _ _ => by kernel_rfl
theorem ent_28 : Ent Tryd.prog 28 := fun _ _ => by kernel_rfl
theorem ent_29 : Ent Tryd.prog 29 := fun _ _ => by kernel_rfl
theorem ent_30 : Ent Tryd.prog 30 := fun _ _ => by kernel_rfl
theorem ent_49 : Ent Tryd.prog 49 := fun _ _ => by kernel_rfl
theorem sl_108 : SL Tryd.prog 108 53 := Tryd.underlying108
theorem sl_58 : SL Tryd.prog 58 5 := Tryd.underlying58
theorem ti_32 : TI Tryd.prog 32 true 3 24 (.agg #[(.int .i64 0), (.int .i64 0), (.int .i64 0)]) := ⟨by kernel_rfl, by kernel_rfl⟩
theorem ti_5 : TI Tryd.prog 5 false 1 1 (.int .u8 0) := ⟨by kernel_rfl, by kernel_rfl⟩
theorem ti_53 : TI Tryd.prog 53 false 1 8 (.int .i64 0) := ⟨by kernel_rfl, by kernel_rfl⟩

theorem Mod_spec {w : World} {R : Hp} (a m : Int) (ha : I64 a) (hm : 0 < m) (hm2 : m ≤ 1000) (hR : Le R (hp w)) :
    Calls Tryd.prog 20 #[int a, int m] w fun e w' => e = .returned (int (a % m)) ∧ Grow w w' := by
 have hst := Step.ro hR
 have hb_ := tmod_bd a hm
 refine calls_of_W (n := 15) Tryd.func20 rfl Tryd.ntmps20 (Nat.le_of_ble_eq_true rfl) ?_
 refine W_seq ?_
 refine W_region_lit ?_
 refine Lq (int 0) rfl rfl rfl rfl ?_
 refine L_nil ?_
 refine W_seq ?_
 refine W_region_lit ?_
 refine Lq (int a) rfl rfl rfl rfl ?_
 refine Lq (int m) rfl rfl rfl rfl ?_
 refine Lq (int (Int.tmod a m)) rfl rfl rfl (x_rem rfl rfl rfl (by omega)) ?_
 refine Lq (int (Int.tmod a m)) rfl rfl rfl rfl ?_
 refine L_nil ?_
 refine W_seq ?_
 refine W_seq ?_
 refine W_region_lit ?_
 refine Lq (int (Int.tmod a m)) rfl rfl rfl rfl ?_
 refine Lq (.bool (decide (Int.tmod a m < 0))) rfl rfl rfl (by kernel_rfl) ?_
 refine L_nil ?_
 rcases Bool.eq_false_or_eq_true (decide (Int.tmod a m < 0)) with c1 | c1
 ·
  have q2 := of_decide_eq_true c1
  refine W_cond_true (by show Value.bool _ = _; exact congrArg Value.bool c1) ?_
  refine W_seq ?_
  refine W_region_lit ?_
  refine Lq (int (Int.tmod a m)) rfl rfl rfl rfl ?_
  refine Lq (int m) rfl rfl rfl rfl ?_
  refine Lq (int (Int.tmod a m + m)) rfl rfl rfl (x_add rfl rfl rfl (by constructor <;> omega)) ?_
  refine Lq (int (Int.tmod a m + m)) rfl rfl rfl rfl ?_
  refine L_nil ?_
  refine W_ret ?_
  refine ⟨_, _, res_run (rs := [.tmp 4]) (vs := [(int (Int.tmod a m + m))]) Tryd.results20 (.cons (.tmp rfl) .nil) rfl, ?_⟩
  exact ⟨ret_int ((tmod_mod hm).1 (of_decide_eq_true c1)), hst.grow⟩
 ·
  have q3 := of_decide_eq_false c1
  refine W_cond_false (by show Value.bool _ = _; exact congrArg Value.bool c1) ?_
  refine W_skip ?_
  refine W_seq ?_
  refine W_region_lit ?_
  refine Lq (int (Int.tmod a m)) rfl rfl rfl rfl ?_
  refine Lq (int (Int.tmod a m)) rfl rfl rfl rfl ?_
  refine L_nil ?_
  refine W_ret ?_
  refine ⟨_, _, res_run (rs := [.tmp 4]) (vs := [(int (Int.tmod a m))]) Tryd.results20 (.cons (.tmp rfl) .nil) rfl, ?_⟩
  exact ⟨ret_int ((tmod_mod hm).2 (of_decide_eq_false c1)), hst.grow⟩

theorem Place_spec {w : World} {R : Hp} (x : Act) (hx : x.Ok) (hR : Le R (hp w)) :
    Calls Tryd.prog 21 #[.agg #[int x.what, int x.a, int x.n]] w fun e w' => e = .returned (kk x.pl) ∧ Grow w w' := by
 have hst := Step.ro hR
 refine calls_of_W (n := 10) Tryd.func21 rfl Tryd.ntmps21 (Nat.le_of_ble_eq_true rfl) ?_
 refine W_seq ?_
 refine W_region_lit ?_
 refine L_new hst (v := fun b => ptr b 0) (ob := .cells #[(int x.what), (int x.a), (int x.n)] 32 (0, 0)) rfl rfl rfl (by kernel_rfl) (fun b1 w2 hst3 => ?_)
 refine L_new hst3 (v := fun b => ptr b 0) (ob := .cells #[(int 0), (int 0)] 43 (0, 0)) rfl rfl rfl (by kernel_rfl) (fun b4 w5 hst6 => ?_)
 refine L_nil ?_
 refine W_seq ?_
 refine W_region_draw [7] (fun w => Le R (hp w) ∧ Le (one b4 (.cells #[(int 0), (int 0)] 43 (0, 0))) (hp w) ∧ Le (one b1 (.cells #[(int x.what), (int x.a), (int x.n)] 32 (0, 0))) (hp w)) hmix (by decide +kernel) (fun _ _ h => h) ?_
 have hst8 := hst6.draws (w5.drawn + 1)
 generalize draws w5 (w5.drawn + 1) = w7 at hst8 ⊢
 refine LP (ptr b1 1) 0 rfl rfl rfl (fun u10 => (by kernel_rfl)) hst8.a2 ?_
 refine LT (int x.a) 1 rfl rfl rfl (fun u13 hF14 => (x_load rfl rfl (run_loadVar_one ti_3 (hF14.2.2 _ _ (one_self _ _)) rfl))) hst8.a2 ?_
 refine LP (ptr b1 1) 3 rfl rfl rfl (fun u18 => (by kernel_rfl)) hst8.a2 ?_
 refine LT (int x.a) 4 rfl rfl rfl (fun u23 hF24 => (x_load rfl rfl (run_loadVar_one ti_3 (hF24.2.2 _ _ (one_self _ _)) rfl))) hst8.a2 ?_
 refine LA_all [2] (by decide +kernel) (by simp) ?_
 intro i_ hi_
 simp only [List.mem_cons, List.not_mem_nil, or_false] at hi_
 subst hi_
 refine One_call (i := 2) rfl rfl rfl (Want.plain rfl) (x_call (vs := #[(int x.a), (int 2)]) rfl rfl (by kernel_rfl) ent_20) (Mod_spec x.a 2 hx.a (by decide) (by decide) hst8.rle') ?_
 rintro e30 w28 ⟨rfl, hw31⟩
 have hst29 := hst8.grown hw31
 refine ⟨_, rfl, (fun _ => hst29.a2), ?_⟩
 refine LA_all [5] (by decide +kernel) (by simp) ?_
 intro i_ hi_
 simp only [List.mem_cons, List.not_mem_nil, or_false] at hi_
 subst hi_
 refine One_call (i := 5) rfl rfl rfl (Want.plain rfl) (x_call (vs := #[(int x.a), (int 3)]) rfl rfl (by kernel_rfl) ent_20) (Mod_spec x.a 3 hx.a (by decide) (by decide) hst29.rle') ?_
 rintro e37 w35 ⟨rfl, hw38⟩
 have hst36 := hst29.grown hw38
 refine ⟨_, rfl, (fun _ => hst36.a2), ?_⟩
 refine LP (.agg #[(int (x.a % 2)), (int (x.a % 3))]) 6 rfl rfl rfl (fun u40 => (by kernel_rfl)) hst36.a2 ?_
 refine LA_all [7] (by decide +kernel) (by simp) ?_
 intro i_ hi_
 simp only [List.mem_cons, List.not_mem_nil, or_false] at hi_
 subst hi_
 obtain ⟨w43, hr45, hst44⟩ := run_storeW (P := Tryd.prog) (b := b4) (off := 0) (v := (.agg #[(int (x.a % 2)), (int (x.a % 3))])) hst36 0 ti_43 rfl rfl rfl rfl rfl rfl
 change Step _ _ _ _ _ [one b4 (.cells #[(int (x.a % 2)), (int (x.a % 3))] 43 (0, 0)), one b1 (.cells #[(int x.what), (int x.a), (int x.n)] 32 (0, 0))] at hst44
 refine One_skip (i := 7) rfl rfl (Want.plain rfl) (x_store rfl rfl rfl hr45) (fun h => absurd h (by decide +kernel)) ?_
 refine LA_done (by decide +kernel) ?_
 refine W_ret ?_
 refine ⟨_, _, res_run (rs := [.cell 2 43]) (vs := [(.agg #[(int (x.a % 2)), (int (x.a % 3))])]) Tryd.results21 (.cons (.cell rfl (run_loadVar_agg ti_43 (hst44.b 0) (l := [(int (x.a % 2)), (int (x.a % 3))]) rfl rfl)) .nil) rfl, ?_⟩
 exact ⟨rfl, hst44.grow⟩

theorem Exit_spec {w : World} {R : Hp} (x : Act) (hx : x.Ok) (hR : Le R (hp w)) :
    Calls Tryd.prog 28 #[.agg #[int x.what, int x.a, int x.n]] w fun e w' => e = .returned (int x.exit) ∧ Grow w w' := by
 have hst := Step.ro hR
 refine calls_of_W (n := 7) Tryd.func28 rfl Tryd.ntmps28 (Nat.le_of_ble_eq_true rfl) ?_
 refine W_seq ?_
 refine W_region_lit ?_
 refine L_new hst (v := fun b => ptr b 0) (ob := .cells #[(int x.what), (int x.a), (int x.n)] 32 (0, 0)) rfl rfl rfl (by kernel_rfl) (fun b1 w2 hst3 => ?_)
 refine Lq (int 0) rfl rfl rfl rfl ?_
 refine L_nil ?_
 refine W_seq ?_
 refine W_region_lit ?_
 refine Lq (ptr b1 2) rfl rfl rfl (by kernel_rfl) ?_
 refine Lq (int x.n) rfl rfl rfl (x_load rfl rfl (run_loadVar_one ti_3 (hst3.b 0) rfl)) ?_
 refine L_callG hst3 (v := (int (x.n % 4))) rfl rfl rfl (x_call (vs := #[(int x.n), (int 4)]) rfl rfl (by kernel_rfl) ent_20) (Mod_spec x.n 4 hx.n (by decide) (by decide) hst3.rle') (fun w4 hst5 => ?_)
 refine Lq (int (x.n % 4 - 1)) rfl rfl rfl (x_sub rfl rfl rfl (by constructor <;> omega)) ?_
 refine Lq (int (x.n % 4 - 1)) rfl rfl rfl rfl ?_
 refine L_nil ?_
 refine W_ret ?_
 refine ⟨_, _, res_run (rs := [.tmp 2]) (vs := [(int (x.n % 4 - 1))]) Tryd.results28 (.cons (.tmp rfl) .nil) rfl, ?_⟩
 exact ⟨rfl, hst5.grow⟩

theorem Times_spec {w : World} {R : Hp} (x : Act) (hx : x.Ok) (hR : Le R (hp w)) :
    Calls Tryd.prog 30 #[.agg #[int x.what, int x.a, int x.n]] w fun e w' => e = .returned (int (x.times : Int)) ∧ Grow w w' := by
 have hst := Step.ro hR
 refine calls_of_W (n := 7) Tryd.func30 rfl Tryd.ntmps30 (Nat.le_of_ble_eq_true rfl) ?_
 refine W_seq ?_
 refine W_region_lit ?_
 refine L_new hst (v := fun b => ptr b 0) (ob := .cells #[(int x.what), (int x.a), (int x.n)] 32 (0, 0)) rfl rfl rfl (by kernel_rfl) (fun b1 w2 hst3 => ?_)
 refine Lq (int 0) rfl rfl rfl rfl ?_
 refine L_nil ?_
 refine W_seq ?_
 refine W_region_lit ?_
 refine Lq (ptr b1 2) rfl rfl rfl (by kernel_rfl) ?_
 refine Lq (int x.n) rfl rfl rfl (x_load rfl rfl (run_loadVar_one ti_3 (hst3.b 0) rfl)) ?_
 refine L_callG hst3 (v := (int (x.n % 9))) rfl rfl rfl (x_call (vs := #[(int x.n), (int 9)]) rfl rfl (by kernel_rfl) ent_20) (Mod_spec x.n 9 hx.n (by decide) (by decide) hst3.rle') (fun w4 hst5 => ?_)
 refine Lq (int (1 + x.n % 9)) rfl rfl rfl (x_add rfl rfl rfl (by constructor <;> omega)) ?_
 refine Lq (int (1 + x.n % 9)) rfl rfl rfl rfl ?_
 refine L_nil ?_
 refine W_ret ?_
 refine ⟨_, _, res_run (rs := [.tmp 2]) (vs := [(int (1 + x.n % 9))]) Tryd.results30 (.cons (.tmp rfl) .nil) rfl, ?_⟩
 exact ⟨ret_int x.times_int.symm, hst5.grow⟩

theorem Error_spec {w : World} {R : Hp} (x : Act) (hx : x.Ok) (hR : Le R (hp w)) :
    Calls Tryd.prog 29 #[.agg #[int x.what, int x.a, int x.n]] w fun e w' => e = .returned (int x.err) ∧ Grow w w' := by
 have hst := Step.ro hR
 refine calls_of_W (n := 9) Tryd.func29 rfl Tryd.ntmps29 (Nat.le_of_ble_eq_true rfl) ?_
 refine W_seq ?_
 refine W_region_lit ?_
 refine L_new hst (v := fun b => ptr b 0) (ob := .cells #[(int x.what), (int x.a), (int x.n)] 32 (0, 0)) rfl rfl rfl (by kernel_rfl) (fun b1 w2 hst3 => ?_)
 refine Lq (int 0) rfl rfl rfl rfl ?_
 refine L_nil ?_
 refine W_seq ?_
 have hm3 : x.n % 3 = 0 ∨ x.n % 3 = 1 ∨ x.n % 3 = 2 := by omega
 rcases hm3 with hm3_ | hm3_ | hm3_
 ·
  refine W_region_lit ?_
  refine L_new hst3 (v := fun b => .slice (some ⟨b, 0, none⟩) 3 3) (ob := .cells #[(int 0), (int 30), (int 2)] 53 (0, 0)) rfl rfl rfl (by kernel_rfl) (fun b4 w5 hst6 => ?_)
  refine Lq (ptr b1 2) rfl rfl rfl (by kernel_rfl) ?_
  refine Lq (int x.n) rfl rfl rfl (x_load rfl rfl (run_loadVar_one ti_3 (hst6.b 1) rfl)) ?_
  refine L_callG hst6 (v := (int 0)) rfl rfl rfl (x_call (vs := #[(int x.n), (int 3)]) rfl rfl (by kernel_rfl) ent_20) (by have h_ := Mod_spec (w := w5) x.n 3 hx.n (by decide) (by decide) hst6.rle'; rw [hm3_] at h_; exact h_) (fun w7 hst8 => ?_)
  refine Lq (ptr b4 0) rfl rfl rfl (x_indexAddr' (k := 0) (len := 3) rfl sl_108 ti_53 rfl rfl (by decide)) ?_
  refine Lq (int 0) rfl rfl rfl (x_load rfl rfl (run_loadVar_one ti_53 (hst8.b 0) rfl)) ?_
  refine Lq (int 0) rfl rfl rfl rfl ?_
  refine L_nil ?_
  refine W_ret ?_
  refine ⟨_, _, res_run (rs := [.tmp 2]) (vs := [(int 0)]) Tryd.results29 (.cons (.tmp rfl) .nil) rfl, ?_⟩
  exact ⟨ret_int (Act.err0 hm3_).symm, hst8.grow⟩
 ·
  refine W_region_lit ?_
  refine L_new hst3 (v := fun b => .slice (some ⟨b, 0, none⟩) 3 3) (ob := .cells #[(int 0), (int 30), (int 2)] 53 (0, 0)) rfl rfl rfl (by kernel_rfl) (fun b9 w10 hst11 => ?_)
  refine Lq (ptr b1 2) rfl rfl rfl (by kernel_rfl) ?_
  refine Lq (int x.n) rfl rfl rfl (x_load rfl rfl (run_loadVar_one ti_3 (hst11.b 1) rfl)) ?_
  refine L_callG hst11 (v := (int 1)) rfl rfl rfl (x_call (vs := #[(int x.n), (int 3)]) rfl rfl (by kernel_rfl) ent_20) (by have h_ := Mod_spec (w := w10) x.n 3 hx.n (by decide) (by decide) hst11.rle'; rw [hm3_] at h_; exact h_) (fun w12 hst13 => ?_)
  refine Lq (ptr b9 1) rfl rfl rfl (x_indexAddr' (k := 1) (len := 3) rfl sl_108 ti_53 rfl rfl (by decide)) ?_
  refine Lq (int 30) rfl rfl rfl (x_load rfl rfl (run_loadVar_one ti_53 (hst13.b 0) rfl)) ?_
  refine Lq (int 30) rfl rfl rfl rfl ?_
  refine L_nil ?_
  refine W_ret ?_
  refine ⟨_, _, res_run (rs := [.tmp 2]) (vs := [(int 30)]) Tryd.results29 (.cons (.tmp rfl) .nil) rfl, ?_⟩
  exact ⟨ret_int (Act.err1 hm3_).symm, hst13.grow⟩
 ·
  refine W_region_lit ?_
  refine L_new hst3 (v := fun b => .slice (some ⟨b, 0, none⟩) 3 3) (ob := .cells #[(int 0), (int 30), (int 2)] 53 (0, 0)) rfl rfl rfl (by kernel_rfl) (fun b14 w15 hst16 => ?_)
  refine Lq (ptr b1 2) rfl rfl rfl (by kernel_rfl) ?_
  refine Lq (int x.n) rfl rfl rfl (x_load rfl rfl (run_loadVar_one ti_3 (hst16.b 1) rfl)) ?_
  refine L_callG hst16 (v := (int 2)) rfl rfl rfl (x_call (vs := #[(int x.n), (int 3)]) rfl rfl (by kernel_rfl) ent_20) (by have h_ := Mod_spec (w := w15) x.n 3 hx.n (by decide) (by decide) hst16.rle'; rw [hm3_] at h_; exact h_) (fun w17 hst18 => ?_)
  refine Lq (ptr b14 2) rfl rfl rfl (x_indexAddr' (k := 2) (len := 3) rfl sl_108 ti_53 rfl rfl (by decide)) ?_
  refine Lq (int 2) rfl rfl rfl (x_load rfl rfl (run_loadVar_one ti_53 (hst18.b 0) rfl)) ?_
  refine Lq (int 2) rfl rfl rfl rfl ?_
  refine L_nil ?_
  refine W_ret ?_
  refine ⟨_, _, res_run (rs := [.tmp 2]) (vs := [(int 2)]) Tryd.results29 (.cons (.tmp rfl) .nil) rfl, ?_⟩
  exact ⟨ret_int (Act.err2 hm3_).symm, hst18.grow⟩

set_option maxHeartbeats 4000000 in
theorem do_spec {w : World} {R c : Hp} {p : Nat} {s : PS} (x : Act) (hx : x.Ok) (hs : Sats w R [c]) (hprof : Prof R p s c) (hT : Tab R) (hn : s.n ≤ 999999990) :
    Calls Tryd.prog 12 #[ptr p 0, .agg #[int x.what, int x.a, int x.n]] w (Comes' w R [c] fun v' R' L' => ∃ c', v' = int ((s.act x).2 : Int) ∧ L' = [c'] ∧ Prof R' p (s.act x).1 c') := by
 have hst := Step.refl hs
 have ht9_ := x.times_le
 refine calls_of_W (n := 41) Tryd.func12 rfl Tryd.ntmps12 (Nat.le_of_ble_eq_true rfl) ?_
 refine W_seq ?_
 refine W_region_lit ?_
 refine L_new hst (v := fun b => ptr b 0) (ob := .cells #[(int x.what), (int x.a), (int x.n)] 32 (0, 0)) rfl rfl rfl (by kernel_rfl) (fun b1 w2 hst3 => ?_)
 refine Lq (int 0) rfl rfl rfl rfl ?_
 refine L_nil ?_
 refine W_seq ?_
 refine W_region_lit ?_
 refine Lq (int 0) rfl rfl rfl rfl ?_
 refine L_nil ?_
 refine W_seq ?_
 refine W_seq ?_
 refine W_region_lit ?_
 refine Lq (ptr b1 0) rfl rfl rfl (by kernel_rfl) ?_
 refine Lq (int x.what) rfl rfl rfl (x_load rfl rfl (run_loadVar_one ti_3 (hst3.b 0) rfl)) ?_
 refine L_callG hst3 (v := (int (x.what % 6))) rfl rfl rfl (x_call (vs := #[(int x.what), (int 6)]) rfl rfl (by kernel_rfl) ent_20) (Mod_spec x.what 6 hx.what (by decide) (by decide) hst3.rle') (fun w4 hst5 => ?_)
 refine L_nil ?_
 refine W_block ?_
 refine W_seq ?_
 refine W_region_lit ?_
 refine Lq (.bool ((x.what % 6) == 4)) rfl rfl rfl (by kernel_rfl) ?_
 refine Lq (.bool ((x.what % 6) == 4)) rfl rfl rfl rfl ?_
 refine L_nil ?_
 rcases Bool.eq_false_or_eq_true ((x.what % 6) == 4) with c6 | c6
 ·
  have q7 := eq_of_beq c6
  refine W_cond_true (by show Value.bool _ = _; exact congrArg Value.bool c6) ?_
  refine W_seq ?_
  refine W_region_draw [] (fun w => Le R (hp w) ∧ Le (one b1 (.cells #[(int x.what), (int x.a), (int x.n)] 32 (0, 0))) (hp w)) hmix (by decide +kernel) (fun _ _ h => h) ?_
  have hst9 := hst5.draws (w4.drawn + 1)
  generalize draws w4 (w4.drawn + 1) = w8 at hst9 ⊢
  refine LP (ptr p 0) 0 rfl rfl rfl (fun u11 => rfl) ⟨hst9.rle', hst9.g 0⟩ ?_
  refine LT (.agg #[(int x.what), (int x.a), (int x.n)]) 1 rfl rfl rfl (fun u14 hF15 => (x_load rfl rfl (run_loadVar_agg ti_32 (hF15.2 _ _ (one_self _ _)) (l := [(int x.what), (int x.a), (int x.n)]) rfl rfl))) ⟨hst9.rle', hst9.g 0⟩ ?_
  refine LT (.agg #[(int x.what), (int x.a), (int x.n)]) 3 rfl rfl rfl (fun u19 hF20 => (x_load rfl rfl (run_loadVar_agg ti_32 (hF20.2 _ _ (one_self _ _)) (l := [(int x.what), (int x.a), (int x.n)]) rfl rfl))) ⟨hst9.rle', hst9.g 0⟩ ?_
  refine LA_all [2] (by decide +kernel) (by simp) ?_
  intro i_ hi_
  simp only [List.mem_cons, List.not_mem_nil, or_false] at hi_
  subst hi_
  refine One_call (i := 2) rfl rfl rfl (Want.plain rfl) (x_call (vs := #[(.agg #[(int x.what), (int x.a), (int x.n)])]) rfl rfl (by kernel_rfl) ent_21) (Place_spec x hx hst9.rle') ?_
  rintro e26 w24 ⟨rfl, hw27⟩
  have hst25 := hst9.grown hw27
  refine ⟨_, rfl, (fun _ => ⟨hst25.rle', hst25.g 0⟩), ?_⟩
  refine LA_all [4] (by decide +kernel) (by simp) ?_
  intro i_ hi_
  simp only [List.mem_cons, List.not_mem_nil, or_false] at hi_
  subst hi_
  refine One_call (i := 4) rfl rfl rfl (Want.plain rfl) (x_call (vs := #[(.agg #[(int x.what), (int x.a), (int x.n)])]) rfl rfl (by kernel_rfl) ent_28) (Exit_spec x hx hst25.rle') ?_
  rintro e33 w31 ⟨rfl, hw34⟩
  have hst32 := hst25.grown hw34
  refine ⟨_, rfl, (fun _ => ⟨hst32.rle', hst32.g 0⟩), ?_⟩
  refine LA_all [5] (by decide +kernel) (by simp) ?_
  intro i_ hi_
  simp only [List.mem_cons, List.not_mem_nil, or_false] at hi_
  subst hi_
  have hst38 := (hst32.front 1 rfl rfl)
  refine One_callS (i := 5) [c] [one b1 (.cells #[(int x.what), (int x.a), (int x.n)] 32 (0, 0))] hst38 rfl rfl rfl (Want.plain rfl) (x_call (vs := #[(ptr p 0), (.agg #[(int x.pl.1), (int x.pl.2)]), (int x.exit)]) rfl rfl (by kernel_rfl) ent_24) (Left_spec (s := s) x.pl x.exit hx.exit (hst38.sats.take 1 rfl) hprof (hT.mono (Le.refl _)) (by omega)) (fun v39 w40 R41 L42 hp43 hle44 hst45 => ?_)
  obtain ⟨c46, hv47, rfl, hp48⟩ := hp43
  subst hv47
  have hprof49 : Prof R41 p (PS.left s x.pl x.exit).1 c46 := hp48
  refine ⟨(fun _ => ⟨(Le.trans hle44 hst45.rle'), hst45.g 1⟩), ?_⟩
  refine LA_done (by decide +kernel) ?_
  rcases Bool.eq_false_or_eq_true ((PS.left s x.pl x.exit).2) with c50 | c50
  ·
   refine W_cond_true (by show Value.bool _ = _; exact congrArg Value.bool c50) ?_
   refine W_region_lit ?_
   refine Lq (int 0) rfl rfl rfl rfl ?_
   refine Lq (int 1) rfl rfl rfl (by kernel_rfl) ?_
   refine Lq (int 1) rfl rfl rfl rfl ?_
   refine L_nil ?_
   refine W_seq ?_
   refine W_region_lit ?_
   refine Lq (int 1) rfl rfl rfl rfl ?_
   refine Lq (int 1) rfl rfl rfl rfl ?_
   refine L_nil ?_
   refine W_ret ?_
   refine ⟨_, _, res_run (rs := [.tmp 4]) (vs := [(int 1)]) Tryd.results12 (.cons (.tmp rfl) .nil) rfl, ?_⟩
   rw [act_4 (eq_of_beq c6)]
   exact ⟨_, _, _, rfl, (hst45).keepN 1 rfl, _, (by show _ = int ((bN (PS.left s x.pl x.exit).2 : Nat) : Int); rw [c50]; rfl), rfl, hprof49⟩
  ·
   refine W_cond_false (by show Value.bool _ = _; exact congrArg Value.bool c50) ?_
   refine W_skip ?_
   refine W_seq ?_
   refine W_region_lit ?_
   refine Lq (int 0) rfl rfl rfl rfl ?_
   refine Lq (int 0) rfl rfl rfl rfl ?_
   refine L_nil ?_
   refine W_ret ?_
   refine ⟨_, _, res_run (rs := [.tmp 4]) (vs := [(int 0)]) Tryd.results12 (.cons (.tmp rfl) .nil) rfl, ?_⟩
   rw [act_4 (eq_of_beq c6)]
   exact ⟨_, _, _, rfl, (hst45).keepN 1 rfl, _, (by show _ = int ((bN (PS.left s x.pl x.exit).2 : Nat) : Int); rw [c50]; rfl), rfl, hprof49⟩
 ·
  have q51 := ne_of_beq_false c6
  refine W_cond_false (by show Value.bool _ = _; exact congrArg Value.bool c6) ?_
  refine W_seq ?_
  refine W_region_lit ?_
  refine Lq (.bool ((x.what % 6) == 5)) rfl rfl rfl (by kernel_rfl) ?_
  refine Lq (.bool ((x.what % 6) == 5)) rfl rfl rfl rfl ?_
  refine L_nil ?_
  rcases Bool.eq_false_or_eq_true ((x.what % 6) == 5) with c52 | c52
  ·
   have q53 := eq_of_beq c52
   refine W_cond_true (by show Value.bool _ = _; exact congrArg Value.bool c52) ?_
   refine W_region_draw [] (fun w => Le R (hp w) ∧ Le (one b1 (.cells #[(int x.what), (int x.a), (int x.n)] 32 (0, 0))) (hp w)) hmix (by decide +kernel) (fun _ _ h => h) ?_
   have hst55 := hst5.draws (w4.drawn + 1)
   generalize draws w4 (w4.drawn + 1) = w54 at hst55 ⊢
   refine LP (ptr p 0) 0 rfl rfl rfl (fun u57 => rfl) ⟨hst55.rle', hst55.g 0⟩ ?_
   refine LT (.agg #[(int x.what), (int x.a), (int x.n)]) 1 rfl rfl rfl (fun u60 hF61 => (x_load rfl rfl (run_loadVar_agg ti_32 (hF61.2 _ _ (one_self _ _)) (l := [(int x.what), (int x.a), (int x.n)]) rfl rfl))) ⟨hst55.rle', hst55.g 0⟩ ?_
   refine LT (.agg #[(int x.what), (int x.a), (int x.n)]) 3 rfl rfl rfl (fun u65 hF66 => (x_load rfl rfl (run_loadVar_agg ti_32 (hF66.2 _ _ (one_self _ _)) (l := [(int x.what), (int x.a), (int x.n)]) rfl rfl))) ⟨hst55.rle', hst55.g 0⟩ ?_
   refine LA_all [2] (by decide +kernel) (by simp) ?_
   intro i_ hi_
   simp only [List.mem_cons, List.not_mem_nil, or_false] at hi_
   subst hi_
   refine One_call (i := 2) rfl rfl rfl (Want.plain rfl) (x_call (vs := #[(.agg #[(int x.what), (int x.a), (int x.n)])]) rfl rfl (by kernel_rfl) ent_21) (Place_spec x hx hst55.rle') ?_
   rintro e72 w70 ⟨rfl, hw73⟩
   have hst71 := hst55.grown hw73
   refine ⟨_, rfl, (fun _ => ⟨hst71.rle', hst71.g 0⟩), ?_⟩
   refine LA_all [4] (by decide +kernel) (by simp) ?_
   intro i_ hi_
   simp only [List.mem_cons, List.not_mem_nil, or_false] at hi_
   subst hi_
   refine One_call (i := 4) rfl rfl rfl (Want.plain rfl) (x_call (vs := #[(.agg #[(int x.what), (int x.a), (int x.n)])]) rfl rfl (by kernel_rfl) ent_29) (Error_spec x hx hst71.rle') ?_
   rintro e79 w77 ⟨rfl, hw80⟩
   have hst78 := hst71.grown hw80
   refine ⟨_, rfl, (fun _ => ⟨hst78.rle', hst78.g 0⟩), ?_⟩
   refine LA_all [5] (by decide +kernel) (by simp) ?_
   intro i_ hi_
   simp only [List.mem_cons, List.not_mem_nil, or_false] at hi_
   subst hi_
   have hst84 := (hst78.front 1 rfl rfl)
   refine One_callS (i := 5) [c] [one b1 (.cells #[(int x.what), (int x.a), (int x.n)] 32 (0, 0))] hst84 rfl rfl rfl (Want.plain rfl) (x_call (vs := #[(ptr p 0), (.agg #[(int x.pl.1), (int x.pl.2)]), (int x.err)]) rfl rfl (by kernel_rfl) ent_26) (Failed_spec (s := s) x.pl x.err hx.err (hst84.sats.take 1 rfl) hprof (hT.mono (Le.refl _)) (by omega)) (fun v85 w86 R87 L88 hp89 hle90 hst91 => ?_)
   obtain ⟨c92, hv93, rfl, hp94⟩ := hp89
   subst hv93
   have hprof95 : Prof R87 p (PS.failed s x.pl x.err) c92 := hp94
   refine ⟨(fun _ => ⟨(Le.trans hle90 hst91.rle'), hst91.g 1⟩), ?_⟩
   refine LA_done (by decide +kernel) ?_
   refine W_seq ?_
   refine W_region_lit ?_
   refine Lq (int 0) rfl rfl rfl rfl ?_
   refine Lq (int 0) rfl rfl rfl rfl ?_
   refine L_nil ?_
   refine W_ret ?_
   refine ⟨_, _, res_run (rs := [.tmp 4]) (vs := [(int 0)]) Tryd.results12 (.cons (.tmp rfl) .nil) rfl, ?_⟩
   rw [act_5 (eq_of_beq c52)]
   exact ⟨_, _, _, rfl, (hst91).keepN 1 rfl, _, rfl, rfl, hprof95⟩
  ·
   have q96 := ne_of_beq_false c52
   refine W_cond_false (by show Value.bool _ = _; exact congrArg Value.bool c52) ?_
   refine W_seq ?_
   refine W_region_lit ?_
   refine Lq (int 0) rfl rfl rfl rfl ?_
   refine L_nil ?_
   refine W_block ?_
   refine W_loop (I := fun σ w_ m_ => ∃ (σ0 : Fr) (R_ : Hp) (k_ : Nat) (n_ : Nat) (cP : Hp), σ = upd (upd (upd (upd (upd (upd (upd (upd (upd (upd (upd (upd (upd σ0 0 (ptr p 0)) 1 (.agg #[(int x.what), (int x.a), (int x.n)])) 3 (ptr b1 0)) 4 (int 0)) 5 (int (n_ : Int))) 6 (int (k_ : Int))) 7 (ptr b1 0)) 8 (int x.what)) 9 (int (x.what % 6))) 22 (.bool ((x.what % 6) == 4))) 23 (.bool ((x.what % 6) == 4))) 32 (.bool ((x.what % 6) == 5))) 33 (.bool ((x.what % 6) == 5)) ∧ mks (σ0 0) = [] ∧ Step w R [c] w_ R_ [cP, one b1 (.cells #[(int x.what), (int x.a), (int x.n)] 32 (0, 0))] ∧ Le R R_ ∧ Prof R_ p (PS.backs s x.pl k_).1 cP ∧ k_ ≤ x.times ∧ n_ ≤ k_ ∧ n_ = (PS.backs s x.pl k_).2 ∧ m_ = x.times - k_) (m := x.times - 0) ?_ ?_
   ·
    exact ⟨_, _, 0, 0, c, (upd_of (upd_of (upd_of (upd_of (upd_of (upd_of (upd_of (upd_of (upd_of (upd_of (upd_of (upd_of (upd_of rfl rfl) rfl) rfl) rfl) rfl) rfl) rfl) rfl) rfl) rfl) rfl) rfl) rfl), rfl, (hst5.front 1 rfl rfl), Le.refl _, hprof, (by omega), (by omega), rfl, rfl⟩
   ·
    rintro m110 σ_ w99 ⟨s105, R106, k_107, n_108, cP109, rfl, hmk97, hst98, hle100, hi101, hf102, hf103, hf104, rfl⟩
    refine W_seq ?_
    refine W_seq ?_
    refine W_region_lit ?_
    refine Lq (int (k_107 : Int)) rfl rfl rfl rfl ?_
    refine Lq (.agg #[(int x.what), (int x.a), (int x.n)]) rfl rfl rfl (x_load rfl rfl (run_loadVar_agg ti_32 (hst98.b 1) (l := [(int x.what), (int x.a), (int x.n)]) rfl rfl)) ?_
    refine L_callG hst98 (v := (int (x.times : Int))) rfl rfl rfl (x_call (vs := #[(.agg #[(int x.what), (int x.a), (int x.n)])]) rfl rfl (by kernel_rfl) ent_30) (Times_spec x hx hst98.rle') (fun w111 hst112 => ?_)
    refine Lq (.bool (decide ((k_107 : Int) < (x.times : Int)))) rfl rfl rfl (by kernel_rfl) ?_
    refine L_nil ?_
    rcases Bool.eq_false_or_eq_true (decide ((k_107 : Int) < (x.times : Int))) with c113 | c113
    ·
     have q114 := of_decide_eq_true c113
     refine W_cond_true (by show Value.bool _ = _; exact congrArg Value.bool c113) ?_
     refine W_skip ?_
     refine W_seq ?_
     refine W_block ?_
     refine W_seq ?_
     refine W_region_lit ?_
     refine Lq (ptr p 0) rfl rfl rfl rfl ?_
     refine Lq (.agg #[(int x.what), (int x.a), (int x.n)]) rfl rfl rfl (x_load rfl rfl (run_loadVar_agg ti_32 (hst112.b 1) (l := [(int x.what), (int x.a), (int x.n)]) rfl rfl)) ?_
     refine L_callG hst112 (v := (.agg #[(int x.pl.1), (int x.pl.2)])) rfl rfl rfl (x_call (vs := #[(.agg #[(int x.what), (int x.a), (int x.n)])]) rfl rfl (by kernel_rfl) ent_21) (Place_spec x hx hst112.rle') (fun w115 hst116 => ?_)
     have hst117 := hst116
     refine L_callS [cP109] [one b1 (.cells #[(int x.what), (int x.a), (int x.n)] 32 (0, 0))] hst117 rfl rfl rfl (x_call (vs := #[(ptr p 0), (.agg #[(int x.pl.1), (int x.pl.2)])]) rfl rfl (by kernel_rfl) ent_23) (Back_spec (s := (PS.backs s x.pl k_107).1) x.pl  (hst117.sats.take 1 rfl) hi101 (hT.mono hle100) (by have hb_ := n_backs s x.pl k_107; have ht_ := x.times_le; omega)) (fun v118 w119 R120 L121 hp122 hle123 hst124 => ?_)
     obtain ⟨c125, hv126, rfl, hp127⟩ := hp122
     subst hv126
     have hprof128 : Prof R120 p (PS.back (PS.backs s x.pl k_107).1 x.pl).1 c125 := hp127
     refine L_nil ?_
     rcases Bool.eq_false_or_eq_true ((PS.back (PS.backs s x.pl k_107).1 x.pl).2) with c129 | c129
     ·
      refine W_cond_true (by show Value.bool _ = _; exact congrArg Value.bool c129) ?_
      refine W_region_lit ?_
      refine Lq (int (n_108 : Int)) rfl rfl rfl rfl ?_
      refine Lq (int ((n_108 + 1 : Nat) : Int)) rfl rfl rfl (x_add_nat rfl rfl rfl (by omega)) ?_
      refine Lq (int ((n_108 + 1 : Nat) : Int)) rfl rfl rfl rfl ?_
      refine L_nil ?_
      refine W_region_lit ?_
      refine Lq (int (k_107 : Int)) rfl rfl rfl rfl ?_
      refine Lq (int ((k_107 + 1 : Nat) : Int)) rfl rfl rfl (x_add_nat rfl rfl rfl (by omega)) ?_
      refine Lq (int ((k_107 + 1 : Nat) : Int)) rfl rfl rfl rfl ?_
      refine L_nil ?_
      refine ⟨x.times - (k_107 + 1), by first | omega | (simp only [List.length_append, List.length_cons, List.length_nil]; omega), ?_⟩
      exact ⟨_, _, (k_107 + 1), (n_108 + 1), c125, (upd_of (upd_of (upd_of (upd_of (upd_of (upd_of (upd_of (upd_of (upd_of (upd_of (upd_of (upd_of (upd_of rfl rfl) rfl) rfl) rfl) rfl) rfl) rfl) rfl) rfl) rfl) rfl) rfl) rfl), hmk97, ((hst124.front 1 rfl rfl).front 1 rfl rfl), (Le.trans hle100 hle123), hprof128, (by omega), (by omega), (by show _ = _ + bN _; rw [c129, hf104]; rfl), rfl⟩
     ·
      refine W_cond_false (by show Value.bool _ = _; exact congrArg Value.bool c129) ?_
      refine W_skip ?_
      refine W_region_lit ?_
      refine Lq (int (k_107 : Int)) rfl rfl rfl rfl ?_
      refine Lq (int ((k_107 + 1 : Nat) : Int)) rfl rfl rfl (x_add_nat rfl rfl rfl (by omega)) ?_
      refine Lq (int ((k_107 + 1 : Nat) : Int)) rfl rfl rfl rfl ?_
      refine L_nil ?_
      refine ⟨x.times - (k_107 + 1), by first | omega | (simp only [List.length_append, List.length_cons, List.length_nil]; omega), ?_⟩
      exact ⟨_, _, (k_107 + 1), n_108, c125, (upd_of (upd_of (upd_of (upd_of (upd_of (upd_of (upd_of (upd_of (upd_of (upd_of (upd_of (upd_of (upd_of rfl rfl) rfl) rfl) rfl) rfl) rfl) rfl) rfl) rfl) rfl) rfl) rfl) rfl), hmk97, ((hst124.front 1 rfl rfl).front 1 rfl rfl), (Le.trans hle100 hle123), hprof128, (by omega), (by omega), (by show _ = _ + bN _; rw [c129, hf104]; rfl), rfl⟩
    ·
     have q130 := of_decide_eq_false c113
     refine W_cond_false (by show Value.bool _ = _; exact congrArg Value.bool c113) ?_
     refine W_exit ?_
     refine W_seq ?_
     refine W_region_lit ?_
     refine Lq (int (n_108 : Int)) rfl rfl rfl rfl ?_
     refine Lq (int (n_108 : Int)) rfl rfl rfl rfl ?_
     refine L_nil ?_
     refine W_ret ?_
     refine ⟨_, _, res_run (rs := [.tmp 4]) (vs := [(int (n_108 : Int))]) Tryd.results12 (.cons (.tmp rfl) .nil) hmk97, ?_⟩
     have hk_ : k_107 = x.times := by omega
     subst hk_
     rw [act_b (ne_of_beq_false c6) (ne_of_beq_false c52)]
     exact ⟨_, _, _, rfl, (hst112).keepN 1 rfl, _, (by rw [hf104]; rfl), rfl, hi101⟩

set_option maxHeartbeats 4000000 in
theorem made_spec {w : World} {R : Hp} {a b c d : Int} (hs : Sats w R []) (ha : I64 a) (hb : I64 b) (hc : I64 c) (hd : I64 d) :
    Calls Tryd.prog 11 #[.agg #[int a, int b, int c, int d]] w (Comes' w R [] fun v' R' L' => ∃ p c' m, v' = .tuple #[ptr p 0, ptr m 0] ∧ L' = [c', one m (.cells #[int (1 + a % 3), int (1 + b % 4), int (1 + b % 4 + 1 + c % 5), int (1 + d % 3), .slice none 0 0, .slice none 0 0] 41 (0, 0))] ∧ Prof R' p (madeP a b c d) c') := by
 have hst := Step.refl hs
 refine calls_of_W (n := 48) Tryd.func11 rfl Tryd.ntmps11 (Nat.le_of_ble_eq_true rfl) ?_
 refine W_seq ?_
 refine W_region_lit ?_
 refine L_new hst (v := fun b => ptr b 0) (ob := .cells #[(int a), (int b), (int c), (int d)] 23 (0, 0)) rfl rfl rfl (by kernel_rfl) (fun b1 w2 hst3 => ?_)
 refine Lq (.pointer none) rfl rfl rfl rfl ?_
 refine Lq (.pointer none) rfl rfl rfl rfl ?_
 refine L_nil ?_
 refine W_seq ?_
 refine W_region_draw [] (fun w => Le R (hp w) ∧ Le (one b1 (.cells #[(int a), (int b), (int c), (int d)] 23 (0, 0))) (hp w)) hmix (by decide +kernel) (fun _ _ h => h) ?_
 have hst5 := hst3.draws (w2.drawn + 1)
 generalize draws w2 (w2.drawn + 1) = w4 at hst5 ⊢
 refine LP (ptr b1 0) 0 rfl rfl rfl (fun u7 => (by kernel_rfl)) hst5.a1 ?_
 refine LT (int a) 1 rfl rfl rfl (fun u10 hF11 => (x_load rfl rfl (run_loadVar_one ti_3 (hF11.2 _ _ (one_self _ _)) rfl))) hst5.a1 ?_
 refine LP (ptr b1 1) 4 rfl rfl rfl (fun u15 => (by kernel_rfl)) hst5.a1 ?_
 refine LT (int b) 5 rfl rfl rfl (fun u20 hF21 => (x_load rfl rfl (run_loadVar_one ti_3 (hF21.2 _ _ (one_self _ _)) rfl))) hst5.a1 ?_
 refine LA_all [2] (by decide +kernel) (by simp) ?_
 intro i_ hi_
 simp only [List.mem_cons, List.not_mem_nil, or_false] at hi_
 subst hi_
 refine One_call (i := 2) rfl rfl rfl (Want.plain rfl) (x_call (vs := #[(int a), (int 3)]) rfl rfl (by kernel_rfl) ent_20) (Mod_spec a 3 ha (by decide) (by decide) hst5.rle') ?_
 rintro e27 w25 ⟨rfl, hw28⟩
 have hst26 := hst5.grown hw28
 refine ⟨_, rfl, (fun _ => hst26.a1), ?_⟩
 refine LP (int (1 + a % 3)) 3 rfl rfl rfl (fun u30 => (x_add rfl rfl rfl (by constructor <;> omega))) hst26.a1 ?_
 refine LA_all [6] (by decide +kernel) (by simp) ?_
 intro i_ hi_
 simp only [List.mem_cons, List.not_mem_nil, or_false] at hi_
 subst hi_
 refine One_call (i := 6) rfl rfl rfl (Want.plain rfl) (x_call (vs := #[(int b), (int 4)]) rfl rfl (by kernel_rfl) ent_20) (Mod_spec b 4 hb (by decide) (by decide) hst26.rle') ?_
 rintro e37 w35 ⟨rfl, hw38⟩
 have hst36 := hst26.grown hw38
 refine ⟨_, rfl, (fun _ => hst36.a1), ?_⟩
 refine LP (int (1 + b % 4)) 7 rfl rfl rfl (fun u40 => (x_add rfl rfl rfl (by constructor <;> omega))) hst36.a1 ?_
 refine LP (int (1 + a % 3)) 8 rfl rfl rfl (fun u43 => rfl) hst36.a1 ?_
 refine LP (int (1 + b % 4)) 9 rfl rfl rfl (fun u46 => rfl) hst36.a1 ?_
 refine LA_done (by decide +kernel) ?_
 refine W_seq ?_
 refine W_region_draw [] (fun w => Le R (hp w) ∧ Le (one b1 (.cells #[(int a), (int b), (int c), (int d)] 23 (0, 0))) (hp w)) hmix (by decide +kernel) (fun _ _ h => h) ?_
 have hst49 := hst36.draws (w35.drawn + 1)
 generalize draws w35 (w35.drawn + 1) = w48 at hst49 ⊢
 refine LP (int (1 + b % 4)) 0 rfl rfl rfl (fun u51 => rfl) hst49.a1 ?_
 refine LP (int (1 + b % 4 + 1)) 1 rfl rfl rfl (fun u54 => (x_add rfl rfl rfl (by constructor <;> omega))) hst49.a1 ?_
 refine LP (ptr b1 2) 2 rfl rfl rfl (fun u57 => (by kernel_rfl)) hst49.a1 ?_
 refine LT (int c) 3 rfl rfl rfl (fun u60 hF61 => (x_load rfl rfl (run_loadVar_one ti_3 (hF61.2 _ _ (one_self _ _)) rfl))) hst49.a1 ?_
 refine LP (ptr b1 3) 6 rfl rfl rfl (fun u65 => (by kernel_rfl)) hst49.a1 ?_
 refine LT (int d) 7 rfl rfl rfl (fun u70 hF71 => (x_load rfl rfl (run_loadVar_one ti_3 (hF71.2 _ _ (one_self _ _)) rfl))) hst49.a1 ?_
 refine LA_all [4] (by decide +kernel) (by simp) ?_
 intro i_ hi_
 simp only [List.mem_cons, List.not_mem_nil, or_false] at hi_
 subst hi_
 refine One_call (i := 4) rfl rfl rfl (Want.plain rfl) (x_call (vs := #[(int c), (int 5)]) rfl rfl (by kernel_rfl) ent_20) (Mod_spec c 5 hc (by decide) (by decide) hst49.rle') ?_
 rintro e77 w75 ⟨rfl, hw78⟩
 have hst76 := hst49.grown hw78
 refine ⟨_, rfl, (fun _ => hst76.a1), ?_⟩
 refine LP (int (1 + b % 4 + 1 + c % 5)) 5 rfl rfl rfl (fun u80 => (x_add rfl rfl rfl (by constructor <;> omega))) hst76.a1 ?_
 refine LA_all [8] (by decide +kernel) (by simp) ?_
 intro i_ hi_
 simp only [List.mem_cons, List.not_mem_nil, or_false] at hi_
 subst hi_
 refine One_call (i := 8) rfl rfl rfl (Want.plain rfl) (x_call (vs := #[(int d), (int 3)]) rfl rfl (by kernel_rfl) ent_20) (Mod_spec d 3 hd (by decide) (by decide) hst76.rle') ?_
 rintro e87 w85 ⟨rfl, hw88⟩
 have hst86 := hst76.grown hw88
 refine ⟨_, rfl, (fun _ => hst86.a1), ?_⟩
 refine LP (int (1 + d % 3)) 9 rfl rfl rfl (fun u90 => (x_add rfl rfl rfl (by constructor <;> omega))) hst86.a1 ?_
 refine LP (int (1 + b % 4 + 1 + c % 5)) 10 rfl rfl rfl (fun u93 => rfl) hst86.a1 ?_
 refine LP (int (1 + d % 3)) 11 rfl rfl rfl (fun u96 => rfl) hst86.a1 ?_
 refine LA_done (by decide +kernel) ?_
 refine W_seq ?_
 refine W_region_lit ?_
 refine Lq (int (1 + a % 3)) rfl rfl rfl rfl ?_
 refine Lq (int (1 + b % 4)) rfl rfl rfl rfl ?_
 refine Lq (int (1 + b % 4 + 1 + c % 5)) rfl rfl rfl rfl ?_
 refine Lq (int (1 + d % 3)) rfl rfl rfl rfl ?_
 have hst98 := hst86
 refine L_callS [] [one b1 (.cells #[(int a), (int b), (int c), (int d)] 23 (0, 0))] hst98 rfl rfl rfl (x_call (vs := #[(int (1 + a % 3)), (int (1 + b % 4)), (int (1 + b % 4 + 1 + c % 5)), (int (1 + d % 3))]) rfl rfl (by kernel_rfl) ent_22) (New_spec (a := 1 + a % 3) (b := 1 + b % 4) (c := 1 + b % 4 + 1 + c % 5) (d := 1 + d % 3) (hst98.sats.take 0 rfl) (by omega) (by omega) (by omega) (by omega)) (fun v99 w100 R101 L102 hp103 hle104 hst105 => ?_)
 obtain ⟨p106, c107, rfl, rfl, hp108⟩ := hp103
 have hprof109 : Prof R101 p106 (⟨1 + a % 3, 1 + b % 4, 1 + b % 4 + 1 + c % 5, 1 + d % 3, [], [], 0⟩ : PS) c107 := hp108
 refine Lq (.tuple #[(ptr p106 0), (int 0)]) rfl rfl rfl rfl ?_
 refine Lq (ptr p106 0) rfl rfl rfl (by kernel_rfl) ?_
 refine Lq (int 0) rfl rfl rfl (by kernel_rfl) ?_
 refine Lq (ptr p106 0) rfl rfl rfl rfl ?_
 refine Lq (int 0) rfl rfl rfl rfl ?_
 refine L_nil ?_
 refine W_seq ?_
 refine W_region_lit ?_
 refine Lq (int (1 + a % 3)) rfl rfl rfl rfl ?_
 refine Lq (int (1 + b % 4)) rfl rfl rfl rfl ?_
 refine Lq (int (1 + b % 4 + 1 + c % 5)) rfl rfl rfl rfl ?_
 refine Lq (int (1 + d % 3)) rfl rfl rfl rfl ?_
 refine L_call rfl rfl rfl (x_call (vs := #[(int (1 + a % 3)), (int (1 + b % 4)), (int (1 + b % 4 + 1 + c % 5)), (int (1 + d % 3))]) rfl rfl (by kernel_rfl) ent_25) ?_ (fun _ _ h => h)
 refine calls_of_W (n := 39) Tryd.func25 rfl Tryd.ntmps25 (Nat.le_of_ble_eq_true rfl) ?_
 refine W_seq ?_
 refine W_region_lit ?_
 refine Lq (.pointer none) rfl rfl rfl rfl ?_
 refine Lq (int 0) rfl rfl rfl rfl ?_
 refine L_nil ?_
 refine W_seq ?_
 refine W_seq ?_
 refine W_region_lit ?_
 refine Lq (int (1 + a % 3)) rfl rfl rfl rfl ?_
 refine L_call rfl rfl rfl (x_call (vs := #[(int (1 + a % 3)), (int 1), (int 1000)]) rfl rfl (by kernel_rfl) ent_49) ?_ (fun _ _ h => h)
 refine calls_of_W (n := 15) Tryd.func49 rfl Tryd.ntmps49 (Nat.le_of_ble_eq_true rfl) ?_
 refine W_seq ?_
 refine W_region_lit ?_
 refine Lq (.bool false) rfl rfl rfl rfl ?_
 refine L_nil ?_
 refine W_seq ?_
 refine W_region_lit ?_
 refine Lq (int (1 + a % 3)) rfl rfl rfl rfl ?_
 refine Lq (int 1) rfl rfl rfl rfl ?_
 refine Lq (.bool (decide (1 + a % 3 ≥ 1))) rfl rfl rfl (by kernel_rfl) ?_
 refine Lq (.bool (decide (1 + a % 3 ≥ 1))) rfl rfl rfl rfl ?_
 have c110 : (decide (1 + a % 3 ≥ 1)) = true := decide_eq_true (by omega)
 have q111 := of_decide_eq_true c110
 refine L_guard rfl rfl rfl rfl c110 ?_
 refine Lq (int (1 + a % 3)) rfl rfl rfl rfl ?_
 refine L_guard rfl rfl rfl rfl c110 ?_
 refine Lq (int 1000) rfl rfl rfl rfl ?_
 refine L_guard rfl rfl rfl rfl c110 ?_
 refine Lq (.bool (decide (1 + a % 3 ≤ 1000))) rfl rfl rfl (by kernel_rfl) ?_
 refine Lq (.bool (decide (1 + a % 3 ≤ 1000))) rfl rfl rfl (x_pick rfl rfl (by rw [c110]; rfl)) ?_
 refine Lq (.bool (decide (1 + a % 3 ≤ 1000))) rfl rfl rfl rfl ?_
 refine L_nil ?_
 refine W_ret ?_
 refine ⟨_, _, res_run (rs := [.tmp 6]) (vs := [(.bool (decide (1 + a % 3 ≤ 1000)))]) Tryd.results49 (.cons (.tmp rfl) .nil) rfl, ?_⟩
 refine ⟨_, rfl, ?_⟩
 refine Lq (.bool (!(decide (1 + a % 3 ≤ 1000)))) rfl rfl rfl rfl ?_
 refine Lq (.bool (!(decide (1 + a % 3 ≤ 1000)))) rfl rfl rfl rfl ?_
 have c112 : (decide (1 + a % 3 ≤ 1000)) = true := decide_eq_true (by omega)
 have q113 := of_decide_eq_true c112
 refine L_guard rfl rfl rfl rfl (by rw [c112]; rfl) ?_
 refine Lq (int (1 + b % 4)) rfl rfl rfl rfl ?_
 refine L_guard rfl rfl rfl rfl (by rw [c112]; rfl) ?_
 refine L_call rfl rfl rfl (x_call (vs := #[(int (1 + b % 4)), (int 1), (int 1000000)]) rfl rfl (by kernel_rfl) ent_49) ?_ (fun _ _ h => h)
 refine calls_of_W (n := 15) Tryd.func49 rfl Tryd.ntmps49 (Nat.le_of_ble_eq_true rfl) ?_
 refine W_seq ?_
 refine W_region_lit ?_
 refine Lq (.bool false) rfl rfl rfl rfl ?_
 refine L_nil ?_
 refine W_seq ?_
 refine W_region_lit ?_
 refine Lq (int (1 + b % 4)) rfl rfl rfl rfl ?_
 refine Lq (int 1) rfl rfl rfl rfl ?_
 refine Lq (.bool (decide (1 + b % 4 ≥ 1))) rfl rfl rfl (by kernel_rfl) ?_
 refine Lq (.bool (decide (1 + b % 4 ≥ 1))) rfl rfl rfl rfl ?_
 have c114 : (decide (1 + b % 4 ≥ 1)) = true := decide_eq_true (by omega)
 have q115 := of_decide_eq_true c114
 refine L_guard rfl rfl rfl rfl c114 ?_
 refine Lq (int (1 + b % 4)) rfl rfl rfl rfl ?_
 refine L_guard rfl rfl rfl rfl c114 ?_
 refine Lq (int 1000000) rfl rfl rfl rfl ?_
 refine L_guard rfl rfl rfl rfl c114 ?_
 refine Lq (.bool (decide (1 + b % 4 ≤ 1000000))) rfl rfl rfl (by kernel_rfl) ?_
 refine Lq (.bool (decide (1 + b % 4 ≤ 1000000))) rfl rfl rfl (x_pick rfl rfl (by rw [c114]; rfl)) ?_
 refine Lq (.bool (decide (1 + b % 4 ≤ 1000000))) rfl rfl rfl rfl ?_
 refine L_nil ?_
 refine W_ret ?_
 refine ⟨_, _, res_run (rs := [.tmp 6]) (vs := [(.bool (decide (1 + b % 4 ≤ 1000000)))]) Tryd.results49 (.cons (.tmp rfl) .nil) rfl, ?_⟩
 refine ⟨_, rfl, ?_⟩
 refine L_guard rfl rfl rfl rfl (by rw [c112]; rfl) ?_
 refine Lq (.bool (!(decide (1 + b % 4 ≤ 1000000)))) rfl rfl rfl rfl ?_
 refine Lq (.bool (!(decide (1 + b % 4 ≤ 1000000)))) rfl rfl rfl (x_pick rfl rfl (by rw [c112]; rfl)) ?_
 refine Lq (.bool (!(decide (1 + b % 4 ≤ 1000000)))) rfl rfl rfl rfl ?_
 have c116 : (decide (1 + b % 4 ≤ 1000000)) = true := decide_eq_true (by omega)
 have q117 := of_decide_eq_true c116
 refine L_guard rfl rfl rfl rfl (by rw [c116]; rfl) ?_
 refine Lq (int (1 + b % 4 + 1 + c % 5)) rfl rfl rfl rfl ?_
 refine L_guard rfl rfl rfl rfl (by rw [c116]; rfl) ?_
 refine L_call rfl rfl rfl (x_call (vs := #[(int (1 + b % 4 + 1 + c % 5)), (int 1), (int 1000000)]) rfl rfl (by kernel_rfl) ent_49) ?_ (fun _ _ h => h)
 refine calls_of_W (n := 15) Tryd.func49 rfl Tryd.ntmps49 (Nat.le_of_ble_eq_true rfl) ?_
 refine W_seq ?_
 refine W_region_lit ?_
 refine Lq (.bool false) rfl rfl rfl rfl ?_
 refine L_nil ?_
 refine W_seq ?_
 refine W_region_lit ?_
 refine Lq (int (1 + b % 4 + 1 + c % 5)) rfl rfl rfl rfl ?_
 refine Lq (int 1) rfl rfl rfl rfl ?_
 refine Lq (.bool (decide (1 + b % 4 + 1 + c % 5 ≥ 1))) rfl rfl rfl (by kernel_rfl) ?_
 refine Lq (.bool (decide (1 + b % 4 + 1 + c % 5 ≥ 1))) rfl rfl rfl rfl ?_
 have c118 : (decide (1 + b % 4 + 1 + c % 5 ≥ 1)) = true := decide_eq_true (by omega)
 have q119 := of_decide_eq_true c118
 refine L_guard rfl rfl rfl rfl c118 ?_
 refine Lq (int (1 + b % 4 + 1 + c % 5)) rfl rfl rfl rfl ?_
 refine L_guard rfl rfl rfl rfl c118 ?_
 refine Lq (int 1000000) rfl rfl rfl rfl ?_
 refine L_guard rfl rfl rfl rfl c118 ?_
 refine Lq (.bool (decide (1 + b % 4 + 1 + c % 5 ≤ 1000000))) rfl rfl rfl (by kernel_rfl) ?_
 refine Lq (.bool (decide (1 + b % 4 + 1 + c % 5 ≤ 1000000))) rfl rfl rfl (x_pick rfl rfl (by rw [c118]; rfl)) ?_
 refine Lq (.bool (decide (1 + b % 4 + 1 + c % 5 ≤ 1000000))) rfl rfl rfl rfl ?_
 refine L_nil ?_
 refine W_ret ?_
 refine ⟨_, _, res_run (rs := [.tmp 6]) (vs := [(.bool (decide (1 + b % 4 + 1 + c % 5 ≤ 1000000)))]) Tryd.results49 (.cons (.tmp rfl) .nil) rfl, ?_⟩
 refine ⟨_, rfl, ?_⟩
 refine L_guard rfl rfl rfl rfl (by rw [c116]; rfl) ?_
 refine Lq (.bool (!(decide (1 + b % 4 + 1 + c % 5 ≤ 1000000)))) rfl rfl rfl rfl ?_
 refine Lq (.bool (!(decide (1 + b % 4 + 1 + c % 5 ≤ 1000000)))) rfl rfl rfl (x_pick rfl rfl (by rw [c116]; rfl)) ?_
 refine Lq (.bool (!(decide (1 + b % 4 + 1 + c % 5 ≤ 1000000)))) rfl rfl rfl rfl ?_
 have c120 : (decide (1 + b % 4 + 1 + c % 5 ≤ 1000000)) = true := decide_eq_true (by omega)
 have q121 := of_decide_eq_true c120
 refine L_guard rfl rfl rfl rfl (by rw [c120]; rfl) ?_
 refine Lq (int (1 + b % 4 + 1 + c % 5)) rfl rfl rfl rfl ?_
 refine L_guard rfl rfl rfl rfl (by rw [c120]; rfl) ?_
 refine Lq (int (1 + b % 4)) rfl rfl rfl rfl ?_
 refine L_guard rfl rfl rfl rfl (by rw [c120]; rfl) ?_
 refine Lq (.bool (decide (1 + b % 4 + 1 + c % 5 ≤ 1 + b % 4))) rfl rfl rfl (by kernel_rfl) ?_
 refine Lq (.bool (decide (1 + b % 4 + 1 + c % 5 ≤ 1 + b % 4))) rfl rfl rfl (x_pick rfl rfl (by rw [c120]; rfl)) ?_
 refine Lq (.bool (decide (1 + b % 4 + 1 + c % 5 ≤ 1 + b % 4))) rfl rfl rfl rfl ?_
 have c122 : (decide (1 + b % 4 + 1 + c % 5 ≤ 1 + b % 4)) = false := decide_eq_false (by omega)
 have q123 := of_decide_eq_false c122
 refine L_guard rfl rfl rfl rfl c122 ?_
 refine Lq (int (1 + d % 3)) rfl rfl rfl rfl ?_
 refine L_guard rfl rfl rfl rfl c122 ?_
 refine L_call rfl rfl rfl (x_call (vs := #[(int (1 + d % 3)), (int 1), (int 1000000)]) rfl rfl (by kernel_rfl) ent_49) ?_ (fun _ _ h => h)
 refine calls_of_W (n := 15) Tryd.func49 rfl Tryd.ntmps49 (Nat.le_of_ble_eq_true rfl) ?_
 refine W_seq ?_
 refine W_region_lit ?_
 refine Lq (.bool false) rfl rfl rfl rfl ?_
 refine L_nil ?_
 refine W_seq ?_
 refine W_region_lit ?_
 refine Lq (int (1 + d % 3)) rfl rfl rfl rfl ?_
 refine Lq (int 1) rfl rfl rfl rfl ?_
 refine Lq (.bool (decide (1 + d % 3 ≥ 1))) rfl rfl rfl (by kernel_rfl) ?_
 refine Lq (.bool (decide (1 + d % 3 ≥ 1))) rfl rfl rfl rfl ?_
 have c124 : (decide (1 + d % 3 ≥ 1)) = true := decide_eq_true (by omega)
 have q125 := of_decide_eq_true c124
 refine L_guard rfl rfl rfl rfl c124 ?_
 refine Lq (int (1 + d % 3)) rfl rfl rfl rfl ?_
 refine L_guard rfl rfl rfl rfl c124 ?_
 refine Lq (int 1000000) rfl rfl rfl rfl ?_
 refine L_guard rfl rfl rfl rfl c124 ?_
 refine Lq (.bool (decide (1 + d % 3 ≤ 1000000))) rfl rfl rfl (by kernel_rfl) ?_
 refine Lq (.bool (decide (1 + d % 3 ≤ 1000000))) rfl rfl rfl (x_pick rfl rfl (by rw [c124]; rfl)) ?_
 refine Lq (.bool (decide (1 + d % 3 ≤ 1000000))) rfl rfl rfl rfl ?_
 refine L_nil ?_
 refine W_ret ?_
 refine ⟨_, _, res_run (rs := [.tmp 6]) (vs := [(.bool (decide (1 + d % 3 ≤ 1000000)))]) Tryd.results49 (.cons (.tmp rfl) .nil) rfl, ?_⟩
 refine ⟨_, rfl, ?_⟩
 refine L_guard rfl rfl rfl rfl c122 ?_
 refine Lq (.bool (!(decide (1 + d % 3 ≤ 1000000)))) rfl rfl rfl rfl ?_
 refine Lq (.bool (!(decide (1 + d % 3 ≤ 1000000)))) rfl rfl rfl (x_pick rfl rfl (by rw [c122]; rfl)) ?_
 refine L_nil ?_
 have c126 : (decide (1 + d % 3 ≤ 1000000)) = true := decide_eq_true (by omega)
 have q127 := of_decide_eq_true c126
 refine W_cond_false (by show Value.bool _ = _; exact congrArg Value.bool (by rw [c126]; rfl)) ?_
 refine W_skip ?_
 refine W_seq ?_
 refine W_region_lit ?_
 refine Lq (int (1 + a % 3)) rfl rfl rfl rfl ?_
 refine Lq (int (1 + b % 4)) rfl rfl rfl rfl ?_
 refine Lq (int (1 + b % 4 + 1 + c % 5)) rfl rfl rfl rfl ?_
 refine Lq (int (1 + d % 3)) rfl rfl rfl rfl ?_
 refine Lq (.agg #[(int (1 + a % 3)), (int (1 + b % 4)), (int (1 + b % 4 + 1 + c % 5)), (int (1 + d % 3)), (.slice none 0 0), (.slice none 0 0)]) rfl rfl rfl (by kernel_rfl) ?_
 refine L_new hst105 (v := fun b => ptr b 0) (ob := .cells #[(int (1 + a % 3)), (int (1 + b % 4)), (int (1 + b % 4 + 1 + c % 5)), (int (1 + d % 3)), (.slice none 0 0), (.slice none 0 0)] 41 (0, 0)) rfl rfl rfl (by kernel_rfl) (fun b128 w129 hst130 => ?_)
 refine Lq (ptr b128 0) rfl rfl rfl rfl ?_
 refine Lq (int 0) rfl rfl rfl rfl ?_
 refine L_nil ?_
 refine W_ret ?_
 refine ⟨_, _, res_run (rs := [.tmp 8, .tmp 9]) (vs := [(ptr b128 0), (int 0)]) Tryd.results25 (.cons (.tmp rfl) (.cons (.tmp rfl) .nil)) rfl, ?_⟩
 refine ⟨_, rfl, ?_⟩
 refine Lq (.tuple #[(ptr b128 0), (int 0)]) rfl rfl rfl rfl ?_
 refine Lq (ptr b128 0) rfl rfl rfl (by kernel_rfl) ?_
 refine Lq (int 0) rfl rfl rfl (by kernel_rfl) ?_
 refine Lq (ptr b128 0) rfl rfl rfl rfl ?_
 refine Lq (int 0) rfl rfl rfl rfl ?_
 refine L_nil ?_
 refine W_seq ?_
 refine W_region_lit ?_
 refine Lq (ptr p106 0) rfl rfl rfl rfl ?_
 refine Lq (ptr b128 0) rfl rfl rfl rfl ?_
 refine Lq (ptr p106 0) rfl rfl rfl rfl ?_
 refine Lq (ptr b128 0) rfl rfl rfl rfl ?_
 refine L_nil ?_
 refine W_ret ?_
 refine ⟨_, _, res_run (rs := [.tmp 2, .tmp 3]) (vs := [(ptr p106 0), (ptr b128 0)]) Tryd.results11 (.cons (.tmp rfl) (.cons (.tmp rfl) .nil)) rfl, ?_⟩
 exact ⟨_, _, _, rfl, ((hst130.front 1 rfl rfl)).keepN 2 rfl, p106, _, b128, rfl, rfl, hprof109⟩

end Go.Fx.YtdkjoljcffkpkaaDoor
