/-
  Chapter 14: the reference: place, Decimal, Back, printed by genrb.py
-/
import Derived.Test.YtdkjoljcffkpkaaDoorRa
import Derived.Test.YtdkjoljcffkpkaaDoorPrG
set_option linter.unusedSimpArgs false
set_option linter.unusedVariables false
namespace Go.Fx.YtdkjoljcffkpkaaDoor
open Go Go.Fx Go.Proofs
set_option maxRecDepth 20000

theorem ent_42 : Ent Tryd.prog 42 := fun _ _ => by kernel_rfl
theorem ent_45 : Ent Tryd.prog 45 := fun _ _ => by kernel_rfl
theorem ent_51 : Ent Tryd.prog 51 := fun _ _ => by kernel_rfl
theorem ent_59 : Ent Tryd.prog 59 := fun _ _ => by kernel_rfl
theorem sl_38 : SL Tryd.prog 38 96 := Tryd.underlying38
theorem sl_39 : SL Tryd.prog 39 99 := Tryd.underlying39
theorem ti_38 : TI Tryd.prog 38 false 1 24 (.slice none 0 0) := ⟨by kernel_rfl, by kernel_rfl⟩
theorem ti_39 : TI Tryd.prog 39 false 1 24 (.slice none 0 0) := ⟨by kernel_rfl, by kernel_rfl⟩
theorem ti_96 : TI Tryd.prog 96 true 7 72 (.agg #[(.int .i64 0), (.int .i64 0), (.int .i64 0), (.int .i64 0), (.int .i64 0), (.int .i64 0), (.slice none 0 0)]) := ⟨by kernel_rfl, by kernel_rfl⟩
theorem ti_99 : TI Tryd.prog 99 true 4 40 (.agg #[(.int .i64 0), (.int .i64 0), (.int .i64 0), (.string ⟨#[]⟩)]) := ⟨by kernel_rfl, by kernel_rfl⟩

theorem before_spec {w : World} {R : Hp} (a b : Pl) (hR : Le R (hp w)) :
    Calls Tryd.prog 59 #[kk a, kk b] w fun e w' => e = .returned (.bool (bef a b)) ∧ Grow w w' := by
 have hst := Step.ro hR
 refine calls_of_W (n := 24) Tryd.func59 rfl Tryd.ntmps59 (Nat.le_of_ble_eq_true rfl) ?_
 refine W_seq ?_
 refine W_region_lit ?_
 refine L_new hst (v := fun b => ptr b 0) (ob := .cells #[(int a.1), (int a.2)] 43 (0, 0)) rfl rfl rfl (by kernel_rfl) (fun b1 w2 hst3 => ?_)
 refine L_new hst3 (v := fun b => ptr b 0) (ob := .cells #[(int b.1), (int b.2)] 43 (0, 0)) rfl rfl rfl (by kernel_rfl) (fun b4 w5 hst6 => ?_)
 refine Lq (.bool false) rfl rfl rfl rfl ?_
 refine L_nil ?_
 refine W_seq ?_
 refine W_region_lit ?_
 refine Lq (ptr b1 0) rfl rfl rfl (by kernel_rfl) ?_
 refine Lq (int a.1) rfl rfl rfl (x_load rfl rfl (run_loadVar_one ti_3 (hst6.b 1) rfl)) ?_
 refine Lq (ptr b4 0) rfl rfl rfl (by kernel_rfl) ?_
 refine Lq (int b.1) rfl rfl rfl (x_load rfl rfl (run_loadVar_one ti_3 (hst6.b 0) rfl)) ?_
 refine Lq (.bool (decide (a.1 < b.1))) rfl rfl rfl (by kernel_rfl) ?_
 refine Lq (.bool (decide (a.1 < b.1))) rfl rfl rfl rfl ?_
 rcases Bool.eq_false_or_eq_true (decide (a.1 < b.1)) with c7 | c7
 ·
  have q8 := of_decide_eq_true c7
  refine L_unwanted rfl rfl rfl rfl (by rw [c7]; try rfl) rfl rfl ?_
  refine L_unwanted rfl rfl rfl rfl (by rw [c7]; try rfl) rfl rfl ?_
  refine L_unwanted rfl rfl rfl rfl (by rw [c7]; try rfl) rfl rfl ?_
  refine L_unwanted rfl rfl rfl rfl (by rw [c7]; try rfl) rfl rfl ?_
  refine L_unwanted rfl rfl rfl rfl (by rw [c7]; try rfl) rfl rfl ?_
  refine L_unwanted rfl rfl rfl rfl (by rw [c7]; try rfl) rfl rfl ?_
  refine L_unwanted_undef rfl rfl rfl rfl rfl rfl ?_
  refine L_unwanted_undef rfl rfl rfl rfl rfl rfl ?_
  refine L_unwanted_undef rfl rfl rfl rfl rfl rfl ?_
  refine L_unwanted_undef rfl rfl rfl rfl rfl rfl ?_
  refine L_unwanted_undef rfl rfl rfl rfl rfl rfl ?_
  refine L_unwanted rfl rfl rfl rfl (by rw [c7]; try rfl) rfl rfl ?_
  refine Lq (.bool true) rfl rfl rfl (x_pick rfl rfl (by rw [c7]; rfl)) ?_
  refine Lq (.bool true) rfl rfl rfl rfl ?_
  refine L_nil ?_
  refine W_ret ?_
  refine ⟨_, _, res_run (rs := [.tmp 4]) (vs := [(.bool true)]) Tryd.results59 (.cons (.tmp rfl) .nil) rfl, ?_⟩
  exact ⟨ret_bool (by rw [Bool.eq_iff_iff, bef_iff]; (try simp only [decide_eq_true_eq, Bool.false_eq_true, false_iff, true_iff]); omega), hst6.grow⟩
 ·
  have q9 := of_decide_eq_false c7
  refine L_guard rfl rfl rfl rfl c7 ?_
  refine Lq (ptr b1 0) rfl rfl rfl (by kernel_rfl) ?_
  refine L_guard rfl rfl rfl rfl c7 ?_
  refine Lq (int a.1) rfl rfl rfl (x_load rfl rfl (run_loadVar_one ti_3 (hst6.b 1) rfl)) ?_
  refine L_guard rfl rfl rfl rfl c7 ?_
  refine Lq (ptr b4 0) rfl rfl rfl (by kernel_rfl) ?_
  refine L_guard rfl rfl rfl rfl c7 ?_
  refine Lq (int b.1) rfl rfl rfl (x_load rfl rfl (run_loadVar_one ti_3 (hst6.b 0) rfl)) ?_
  refine L_guard rfl rfl rfl rfl c7 ?_
  refine Lq (.bool (a.1 == b.1)) rfl rfl rfl (by kernel_rfl) ?_
  refine L_guard rfl rfl rfl rfl c7 ?_
  refine Lq (.bool (a.1 == b.1)) rfl rfl rfl rfl ?_
  rcases Bool.eq_false_or_eq_true (a.1 == b.1) with c10 | c10
  ·
   have q11 := eq_of_beq c10
   refine L_guard rfl rfl rfl rfl c10 ?_
   refine Lq (ptr b1 1) rfl rfl rfl (by kernel_rfl) ?_
   refine L_guard rfl rfl rfl rfl c10 ?_
   refine Lq (int a.2) rfl rfl rfl (x_load rfl rfl (run_loadVar_one ti_3 (hst6.b 1) rfl)) ?_
   refine L_guard rfl rfl rfl rfl c10 ?_
   refine Lq (ptr b4 1) rfl rfl rfl (by kernel_rfl) ?_
   refine L_guard rfl rfl rfl rfl c10 ?_
   refine Lq (int b.2) rfl rfl rfl (x_load rfl rfl (run_loadVar_one ti_3 (hst6.b 0) rfl)) ?_
   refine L_guard rfl rfl rfl rfl c10 ?_
   refine Lq (.bool (decide (a.2 < b.2))) rfl rfl rfl (by kernel_rfl) ?_
   refine L_guard rfl rfl rfl rfl c7 ?_
   refine Lq (.bool (decide (a.2 < b.2))) rfl rfl rfl (x_pick rfl rfl (by rw [c10]; rfl)) ?_
   refine Lq (.bool (decide (a.2 < b.2))) rfl rfl rfl (x_pick rfl rfl (by rw [c7]; rfl)) ?_
   refine Lq (.bool (decide (a.2 < b.2))) rfl rfl rfl rfl ?_
   refine L_nil ?_
   refine W_ret ?_
   refine ⟨_, _, res_run (rs := [.tmp 4]) (vs := [(.bool (decide (a.2 < b.2)))]) Tryd.results59 (.cons (.tmp rfl) .nil) rfl, ?_⟩
   exact ⟨ret_bool (by rw [Bool.eq_iff_iff, bef_iff]; (try simp only [decide_eq_true_eq, Bool.false_eq_true, false_iff, true_iff]); omega), hst6.grow⟩
  ·
   have q12 := ne_of_beq_false c10
   refine L_unwanted rfl rfl rfl rfl (by rw [c10]; try rfl) rfl rfl ?_
   refine L_unwanted rfl rfl rfl rfl (by rw [c10]; try rfl) rfl rfl ?_
   refine L_unwanted rfl rfl rfl rfl (by rw [c10]; try rfl) rfl rfl ?_
   refine L_unwanted rfl rfl rfl rfl (by rw [c10]; try rfl) rfl rfl ?_
   refine L_unwanted rfl rfl rfl rfl (by rw [c10]; try rfl) rfl rfl ?_
   refine L_guard rfl rfl rfl rfl c7 ?_
   refine Lq (.bool false) rfl rfl rfl (x_pick rfl rfl (by rw [c10]; rfl)) ?_
   refine Lq (.bool false) rfl rfl rfl (x_pick rfl rfl (by rw [c7]; rfl)) ?_
   refine Lq (.bool false) rfl rfl rfl rfl ?_
   refine L_nil ?_
   refine W_ret ?_
   refine ⟨_, _, res_run (rs := [.tmp 4]) (vs := [(.bool false)]) Tryd.results59 (.cons (.tmp rfl) .nil) rfl, ?_⟩
   exact ⟨ret_bool (by rw [Bool.eq_iff_iff, bef_iff]; (try simp only [decide_eq_true_eq, Bool.false_eq_true, false_iff, true_iff]); omega), hst6.grow⟩

theorem place_spec {w : World} {R : Hp} {m : Nat} {s : PS} {vL vD : Value} {xs : List Sp} (k : Pl) (hm : Le (refB m s vL vD) R) (hv : RdS tySp R vL xs) (hR : Le R (hp w)) (hmax : xs.length ≤ 1000000000) :
    Calls Tryd.prog 45 #[ptr m 0, kk k] w fun e w' => e = .returned (.tuple #[int (pos xs k : Int), .bool (thr xs k)]) ∧ Grow w w' := by
 have hst := Step.ro hR
 refine calls_of_W (n := 48) Tryd.func45 rfl Tryd.ntmps45 (Nat.le_of_ble_eq_true rfl) ?_
 refine W_seq ?_
 refine W_region_lit ?_
 refine L_new hst (v := fun b => ptr b 0) (ob := .cells #[(int k.1), (int k.2)] 43 (0, 0)) rfl rfl rfl (by kernel_rfl) (fun b1 w2 hst3 => ?_)
 refine Lq (int 0) rfl rfl rfl rfl ?_
 refine Lq (.bool false) rfl rfl rfl rfl ?_
 refine L_nil ?_
 refine W_seq ?_
 refine W_region_lit ?_
 refine Lq (int 0) rfl rfl rfl rfl ?_
 refine L_nil ?_
 refine W_seq ?_
 refine W_block ?_
 refine W_loop (I := fun σ w_ m_ => ∃ (σ0 : Fr) (k_ : Nat), σ = upd (upd (upd (upd (upd (upd σ0 0 (ptr m 0)) 1 (.agg #[(int k.1), (int k.2)])) 3 (ptr b1 0)) 4 (int 0)) 5 (.bool false)) 6 (int (k_ : Int)) ∧ mks (σ0 0) = [] ∧ Step w R [] w_ R [one b1 (.cells #[(int k.1), (int k.2)] 43 (0, 0))] ∧ k_ ≤ xs.length ∧ pos xs k = k_ + pos (xs.drop k_) k ∧ m_ = xs.length - k_) (m := xs.length - 0) ?_ ?_
 ·
  exact ⟨_, 0, (upd_of (upd_of (upd_of (upd_of (upd_of (upd_of rfl rfl) rfl) rfl) rfl) rfl) rfl), rfl, hst3, (by omega), (by rw [List.drop_zero, Nat.zero_add]), rfl⟩
 ·
  rintro m12 σ_ w6 ⟨s10, k_11, rfl, hmk4, hst5, hf8, hf9, rfl⟩
  refine W_seq ?_
  refine W_seq ?_
  refine W_region_draw [] (fun w => Le R (hp w) ∧ Le (one b1 (.cells #[(int k.1), (int k.2)] 43 (0, 0))) (hp w)) hmix (by decide +kernel) (fun _ _ h => h) ?_
  have hst14 := hst5.draws (w6.drawn + 1)
  generalize draws w6 (w6.drawn + 1) = w13 at hst14 ⊢
  refine LP (int (k_11 : Int)) 0 rfl rfl rfl (fun u16 => rfl) hst14.a1 ?_
  refine LP (ptr m 0) 1 rfl rfl rfl (fun u19 => rfl) hst14.a1 ?_
  refine LP (ptr m 0) 2 rfl rfl rfl (fun u22 => rfl) hst14.a1 ?_
  refine LP (ptr m 4) 3 rfl rfl rfl (fun u25 => (by kernel_rfl)) hst14.a1 ?_
  refine LT vL 4 rfl rfl rfl (fun u28 hF29 => (x_load rfl rfl (run_loadVar_one ti_38 ((Le.trans hm hF29.1) _ _ (one_self _ _)) rfl))) hst14.a1 ?_
  obtain ⟨a33, cap34, e35, hc36⟩ := hv.shape
  subst e35
  refine LT (int (xs.length : Int)) 5 rfl rfl rfl (fun u31 hF32 => (x_len_slice rfl sl_38 rfl)) hst14.a1 ?_
  refine LP (.bool (decide ((k_11 : Int) < (xs.length : Int)))) 6 rfl rfl rfl (fun u38 => (by kernel_rfl)) hst14.a1 ?_
  refine LP (.bool (decide ((k_11 : Int) < (xs.length : Int)))) 7 rfl rfl rfl (fun u41 => rfl) hst14.a1 ?_
  rcases Bool.eq_false_or_eq_true (decide ((k_11 : Int) < (xs.length : Int))) with c44 | c44
  ·
   have q45 := of_decide_eq_true c44
   refine LP (ptr m 0) 8 rfl rfl rfl (fun u47 => rfl) hst14.a1 ?_ (hw := (Want.of rfl rfl rfl rfl (by rw [c44]; rfl)))
   refine LP (ptr m 0) 9 rfl rfl rfl (fun u50 => rfl) hst14.a1 ?_ (hw := (Want.of rfl rfl rfl rfl (by rw [c44]; rfl)))
   refine LP (ptr m 4) 10 rfl rfl rfl (fun u53 => (by kernel_rfl)) hst14.a1 ?_ (hw := (Want.of rfl rfl rfl rfl (by rw [c44]; rfl)))
   refine LT (.slice a33 xs.length cap34) 11 rfl rfl rfl (fun u56 hF57 => (x_load rfl rfl (run_loadVar_one ti_38 ((Le.trans hm hF57.1) _ _ (one_self _ _)) rfl))) hst14.a1 ?_ (hw := (Want.of rfl rfl rfl rfl (by rw [c44]; rfl)))
   refine LP (int (k_11 : Int)) 12 rfl rfl rfl (fun u59 => rfl) hst14.a1 ?_ (hw := (Want.of rfl rfl rfl rfl (by rw [c44]; rfl)))
   obtain ⟨b64, off65, cap66, cs67, T68, fz69, e70, hc71, hb72, he73⟩ := hv.open (by omega)
   cases e70
   obtain ⟨cl74, hs75, hr76⟩ := he73.at k_11 (by omega)
   obtain ⟨x77, hx78⟩ : ∃ x_, x_ = (xs[k_11]'(by omega)) := ⟨_, rfl⟩
   rw [← hx78] at hr76
   obtain rfl := tySp_open hr76
   refine LP (ptr b64 (off65 + k_11 * 7)) 13 rfl rfl rfl (fun u62 => (x_indexAddr' rfl sl_38 ti_96 rfl rfl (by omega))) hst14.a1 ?_ (hw := (Want.of rfl rfl rfl rfl (by rw [c44]; rfl)))
   refine LP (ptr b64 (off65 + k_11 * 7)) 14 rfl rfl rfl (fun u80 => (by kernel_rfl)) hst14.a1 ?_ (hw := (Want.of rfl rfl rfl rfl (by rw [c44]; rfl)))
   refine LT (.agg #[(int x77.pl.1), (int x77.pl.2)]) 15 rfl rfl rfl (fun u83 hF84 => (x_load rfl rfl (run_loadVar_agg ti_43 (hF84.1 _ _ hb72) (seg_part hs75 0 2 rfl rfl) rfl))) hst14.a1 ?_ (hw := (Want.of rfl rfl rfl rfl (by rw [c44]; rfl)))
   refine LT (.agg #[(int k.1), (int k.2)]) 16 rfl rfl rfl (fun u86 hF87 => (x_load rfl rfl (run_loadVar_agg ti_43 (hF87.2 _ _ (one_self _ _)) (l := [(int k.1), (int k.2)]) rfl rfl))) hst14.a1 ?_ (hw := (Want.of rfl rfl rfl rfl (by rw [c44]; rfl)))
   refine LA_all [17] (by decide +kernel) (by simp) ?_
   intro i_ hi_
   simp only [List.mem_cons, List.not_mem_nil, or_false] at hi_
   subst hi_
   refine One_call (i := 17) rfl rfl rfl (Want.of rfl rfl rfl rfl (by rw [c44]; rfl)) (x_call (vs := #[(.agg #[(int x77.pl.1), (int x77.pl.2)]), (.agg #[(int k.1), (int k.2)])]) rfl rfl (by kernel_rfl) ent_59) (before_spec x77.pl k (Le.refl _)) ?_
   rintro e93 w91 ⟨rfl, hw94⟩
   have hst92 := hst14.grown hw94
   refine ⟨_, rfl, (fun _ => hst92.a1), ?_⟩
   refine LP (.bool (bef x77.pl k)) 18 rfl rfl rfl (fun u96 => (x_pick rfl rfl (by rw [c44]; rfl))) hst92.a1 ?_
   refine LA_done (by decide +kernel) ?_
   rcases Bool.eq_false_or_eq_true (bef x77.pl k) with c98 | c98
   ·
    refine W_cond_true (by show Value.bool _ = _; exact congrArg Value.bool c98) ?_
    refine W_skip ?_
    refine W_block ?_
    refine W_region_lit ?_
    refine Lq (int (k_11 : Int)) rfl rfl rfl rfl ?_
    refine Lq (int ((k_11 + 1 : Nat) : Int)) rfl rfl rfl (x_add_nat rfl rfl rfl (by omega)) ?_
    refine Lq (int ((k_11 + 1 : Nat) : Int)) rfl rfl rfl rfl ?_
    refine L_nil ?_
    refine ⟨xs.length - (k_11 + 1), by first | omega | (simp only [List.length_append, List.length_cons, List.length_nil]; omega), ?_⟩
    exact ⟨_, (k_11 + 1), (upd_of (upd_of (upd_of (upd_of (upd_of (upd_of rfl rfl) rfl) rfl) rfl) rfl) rfl), hmk4, hst92, (by omega), (by rw [hf9, pos_drop (by omega) (by rw [← hx78]; exact c98)]; omega), rfl⟩
   ·
    refine W_cond_false (by show Value.bool _ = _; exact congrArg Value.bool c98) ?_
    refine W_exit ?_
    refine W_seq ?_
    have hp_ : pos xs k = k_11 := by rw [hf9, pos_stop (by omega) (by rw [← hx78]; exact c98)]; omega
    refine W_region_draw [] (fun w => Le R (hp w) ∧ Le (one b1 (.cells #[(int k.1), (int k.2)] 43 (0, 0))) (hp w)) hmix (by decide +kernel) (fun _ _ h => h) ?_
    have hst100 := hst92.draws (w91.drawn + 1)
    generalize draws w91 (w91.drawn + 1) = w99 at hst100 ⊢
    refine LP (int (k_11 : Int)) 0 rfl rfl rfl (fun u102 => rfl) hst100.a1 ?_
    refine LP (int (k_11 : Int)) 1 rfl rfl rfl (fun u105 => rfl) hst100.a1 ?_
    refine LP (ptr m 0) 2 rfl rfl rfl (fun u108 => rfl) hst100.a1 ?_
    refine LP (ptr m 0) 3 rfl rfl rfl (fun u111 => rfl) hst100.a1 ?_
    refine LP (ptr m 4) 4 rfl rfl rfl (fun u114 => (by kernel_rfl)) hst100.a1 ?_
    refine LT (.slice (some ⟨b64, off65, none⟩) xs.length cap34) 5 rfl rfl rfl (fun u117 hF118 => (x_load rfl rfl (run_loadVar_one ti_38 ((Le.trans hm hF118.1) _ _ (one_self _ _)) rfl))) hst100.a1 ?_
    refine LT (int (xs.length : Int)) 6 rfl rfl rfl (fun u120 hF121 => (x_len_slice rfl sl_38 rfl)) hst100.a1 ?_
    refine LP (.bool (decide ((k_11 : Int) < (xs.length : Int)))) 7 rfl rfl rfl (fun u123 => (by kernel_rfl)) hst100.a1 ?_
    refine LP (.bool (decide ((k_11 : Int) < (xs.length : Int)))) 8 rfl rfl rfl (fun u126 => rfl) hst100.a1 ?_
    refine LP (ptr m 0) 9 rfl rfl rfl (fun u129 => rfl) hst100.a1 ?_ (hw := (Want.of rfl rfl rfl rfl (by rw [c44]; rfl)))
    refine LP (ptr m 0) 10 rfl rfl rfl (fun u132 => rfl) hst100.a1 ?_ (hw := (Want.of rfl rfl rfl rfl (by rw [c44]; rfl)))
    refine LP (ptr m 4) 11 rfl rfl rfl (fun u135 => (by kernel_rfl)) hst100.a1 ?_ (hw := (Want.of rfl rfl rfl rfl (by rw [c44]; rfl)))
    refine LT (.slice (some ⟨b64, off65, none⟩) xs.length cap34) 12 rfl rfl rfl (fun u138 hF139 => (x_load rfl rfl (run_loadVar_one ti_38 ((Le.trans hm hF139.1) _ _ (one_self _ _)) rfl))) hst100.a1 ?_ (hw := (Want.of rfl rfl rfl rfl (by rw [c44]; rfl)))
    refine LP (int (k_11 : Int)) 13 rfl rfl rfl (fun u141 => rfl) hst100.a1 ?_ (hw := (Want.of rfl rfl rfl rfl (by rw [c44]; rfl)))
    obtain ⟨cl146, hs147, hr148⟩ := he73.at k_11 (by omega)
    rw [← hx78] at hr148
    obtain rfl := tySp_open hr148
    refine LP (ptr b64 (off65 + k_11 * 7)) 14 rfl rfl rfl (fun u144 => (x_indexAddr' rfl sl_38 ti_96 rfl rfl (by omega))) hst100.a1 ?_ (hw := (Want.of rfl rfl rfl rfl (by rw [c44]; rfl)))
    refine LP (ptr b64 (off65 + k_11 * 7)) 15 rfl rfl rfl (fun u150 => (by kernel_rfl)) hst100.a1 ?_ (hw := (Want.of rfl rfl rfl rfl (by rw [c44]; rfl)))
    refine LT (.agg #[(int x77.pl.1), (int x77.pl.2)]) 16 rfl rfl rfl (fun u153 hF154 => (x_load rfl rfl (run_loadVar_agg ti_43 (hF154.1 _ _ hb72) (seg_part hs147 0 2 rfl rfl) rfl))) hst100.a1 ?_ (hw := (Want.of rfl rfl rfl rfl (by rw [c44]; rfl)))
    refine LT (.agg #[(int k.1), (int k.2)]) 17 rfl rfl rfl (fun u156 hF157 => (x_load rfl rfl (run_loadVar_agg ti_43 (hF157.2 _ _ (one_self _ _)) (l := [(int k.1), (int k.2)]) rfl rfl))) hst100.a1 ?_ (hw := (Want.of rfl rfl rfl rfl (by rw [c44]; rfl)))
    refine LP (.bool ((x77.pl.1 == k.1) && (x77.pl.2 == k.2))) 18 rfl rfl rfl (fun u159 => (x_eq43 rfl rfl rfl)) hst100.a1 ?_ (hw := (Want.of rfl rfl rfl rfl (by rw [c44]; rfl)))
    refine LP (.bool ((x77.pl.1 == k.1) && (x77.pl.2 == k.2))) 19 rfl rfl rfl (fun u162 => (x_pick rfl rfl (by rw [c44]; rfl))) hst100.a1 ?_
    refine LP (int (k_11 : Int)) 20 rfl rfl rfl (fun u165 => rfl) hst100.a1 ?_
    refine LP (.bool ((x77.pl.1 == k.1) && (x77.pl.2 == k.2))) 21 rfl rfl rfl (fun u168 => rfl) hst100.a1 ?_
    refine LA_done (by decide +kernel) ?_
    refine W_ret ?_
    refine ⟨_, _, res_run (rs := [.tmp 4, .tmp 5]) (vs := [(int (k_11 : Int)), (.bool ((x77.pl.1 == k.1) && (x77.pl.2 == k.2)))]) Tryd.results45 (.cons (.tmp rfl) (.cons (.tmp rfl) .nil)) hmk4, ?_⟩
    exact ⟨by rw [thr_at hp_ (by omega), hp_, ← hx78]; rfl, hst100.grow⟩
  ·
   have q170 := of_decide_eq_false c44
   refine LV 8 rfl rfl rfl hst14.a1 ?_ (hw := (Want.of rfl rfl rfl rfl (by rw [c44]; rfl)))
   refine LV 9 rfl rfl rfl hst14.a1 ?_ (hw := (Want.of rfl rfl rfl rfl (by rw [c44]; rfl)))
   refine LV 10 rfl rfl rfl hst14.a1 ?_ (hw := (Want.of rfl rfl rfl rfl (by rw [c44]; rfl)))
   refine LV 11 rfl rfl rfl hst14.a1 ?_ (hw := (Want.of rfl rfl rfl rfl (by rw [c44]; rfl)))
   refine LV 12 rfl rfl rfl hst14.a1 ?_ (hw := (Want.of rfl rfl rfl rfl (by rw [c44]; rfl)))
   refine LV 13 rfl rfl rfl hst14.a1 ?_ (hw := (Want.of rfl rfl rfl rfl (by rw [c44]; rfl)))
   refine LV 14 rfl rfl rfl hst14.a1 ?_ (hw := (Want.of rfl rfl rfl rfl (by rw [c44]; rfl)))
   refine LV 15 rfl rfl rfl hst14.a1 ?_ (hw := (Want.of rfl rfl rfl rfl (by rw [c44]; rfl)))
   refine LV 16 rfl rfl rfl hst14.a1 ?_ (hw := (Want.of rfl rfl rfl rfl (by rw [c44]; rfl)))
   refine LV 17 rfl rfl rfl hst14.a1 ?_ (hw := (Want.of rfl rfl rfl rfl (by rw [c44]; rfl)))
   refine LP (.bool false) 18 rfl rfl rfl (fun u182 => (x_pick rfl rfl (by rw [c44]; rfl))) hst14.a1 ?_
   refine LA_done (by decide +kernel) ?_
   refine W_cond_false (by show Value.bool _ = _; exact congrArg Value.bool rfl) ?_
   refine W_exit ?_
   refine W_seq ?_
   have hp_ : pos xs k = k_11 := by rw [hf9, pos_end (by omega)]; omega
   refine W_region_draw [] (fun w => Le R (hp w) ∧ Le (one b1 (.cells #[(int k.1), (int k.2)] 43 (0, 0))) (hp w)) hmix (by decide +kernel) (fun _ _ h => h) ?_
   have hst185 := hst14.draws (w13.drawn + 1)
   generalize draws w13 (w13.drawn + 1) = w184 at hst185 ⊢
   refine LP (int (k_11 : Int)) 0 rfl rfl rfl (fun u187 => rfl) hst185.a1 ?_
   refine LP (int (k_11 : Int)) 1 rfl rfl rfl (fun u190 => rfl) hst185.a1 ?_
   refine LP (ptr m 0) 2 rfl rfl rfl (fun u193 => rfl) hst185.a1 ?_
   refine LP (ptr m 0) 3 rfl rfl rfl (fun u196 => rfl) hst185.a1 ?_
   refine LP (ptr m 4) 4 rfl rfl rfl (fun u199 => (by kernel_rfl)) hst185.a1 ?_
   refine LT (.slice a33 xs.length cap34) 5 rfl rfl rfl (fun u202 hF203 => (x_load rfl rfl (run_loadVar_one ti_38 ((Le.trans hm hF203.1) _ _ (one_self _ _)) rfl))) hst185.a1 ?_
   refine LT (int (xs.length : Int)) 6 rfl rfl rfl (fun u205 hF206 => (x_len_slice rfl sl_38 rfl)) hst185.a1 ?_
   refine LP (.bool (decide ((k_11 : Int) < (xs.length : Int)))) 7 rfl rfl rfl (fun u208 => (by kernel_rfl)) hst185.a1 ?_
   refine LP (.bool (decide ((k_11 : Int) < (xs.length : Int)))) 8 rfl rfl rfl (fun u211 => rfl) hst185.a1 ?_
   refine LV 9 rfl rfl rfl hst185.a1 ?_ (hw := (Want.of rfl rfl rfl rfl (by rw [c44]; rfl)))
   refine LV 10 rfl rfl rfl hst185.a1 ?_ (hw := (Want.of rfl rfl rfl rfl (by rw [c44]; rfl)))
   refine LV 11 rfl rfl rfl hst185.a1 ?_ (hw := (Want.of rfl rfl rfl rfl (by rw [c44]; rfl)))
   refine LV 12 rfl rfl rfl hst185.a1 ?_ (hw := (Want.of rfl rfl rfl rfl (by rw [c44]; rfl)))
   refine LV 13 rfl rfl rfl hst185.a1 ?_ (hw := (Want.of rfl rfl rfl rfl (by rw [c44]; rfl)))
   refine LV 14 rfl rfl rfl hst185.a1 ?_ (hw := (Want.of rfl rfl rfl rfl (by rw [c44]; rfl)))
   refine LV 15 rfl rfl rfl hst185.a1 ?_ (hw := (Want.of rfl rfl rfl rfl (by rw [c44]; rfl)))
   refine LV 16 rfl rfl rfl hst185.a1 ?_ (hw := (Want.of rfl rfl rfl rfl (by rw [c44]; rfl)))
   refine LV 17 rfl rfl rfl hst185.a1 ?_ (hw := (Want.of rfl rfl rfl rfl (by rw [c44]; rfl)))
   refine LV 18 rfl rfl rfl hst185.a1 ?_ (hw := (Want.of rfl rfl rfl rfl (by rw [c44]; rfl)))
   refine LP (.bool false) 19 rfl rfl rfl (fun u224 => (x_pick rfl rfl (by rw [c44]; rfl))) hst185.a1 ?_
   refine LP (int (k_11 : Int)) 20 rfl rfl rfl (fun u227 => rfl) hst185.a1 ?_
   refine LP (.bool false) 21 rfl rfl rfl (fun u230 => rfl) hst185.a1 ?_
   refine LA_done (by decide +kernel) ?_
   refine W_ret ?_
   refine ⟨_, _, res_run (rs := [.tmp 4, .tmp 5]) (vs := [(int (k_11 : Int)), (.bool false)]) Tryd.results45 (.cons (.tmp rfl) (.cons (.tmp rfl) .nil)) hmk4, ?_⟩
   exact ⟨by rw [thr_no hp_ (by omega), hp_]; rfl, hst185.grow⟩

theorem Decimal_nat (n : Nat) (hn : n ≤ 1000000000) {w : World} {R : Hp} (hR : Le R (hp w)) :
    Calls Tryd.prog 42 #[int (n : Int)] w fun e w' => e = .returned (.string (Wd.i (n : Int)).txt) ∧ Grow w w' := by
 refine Nat.strongRecOn (motive := fun n => n ≤ 1000000000 → ∀ {w : World} {R : Hp}, Le R (hp w) → Calls Tryd.prog 42 #[int (n : Int)] w fun e w' => e = .returned (.string (Wd.i (n : Int)).txt) ∧ Grow w w') n ?_ hn hR
 clear hR hn w R n
 intro n ih hn w R hR
 have hst := Step.ro hR
 refine calls_of_W (n := 43) Tryd.func42 rfl Tryd.ntmps42 (Nat.le_of_ble_eq_true rfl) ?_
 refine W_seq ?_
 refine W_region_lit ?_
 refine Lq (.string ⟨#[]⟩) rfl rfl rfl rfl ?_
 refine L_nil ?_
 refine W_seq ?_
 refine W_seq ?_
 refine W_region_lit ?_
 refine Lq (int (n : Int)) rfl rfl rfl rfl ?_
 refine Lq (.bool (decide ((n : Int) ≥ 0))) rfl rfl rfl (by kernel_rfl) ?_
 refine Lq (.bool (decide ((n : Int) ≥ 0))) rfl rfl rfl rfl ?_
 have c1 : (decide ((n : Int) ≥ 0)) = true := decide_eq_true (by omega)
 have q2 := of_decide_eq_true c1
 refine L_guard rfl rfl rfl rfl c1 ?_
 refine Lq (int (n : Int)) rfl rfl rfl rfl ?_
 refine L_guard rfl rfl rfl rfl c1 ?_
 refine Lq (.bool (decide ((n : Int) < 10))) rfl rfl rfl (by kernel_rfl) ?_
 refine Lq (.bool (decide ((n : Int) < 10))) rfl rfl rfl (x_pick rfl rfl (by rw [c1]; rfl)) ?_
 refine L_nil ?_
 rcases Bool.eq_false_or_eq_true (decide ((n : Int) < 10)) with c3 | c3
 ·
  have q4 := of_decide_eq_true c3
  refine W_cond_true (by show Value.bool _ = _; exact congrArg Value.bool c3) ?_
  refine W_seq ?_
  have hd10 : n = 0 ∨ n = 1 ∨ n = 2 ∨ n = 3 ∨ n = 4 ∨ n = 5 ∨ n = 6 ∨ n = 7 ∨ n = 8 ∨ n = 9 := by omega
  rcases hd10 with rfl | rfl | rfl | rfl | rfl | rfl | rfl | rfl | rfl | rfl
  ·
   refine W_region_lit ?_
   refine Lq (int 0) rfl rfl rfl rfl ?_
   refine Lq (int 0) rfl rfl rfl rfl ?_
   refine Lq (int 1) rfl rfl rfl (by kernel_rfl) ?_
   refine Lq (.string ⟨#[48]⟩) rfl rfl rfl (by kernel_rfl) ?_
   refine Lq (.string ⟨#[48]⟩) rfl rfl rfl rfl ?_
   refine L_nil ?_
   refine W_ret ?_
   refine ⟨_, _, res_run (rs := [.tmp 2]) (vs := [(.string ⟨#[48]⟩)]) Tryd.results42 (.cons (.tmp rfl) .nil) rfl, ?_⟩
   exact ⟨by rw [itoa_small (by omega)]; rfl, hst.grow⟩
  ·
   refine W_region_lit ?_
   refine Lq (int 1) rfl rfl rfl rfl ?_
   refine Lq (int 1) rfl rfl rfl rfl ?_
   refine Lq (int 2) rfl rfl rfl (by kernel_rfl) ?_
   refine Lq (.string ⟨#[49]⟩) rfl rfl rfl (by kernel_rfl) ?_
   refine Lq (.string ⟨#[49]⟩) rfl rfl rfl rfl ?_
   refine L_nil ?_
   refine W_ret ?_
   refine ⟨_, _, res_run (rs := [.tmp 2]) (vs := [(.string ⟨#[49]⟩)]) Tryd.results42 (.cons (.tmp rfl) .nil) rfl, ?_⟩
   exact ⟨by rw [itoa_small (by omega)]; rfl, hst.grow⟩
  ·
   refine W_region_lit ?_
   refine Lq (int 2) rfl rfl rfl rfl ?_
   refine Lq (int 2) rfl rfl rfl rfl ?_
   refine Lq (int 3) rfl rfl rfl (by kernel_rfl) ?_
   refine Lq (.string ⟨#[50]⟩) rfl rfl rfl (by kernel_rfl) ?_
   refine Lq (.string ⟨#[50]⟩) rfl rfl rfl rfl ?_
   refine L_nil ?_
   refine W_ret ?_
   refine ⟨_, _, res_run (rs := [.tmp 2]) (vs := [(.string ⟨#[50]⟩)]) Tryd.results42 (.cons (.tmp rfl) .nil) rfl, ?_⟩
   exact ⟨by rw [itoa_small (by omega)]; rfl, hst.grow⟩
  ·
   refine W_region_lit ?_
   refine Lq (int 3) rfl rfl rfl rfl ?_
   refine Lq (int 3) rfl rfl rfl rfl ?_
   refine Lq (int 4) rfl rfl rfl (by kernel_rfl) ?_
   refine Lq (.string ⟨#[51]⟩) rfl rfl rfl (by kernel_rfl) ?_
   refine Lq (.string ⟨#[51]⟩) rfl rfl rfl rfl ?_
   refine L_nil ?_
   refine W_ret ?_
   refine ⟨_, _, res_run (rs := [.tmp 2]) (vs := [(.string ⟨#[51]⟩)]) Tryd.results42 (.cons (.tmp rfl) .nil) rfl, ?_⟩
   exact ⟨by rw [itoa_small (by omega)]; rfl, hst.grow⟩
  ·
   refine W_region_lit ?_
   refine Lq (int 4) rfl rfl rfl rfl ?_
   refine Lq (int 4) rfl rfl rfl rfl ?_
   refine Lq (int 5) rfl rfl rfl (by kernel_rfl) ?_
   refine Lq (.string ⟨#[52]⟩) rfl rfl rfl (by kernel_rfl) ?_
   refine Lq (.string ⟨#[52]⟩) rfl rfl rfl rfl ?_
   refine L_nil ?_
   refine W_ret ?_
   refine ⟨_, _, res_run (rs := [.tmp 2]) (vs := [(.string ⟨#[52]⟩)]) Tryd.results42 (.cons (.tmp rfl) .nil) rfl, ?_⟩
   exact ⟨by rw [itoa_small (by omega)]; rfl, hst.grow⟩
  ·
   refine W_region_lit ?_
   refine Lq (int 5) rfl rfl rfl rfl ?_
   refine Lq (int 5) rfl rfl rfl rfl ?_
   refine Lq (int 6) rfl rfl rfl (by kernel_rfl) ?_
   refine Lq (.string ⟨#[53]⟩) rfl rfl rfl (by kernel_rfl) ?_
   refine Lq (.string ⟨#[53]⟩) rfl rfl rfl rfl ?_
   refine L_nil ?_
   refine W_ret ?_
   refine ⟨_, _, res_run (rs := [.tmp 2]) (vs := [(.string ⟨#[53]⟩)]) Tryd.results42 (.cons (.tmp rfl) .nil) rfl, ?_⟩
   exact ⟨by rw [itoa_small (by omega)]; rfl, hst.grow⟩
  ·
   refine W_region_lit ?_
   refine Lq (int 6) rfl rfl rfl rfl ?_
   refine Lq (int 6) rfl rfl rfl rfl ?_
   refine Lq (int 7) rfl rfl rfl (by kernel_rfl) ?_
   refine Lq (.string ⟨#[54]⟩) rfl rfl rfl (by kernel_rfl) ?_
   refine Lq (.string ⟨#[54]⟩) rfl rfl rfl rfl ?_
   refine L_nil ?_
   refine W_ret ?_
   refine ⟨_, _, res_run (rs := [.tmp 2]) (vs := [(.string ⟨#[54]⟩)]) Tryd.results42 (.cons (.tmp rfl) .nil) rfl, ?_⟩
   exact ⟨by rw [itoa_small (by omega)]; rfl, hst.grow⟩
  ·
   refine W_region_lit ?_
   refine Lq (int 7) rfl rfl rfl rfl ?_
   refine Lq (int 7) rfl rfl rfl rfl ?_
   refine Lq (int 8) rfl rfl rfl (by kernel_rfl) ?_
   refine Lq (.string ⟨#[55]⟩) rfl rfl rfl (by kernel_rfl) ?_
   refine Lq (.string ⟨#[55]⟩) rfl rfl rfl rfl ?_
   refine L_nil ?_
   refine W_ret ?_
   refine ⟨_, _, res_run (rs := [.tmp 2]) (vs := [(.string ⟨#[55]⟩)]) Tryd.results42 (.cons (.tmp rfl) .nil) rfl, ?_⟩
   exact ⟨by rw [itoa_small (by omega)]; rfl, hst.grow⟩
  ·
   refine W_region_lit ?_
   refine Lq (int 8) rfl rfl rfl rfl ?_
   refine Lq (int 8) rfl rfl rfl rfl ?_
   refine Lq (int 9) rfl rfl rfl (by kernel_rfl) ?_
   refine Lq (.string ⟨#[56]⟩) rfl rfl rfl (by kernel_rfl) ?_
   refine Lq (.string ⟨#[56]⟩) rfl rfl rfl rfl ?_
   refine L_nil ?_
   refine W_ret ?_
   refine ⟨_, _, res_run (rs := [.tmp 2]) (vs := [(.string ⟨#[56]⟩)]) Tryd.results42 (.cons (.tmp rfl) .nil) rfl, ?_⟩
   exact ⟨by rw [itoa_small (by omega)]; rfl, hst.grow⟩
  ·
   refine W_region_lit ?_
   refine Lq (int 9) rfl rfl rfl rfl ?_
   refine Lq (int 9) rfl rfl rfl rfl ?_
   refine Lq (int 10) rfl rfl rfl (by kernel_rfl) ?_
   refine Lq (.string ⟨#[57]⟩) rfl rfl rfl (by kernel_rfl) ?_
   refine Lq (.string ⟨#[57]⟩) rfl rfl rfl rfl ?_
   refine L_nil ?_
   refine W_ret ?_
   refine ⟨_, _, res_run (rs := [.tmp 2]) (vs := [(.string ⟨#[57]⟩)]) Tryd.results42 (.cons (.tmp rfl) .nil) rfl, ?_⟩
   exact ⟨by rw [itoa_small (by omega)]; rfl, hst.grow⟩
 ·
  have q5 := of_decide_eq_false c3
  refine W_cond_false (by show Value.bool _ = _; exact congrArg Value.bool c3) ?_
  refine W_skip ?_
  refine W_seq ?_
  refine W_seq ?_
  refine W_region_lit ?_
  refine Lq (int (n : Int)) rfl rfl rfl rfl ?_
  refine Lq (.bool (decide ((n : Int) < 0))) rfl rfl rfl (by kernel_rfl) ?_
  refine L_nil ?_
  have c6 : (decide ((n : Int) < 0)) = false := decide_eq_false (by omega)
  have q7 := of_decide_eq_false c6
  refine W_cond_false (by show Value.bool _ = _; exact congrArg Value.bool c6) ?_
  refine W_skip ?_
  refine W_seq ?_
  have hd10 : n % 10 = 0 ∨ n % 10 = 1 ∨ n % 10 = 2 ∨ n % 10 = 3 ∨ n % 10 = 4 ∨ n % 10 = 5 ∨ n % 10 = 6 ∨ n % 10 = 7 ∨ n % 10 = 8 ∨ n % 10 = 9 := by omega
  rcases hd10 with hdig | hdig | hdig | hdig | hdig | hdig | hdig | hdig | hdig | hdig
  ·
   refine W_region_draw [] (fun w => Le R (hp w)) hmix (by decide +kernel) (fun _ _ h => h) ?_
   have hst9 := hst.draws (w.drawn + 1)
   generalize draws w (w.drawn + 1) = w8 at hst9 ⊢
   refine LP (int (n : Int)) 0 rfl rfl rfl (fun u11 => rfl) hst9.rle' ?_
   refine LP (int (((n / 10) : Nat) : Int)) 1 rfl rfl rfl (fun u14 => (x_quo_nat (b := 10) rfl rfl rfl (by omega) (by omega))) hst9.rle' ?_
   refine LP (int (n : Int)) 3 rfl rfl rfl (fun u19 => rfl) hst9.rle' ?_
   refine LP (int 0) 4 rfl rfl rfl (fun u24 => (x_rem_dig (b := 10) rfl rfl rfl (by omega) hdig)) hst9.rle' ?_
   refine LP (int (n : Int)) 5 rfl rfl rfl (fun u29 => rfl) hst9.rle' ?_
   refine LP (int 0) 6 rfl rfl rfl (fun u34 => (x_rem_dig (b := 10) rfl rfl rfl (by omega) hdig)) hst9.rle' ?_
   refine LP (int 1) 7 rfl rfl rfl (fun u39 => (by kernel_rfl)) hst9.rle' ?_
   refine LT (.string ⟨#[48]⟩) 8 rfl rfl rfl (fun u44 hF45 => (by kernel_rfl)) hst9.rle' ?_
   refine LA_all [2] (by decide +kernel) (by simp) ?_
   intro i_ hi_
   simp only [List.mem_cons, List.not_mem_nil, or_false] at hi_
   subst hi_
   refine One_call (i := 2) rfl rfl rfl (Want.plain rfl) (x_call (vs := #[(int (((n / 10) : Nat) : Int))]) rfl rfl (by kernel_rfl) ent_42) (ih (n / 10) (by omega) (by omega) (Le.refl _)) ?_
   rintro e51 w49 ⟨rfl, hw52⟩
   have hst50 := hst9.grown hw52
   refine ⟨_, rfl, (fun _ => hst50.rle'), ?_⟩
   refine LP (.string (((Wd.i (((n / 10) : Nat) : Int)).txt) ++ ⟨#[48]⟩)) 9 rfl rfl rfl (fun u54 => (x_strcat rfl rfl rfl (dec_room (by omega)))) hst50.rle' ?_
   refine LP (.string (((Wd.i (((n / 10) : Nat) : Int)).txt) ++ ⟨#[48]⟩)) 10 rfl rfl rfl (fun u57 => rfl) hst50.rle' ?_
   refine LA_done (by decide +kernel) ?_
   refine W_ret ?_
   refine ⟨_, _, res_run (rs := [.tmp 2]) (vs := [(.string (((Wd.i (((n / 10) : Nat) : Int)).txt) ++ ⟨#[48]⟩))]) Tryd.results42 (.cons (.tmp rfl) .nil) rfl, ?_⟩
   exact ⟨by rw [itoa_big (by omega) hdig]; rfl, hst50.grow⟩
  ·
   refine W_region_draw [] (fun w => Le R (hp w)) hmix (by decide +kernel) (fun _ _ h => h) ?_
   have hst60 := hst.draws (w.drawn + 1)
   generalize draws w (w.drawn + 1) = w59 at hst60 ⊢
   refine LP (int (n : Int)) 0 rfl rfl rfl (fun u62 => rfl) hst60.rle' ?_
   refine LP (int (((n / 10) : Nat) : Int)) 1 rfl rfl rfl (fun u65 => (x_quo_nat (b := 10) rfl rfl rfl (by omega) (by omega))) hst60.rle' ?_
   refine LP (int (n : Int)) 3 rfl rfl rfl (fun u70 => rfl) hst60.rle' ?_
   refine LP (int 1) 4 rfl rfl rfl (fun u75 => (x_rem_dig (b := 10) rfl rfl rfl (by omega) hdig)) hst60.rle' ?_
   refine LP (int (n : Int)) 5 rfl rfl rfl (fun u80 => rfl) hst60.rle' ?_
   refine LP (int 1) 6 rfl rfl rfl (fun u85 => (x_rem_dig (b := 10) rfl rfl rfl (by omega) hdig)) hst60.rle' ?_
   refine LP (int 2) 7 rfl rfl rfl (fun u90 => (by kernel_rfl)) hst60.rle' ?_
   refine LT (.string ⟨#[49]⟩) 8 rfl rfl rfl (fun u95 hF96 => (by kernel_rfl)) hst60.rle' ?_
   refine LA_all [2] (by decide +kernel) (by simp) ?_
   intro i_ hi_
   simp only [List.mem_cons, List.not_mem_nil, or_false] at hi_
   subst hi_
   refine One_call (i := 2) rfl rfl rfl (Want.plain rfl) (x_call (vs := #[(int (((n / 10) : Nat) : Int))]) rfl rfl (by kernel_rfl) ent_42) (ih (n / 10) (by omega) (by omega) (Le.refl _)) ?_
   rintro e102 w100 ⟨rfl, hw103⟩
   have hst101 := hst60.grown hw103
   refine ⟨_, rfl, (fun _ => hst101.rle'), ?_⟩
   refine LP (.string (((Wd.i (((n / 10) : Nat) : Int)).txt) ++ ⟨#[49]⟩)) 9 rfl rfl rfl (fun u105 => (x_strcat rfl rfl rfl (dec_room (by omega)))) hst101.rle' ?_
   refine LP (.string (((Wd.i (((n / 10) : Nat) : Int)).txt) ++ ⟨#[49]⟩)) 10 rfl rfl rfl (fun u108 => rfl) hst101.rle' ?_
   refine LA_done (by decide +kernel) ?_
   refine W_ret ?_
   refine ⟨_, _, res_run (rs := [.tmp 2]) (vs := [(.string (((Wd.i (((n / 10) : Nat) : Int)).txt) ++ ⟨#[49]⟩))]) Tryd.results42 (.cons (.tmp rfl) .nil) rfl, ?_⟩
   exact ⟨by rw [itoa_big (by omega) hdig]; rfl, hst101.grow⟩
  ·
   refine W_region_draw [] (fun w => Le R (hp w)) hmix (by decide +kernel) (fun _ _ h => h) ?_
   have hst111 := hst.draws (w.drawn + 1)
   generalize draws w (w.drawn + 1) = w110 at hst111 ⊢
   refine LP (int (n : Int)) 0 rfl rfl rfl (fun u113 => rfl) hst111.rle' ?_
   refine LP (int (((n / 10) : Nat) : Int)) 1 rfl rfl rfl (fun u116 => (x_quo_nat (b := 10) rfl rfl rfl (by omega) (by omega))) hst111.rle' ?_
   refine LP (int (n : Int)) 3 rfl rfl rfl (fun u121 => rfl) hst111.rle' ?_
   refine LP (int 2) 4 rfl rfl rfl (fun u126 => (x_rem_dig (b := 10) rfl rfl rfl (by omega) hdig)) hst111.rle' ?_
   refine LP (int (n : Int)) 5 rfl rfl rfl (fun u131 => rfl) hst111.rle' ?_
   refine LP (int 2) 6 rfl rfl rfl (fun u136 => (x_rem_dig (b := 10) rfl rfl rfl (by omega) hdig)) hst111.rle' ?_
   refine LP (int 3) 7 rfl rfl rfl (fun u141 => (by kernel_rfl)) hst111.rle' ?_
   refine LT (.string ⟨#[50]⟩) 8 rfl rfl rfl (fun u146 hF147 => (by kernel_rfl)) hst111.rle' ?_
   refine LA_all [2] (by decide +kernel) (by simp) ?_
   intro i_ hi_
   simp only [List.mem_cons, List.not_mem_nil, or_false] at hi_
   subst hi_
   refine One_call (i := 2) rfl rfl rfl (Want.plain rfl) (x_call (vs := #[(int (((n / 10) : Nat) : Int))]) rfl rfl (by kernel_rfl) ent_42) (ih (n / 10) (by omega) (by omega) (Le.refl _)) ?_
   rintro e153 w151 ⟨rfl, hw154⟩
   have hst152 := hst111.grown hw154
   refine ⟨_, rfl, (fun _ => hst152.rle'), ?_⟩
   refine LP (.string (((Wd.i (((n / 10) : Nat) : Int)).txt) ++ ⟨#[50]⟩)) 9 rfl rfl rfl (fun u156 => (x_strcat rfl rfl rfl (dec_room (by omega)))) hst152.rle' ?_
   refine LP (.string (((Wd.i (((n / 10) : Nat) : Int)).txt) ++ ⟨#[50]⟩)) 10 rfl rfl rfl (fun u159 => rfl) hst152.rle' ?_
   refine LA_done (by decide +kernel) ?_
   refine W_ret ?_
   refine ⟨_, _, res_run (rs := [.tmp 2]) (vs := [(.string (((Wd.i (((n / 10) : Nat) : Int)).txt) ++ ⟨#[50]⟩))]) Tryd.results42 (.cons (.tmp rfl) .nil) rfl, ?_⟩
   exact ⟨by rw [itoa_big (by omega) hdig]; rfl, hst152.grow⟩
  ·
   refine W_region_draw [] (fun w => Le R (hp w)) hmix (by decide +kernel) (fun _ _ h => h) ?_
   have hst162 := hst.draws (w.drawn + 1)
   generalize draws w (w.drawn + 1) = w161 at hst162 ⊢
   refine LP (int (n : Int)) 0 rfl rfl rfl (fun u164 => rfl) hst162.rle' ?_
   refine LP (int (((n / 10) : Nat) : Int)) 1 rfl rfl rfl (fun u167 => (x_quo_nat (b := 10) rfl rfl rfl (by omega) (by omega))) hst162.rle' ?_
   refine LP (int (n : Int)) 3 rfl rfl rfl (fun u172 => rfl) hst162.rle' ?_
   refine LP (int 3) 4 rfl rfl rfl (fun u177 => (x_rem_dig (b := 10) rfl rfl rfl (by omega) hdig)) hst162.rle' ?_
   refine LP (int (n : Int)) 5 rfl rfl rfl (fun u182 => rfl) hst162.rle' ?_
   refine LP (int 3) 6 rfl rfl rfl (fun u187 => (x_rem_dig (b := 10) rfl rfl rfl (by omega) hdig)) hst162.rle' ?_
   refine LP (int 4) 7 rfl rfl rfl (fun u192 => (by kernel_rfl)) hst162.rle' ?_
   refine LT (.string ⟨#[51]⟩) 8 rfl rfl rfl (fun u197 hF198 => (by kernel_rfl)) hst162.rle' ?_
   refine LA_all [2] (by decide +kernel) (by simp) ?_
   intro i_ hi_
   simp only [List.mem_cons, List.not_mem_nil, or_false] at hi_
   subst hi_
   refine One_call (i := 2) rfl rfl rfl (Want.plain rfl) (x_call (vs := #[(int (((n / 10) : Nat) : Int))]) rfl rfl (by kernel_rfl) ent_42) (ih (n / 10) (by omega) (by omega) (Le.refl _)) ?_
   rintro e204 w202 ⟨rfl, hw205⟩
   have hst203 := hst162.grown hw205
   refine ⟨_, rfl, (fun _ => hst203.rle'), ?_⟩
   refine LP (.string (((Wd.i (((n / 10) : Nat) : Int)).txt) ++ ⟨#[51]⟩)) 9 rfl rfl rfl (fun u207 => (x_strcat rfl rfl rfl (dec_room (by omega)))) hst203.rle' ?_
   refine LP (.string (((Wd.i (((n / 10) : Nat) : Int)).txt) ++ ⟨#[51]⟩)) 10 rfl rfl rfl (fun u210 => rfl) hst203.rle' ?_
   refine LA_done (by decide +kernel) ?_
   refine W_ret ?_
   refine ⟨_, _, res_run (rs := [.tmp 2]) (vs := [(.string (((Wd.i (((n / 10) : Nat) : Int)).txt) ++ ⟨#[51]⟩))]) Tryd.results42 (.cons (.tmp rfl) .nil) rfl, ?_⟩
   exact ⟨by rw [itoa_big (by omega) hdig]; rfl, hst203.grow⟩
  ·
   refine W_region_draw [] (fun w => Le R (hp w)) hmix (by decide +kernel) (fun _ _ h => h) ?_
   have hst213 := hst.draws (w.drawn + 1)
   generalize draws w (w.drawn + 1) = w212 at hst213 ⊢
   refine LP (int (n : Int)) 0 rfl rfl rfl (fun u215 => rfl) hst213.rle' ?_
   refine LP (int (((n / 10) : Nat) : Int)) 1 rfl rfl rfl (fun u218 => (x_quo_nat (b := 10) rfl rfl rfl (by omega) (by omega))) hst213.rle' ?_
   refine LP (int (n : Int)) 3 rfl rfl rfl (fun u223 => rfl) hst213.rle' ?_
   refine LP (int 4) 4 rfl rfl rfl (fun u228 => (x_rem_dig (b := 10) rfl rfl rfl (by omega) hdig)) hst213.rle' ?_
   refine LP (int (n : Int)) 5 rfl rfl rfl (fun u233 => rfl) hst213.rle' ?_
   refine LP (int 4) 6 rfl rfl rfl (fun u238 => (x_rem_dig (b := 10) rfl rfl rfl (by omega) hdig)) hst213.rle' ?_
   refine LP (int 5) 7 rfl rfl rfl (fun u243 => (by kernel_rfl)) hst213.rle' ?_
   refine LT (.string ⟨#[52]⟩) 8 rfl rfl rfl (fun u248 hF249 => (by kernel_rfl)) hst213.rle' ?_
   refine LA_all [2] (by decide +kernel) (by simp) ?_
   intro i_ hi_
   simp only [List.mem_cons, List.not_mem_nil, or_false] at hi_
   subst hi_
   refine One_call (i := 2) rfl rfl rfl (Want.plain rfl) (x_call (vs := #[(int (((n / 10) : Nat) : Int))]) rfl rfl (by kernel_rfl) ent_42) (ih (n / 10) (by omega) (by omega) (Le.refl _)) ?_
   rintro e255 w253 ⟨rfl, hw256⟩
   have hst254 := hst213.grown hw256
   refine ⟨_, rfl, (fun _ => hst254.rle'), ?_⟩
   refine LP (.string (((Wd.i (((n / 10) : Nat) : Int)).txt) ++ ⟨#[52]⟩)) 9 rfl rfl rfl (fun u258 => (x_strcat rfl rfl rfl (dec_room (by omega)))) hst254.rle' ?_
   refine LP (.string (((Wd.i (((n / 10) : Nat) : Int)).txt) ++ ⟨#[52]⟩)) 10 rfl rfl rfl (fun u261 => rfl) hst254.rle' ?_
   refine LA_done (by decide +kernel) ?_
   refine W_ret ?_
   refine ⟨_, _, res_run (rs := [.tmp 2]) (vs := [(.string (((Wd.i (((n / 10) : Nat) : Int)).txt) ++ ⟨#[52]⟩))]) Tryd.results42 (.cons (.tmp rfl) .nil) rfl, ?_⟩
   exact ⟨by rw [itoa_big (by omega) hdig]; rfl, hst254.grow⟩
  ·
   refine W_region_draw [] (fun w => Le R (hp w)) hmix (by decide +kernel) (fun _ _ h => h) ?_
   have hst264 := hst.draws (w.drawn + 1)
   generalize draws w (w.drawn + 1) = w263 at hst264 ⊢
   refine LP (int (n : Int)) 0 rfl rfl rfl (fun u266 => rfl) hst264.rle' ?_
   refine LP (int (((n / 10) : Nat) : Int)) 1 rfl rfl rfl (fun u269 => (x_quo_nat (b := 10) rfl rfl rfl (by omega) (by omega))) hst264.rle' ?_
   refine LP (int (n : Int)) 3 rfl rfl rfl (fun u274 => rfl) hst264.rle' ?_
   refine LP (int 5) 4 rfl rfl rfl (fun u279 => (x_rem_dig (b := 10) rfl rfl rfl (by omega) hdig)) hst264.rle' ?_
   refine LP (int (n : Int)) 5 rfl rfl rfl (fun u284 => rfl) hst264.rle' ?_
   refine LP (int 5) 6 rfl rfl rfl (fun u289 => (x_rem_dig (b := 10) rfl rfl rfl (by omega) hdig)) hst264.rle' ?_
   refine LP (int 6) 7 rfl rfl rfl (fun u294 => (by kernel_rfl)) hst264.rle' ?_
   refine LT (.string ⟨#[53]⟩) 8 rfl rfl rfl (fun u299 hF300 => (by kernel_rfl)) hst264.rle' ?_
   refine LA_all [2] (by decide +kernel) (by simp) ?_
   intro i_ hi_
   simp only [List.mem_cons, List.not_mem_nil, or_false] at hi_
   subst hi_
   refine One_call (i := 2) rfl rfl rfl (Want.plain rfl) (x_call (vs := #[(int (((n / 10) : Nat) : Int))]) rfl rfl (by kernel_rfl) ent_42) (ih (n / 10) (by omega) (by omega) (Le.refl _)) ?_
   rintro e306 w304 ⟨rfl, hw307⟩
   have hst305 := hst264.grown hw307
   refine ⟨_, rfl, (fun _ => hst305.rle'), ?_⟩
   refine LP (.string (((Wd.i (((n / 10) : Nat) : Int)).txt) ++ ⟨#[53]⟩)) 9 rfl rfl rfl (fun u309 => (x_strcat rfl rfl rfl (dec_room (by omega)))) hst305.rle' ?_
   refine LP (.string (((Wd.i (((n / 10) : Nat) : Int)).txt) ++ ⟨#[53]⟩)) 10 rfl rfl rfl (fun u312 => rfl) hst305.rle' ?_
   refine LA_done (by decide +kernel) ?_
   refine W_ret ?_
   refine ⟨_, _, res_run (rs := [.tmp 2]) (vs := [(.string (((Wd.i (((n / 10) : Nat) : Int)).txt) ++ ⟨#[53]⟩))]) Tryd.results42 (.cons (.tmp rfl) .nil) rfl, ?_⟩
   exact ⟨by rw [itoa_big (by omega) hdig]; rfl, hst305.grow⟩
  ·
   refine W_region_draw [] (fun w => Le R (hp w)) hmix (by decide +kernel) (fun _ _ h => h) ?_
   have hst315 := hst.draws (w.drawn + 1)
   generalize draws w (w.drawn + 1) = w314 at hst315 ⊢
   refine LP (int (n : Int)) 0 rfl rfl rfl (fun u317 => rfl) hst315.rle' ?_
   refine LP (int (((n / 10) : Nat) : Int)) 1 rfl rfl rfl (fun u320 => (x_quo_nat (b := 10) rfl rfl rfl (by omega) (by omega))) hst315.rle' ?_
   refine LP (int (n : Int)) 3 rfl rfl rfl (fun u325 => rfl) hst315.rle' ?_
   refine LP (int 6) 4 rfl rfl rfl (fun u330 => (x_rem_dig (b := 10) rfl rfl rfl (by omega) hdig)) hst315.rle' ?_
   refine LP (int (n : Int)) 5 rfl rfl rfl (fun u335 => rfl) hst315.rle' ?_
   refine LP (int 6) 6 rfl rfl rfl (fun u340 => (x_rem_dig (b := 10) rfl rfl rfl (by omega) hdig)) hst315.rle' ?_
   refine LP (int 7) 7 rfl rfl rfl (fun u345 => (by kernel_rfl)) hst315.rle' ?_
   refine LT (.string ⟨#[54]⟩) 8 rfl rfl rfl (fun u350 hF351 => (by kernel_rfl)) hst315.rle' ?_
   refine LA_all [2] (by decide +kernel) (by simp) ?_
   intro i_ hi_
   simp only [List.mem_cons, List.not_mem_nil, or_false] at hi_
   subst hi_
   refine One_call (i := 2) rfl rfl rfl (Want.plain rfl) (x_call (vs := #[(int (((n / 10) : Nat) : Int))]) rfl rfl (by kernel_rfl) ent_42) (ih (n / 10) (by omega) (by omega) (Le.refl _)) ?_
   rintro e357 w355 ⟨rfl, hw358⟩
   have hst356 := hst315.grown hw358
   refine ⟨_, rfl, (fun _ => hst356.rle'), ?_⟩
   refine LP (.string (((Wd.i (((n / 10) : Nat) : Int)).txt) ++ ⟨#[54]⟩)) 9 rfl rfl rfl (fun u360 => (x_strcat rfl rfl rfl (dec_room (by omega)))) hst356.rle' ?_
   refine LP (.string (((Wd.i (((n / 10) : Nat) : Int)).txt) ++ ⟨#[54]⟩)) 10 rfl rfl rfl (fun u363 => rfl) hst356.rle' ?_
   refine LA_done (by decide +kernel) ?_
   refine W_ret ?_
   refine ⟨_, _, res_run (rs := [.tmp 2]) (vs := [(.string (((Wd.i (((n / 10) : Nat) : Int)).txt) ++ ⟨#[54]⟩))]) Tryd.results42 (.cons (.tmp rfl) .nil) rfl, ?_⟩
   exact ⟨by rw [itoa_big (by omega) hdig]; rfl, hst356.grow⟩
  ·
   refine W_region_draw [] (fun w => Le R (hp w)) hmix (by decide +kernel) (fun _ _ h => h) ?_
   have hst366 := hst.draws (w.drawn + 1)
   generalize draws w (w.drawn + 1) = w365 at hst366 ⊢
   refine LP (int (n : Int)) 0 rfl rfl rfl (fun u368 => rfl) hst366.rle' ?_
   refine LP (int (((n / 10) : Nat) : Int)) 1 rfl rfl rfl (fun u371 => (x_quo_nat (b := 10) rfl rfl rfl (by omega) (by omega))) hst366.rle' ?_
   refine LP (int (n : Int)) 3 rfl rfl rfl (fun u376 => rfl) hst366.rle' ?_
   refine LP (int 7) 4 rfl rfl rfl (fun u381 => (x_rem_dig (b := 10) rfl rfl rfl (by omega) hdig)) hst366.rle' ?_
   refine LP (int (n : Int)) 5 rfl rfl rfl (fun u386 => rfl) hst366.rle' ?_
   refine LP (int 7) 6 rfl rfl rfl (fun u391 => (x_rem_dig (b := 10) rfl rfl rfl (by omega) hdig)) hst366.rle' ?_
   refine LP (int 8) 7 rfl rfl rfl (fun u396 => (by kernel_rfl)) hst366.rle' ?_
   refine LT (.string ⟨#[55]⟩) 8 rfl rfl rfl (fun u401 hF402 => (by kernel_rfl)) hst366.rle' ?_
   refine LA_all [2] (by decide +kernel) (by simp) ?_
   intro i_ hi_
   simp only [List.mem_cons, List.not_mem_nil, or_false] at hi_
   subst hi_
   refine One_call (i := 2) rfl rfl rfl (Want.plain rfl) (x_call (vs := #[(int (((n / 10) : Nat) : Int))]) rfl rfl (by kernel_rfl) ent_42) (ih (n / 10) (by omega) (by omega) (Le.refl _)) ?_
   rintro e408 w406 ⟨rfl, hw409⟩
   have hst407 := hst366.grown hw409
   refine ⟨_, rfl, (fun _ => hst407.rle'), ?_⟩
   refine LP (.string (((Wd.i (((n / 10) : Nat) : Int)).txt) ++ ⟨#[55]⟩)) 9 rfl rfl rfl (fun u411 => (x_strcat rfl rfl rfl (dec_room (by omega)))) hst407.rle' ?_
   refine LP (.string (((Wd.i (((n / 10) : Nat) : Int)).txt) ++ ⟨#[55]⟩)) 10 rfl rfl rfl (fun u414 => rfl) hst407.rle' ?_
   refine LA_done (by decide +kernel) ?_
   refine W_ret ?_
   refine ⟨_, _, res_run (rs := [.tmp 2]) (vs := [(.string (((Wd.i (((n / 10) : Nat) : Int)).txt) ++ ⟨#[55]⟩))]) Tryd.results42 (.cons (.tmp rfl) .nil) rfl, ?_⟩
   exact ⟨by rw [itoa_big (by omega) hdig]; rfl, hst407.grow⟩
  ·
   refine W_region_draw [] (fun w => Le R (hp w)) hmix (by decide +kernel) (fun _ _ h => h) ?_
   have hst417 := hst.draws (w.drawn + 1)
   generalize draws w (w.drawn + 1) = w416 at hst417 ⊢
   refine LP (int (n : Int)) 0 rfl rfl rfl (fun u419 => rfl) hst417.rle' ?_
   refine LP (int (((n / 10) : Nat) : Int)) 1 rfl rfl rfl (fun u422 => (x_quo_nat (b := 10) rfl rfl rfl (by omega) (by omega))) hst417.rle' ?_
   refine LP (int (n : Int)) 3 rfl rfl rfl (fun u427 => rfl) hst417.rle' ?_
   refine LP (int 8) 4 rfl rfl rfl (fun u432 => (x_rem_dig (b := 10) rfl rfl rfl (by omega) hdig)) hst417.rle' ?_
   refine LP (int (n : Int)) 5 rfl rfl rfl (fun u437 => rfl) hst417.rle' ?_
   refine LP (int 8) 6 rfl rfl rfl (fun u442 => (x_rem_dig (b := 10) rfl rfl rfl (by omega) hdig)) hst417.rle' ?_
   refine LP (int 9) 7 rfl rfl rfl (fun u447 => (by kernel_rfl)) hst417.rle' ?_
   refine LT (.string ⟨#[56]⟩) 8 rfl rfl rfl (fun u452 hF453 => (by kernel_rfl)) hst417.rle' ?_
   refine LA_all [2] (by decide +kernel) (by simp) ?_
   intro i_ hi_
   simp only [List.mem_cons, List.not_mem_nil, or_false] at hi_
   subst hi_
   refine One_call (i := 2) rfl rfl rfl (Want.plain rfl) (x_call (vs := #[(int (((n / 10) : Nat) : Int))]) rfl rfl (by kernel_rfl) ent_42) (ih (n / 10) (by omega) (by omega) (Le.refl _)) ?_
   rintro e459 w457 ⟨rfl, hw460⟩
   have hst458 := hst417.grown hw460
   refine ⟨_, rfl, (fun _ => hst458.rle'), ?_⟩
   refine LP (.string (((Wd.i (((n / 10) : Nat) : Int)).txt) ++ ⟨#[56]⟩)) 9 rfl rfl rfl (fun u462 => (x_strcat rfl rfl rfl (dec_room (by omega)))) hst458.rle' ?_
   refine LP (.string (((Wd.i (((n / 10) : Nat) : Int)).txt) ++ ⟨#[56]⟩)) 10 rfl rfl rfl (fun u465 => rfl) hst458.rle' ?_
   refine LA_done (by decide +kernel) ?_
   refine W_ret ?_
   refine ⟨_, _, res_run (rs := [.tmp 2]) (vs := [(.string (((Wd.i (((n / 10) : Nat) : Int)).txt) ++ ⟨#[56]⟩))]) Tryd.results42 (.cons (.tmp rfl) .nil) rfl, ?_⟩
   exact ⟨by rw [itoa_big (by omega) hdig]; rfl, hst458.grow⟩
  ·
   refine W_region_draw [] (fun w => Le R (hp w)) hmix (by decide +kernel) (fun _ _ h => h) ?_
   have hst468 := hst.draws (w.drawn + 1)
   generalize draws w (w.drawn + 1) = w467 at hst468 ⊢
   refine LP (int (n : Int)) 0 rfl rfl rfl (fun u470 => rfl) hst468.rle' ?_
   refine LP (int (((n / 10) : Nat) : Int)) 1 rfl rfl rfl (fun u473 => (x_quo_nat (b := 10) rfl rfl rfl (by omega) (by omega))) hst468.rle' ?_
   refine LP (int (n : Int)) 3 rfl rfl rfl (fun u478 => rfl) hst468.rle' ?_
   refine LP (int 9) 4 rfl rfl rfl (fun u483 => (x_rem_dig (b := 10) rfl rfl rfl (by omega) hdig)) hst468.rle' ?_
   refine LP (int (n : Int)) 5 rfl rfl rfl (fun u488 => rfl) hst468.rle' ?_
   refine LP (int 9) 6 rfl rfl rfl (fun u493 => (x_rem_dig (b := 10) rfl rfl rfl (by omega) hdig)) hst468.rle' ?_
   refine LP (int 10) 7 rfl rfl rfl (fun u498 => (by kernel_rfl)) hst468.rle' ?_
   refine LT (.string ⟨#[57]⟩) 8 rfl rfl rfl (fun u503 hF504 => (by kernel_rfl)) hst468.rle' ?_
   refine LA_all [2] (by decide +kernel) (by simp) ?_
   intro i_ hi_
   simp only [List.mem_cons, List.not_mem_nil, or_false] at hi_
   subst hi_
   refine One_call (i := 2) rfl rfl rfl (Want.plain rfl) (x_call (vs := #[(int (((n / 10) : Nat) : Int))]) rfl rfl (by kernel_rfl) ent_42) (ih (n / 10) (by omega) (by omega) (Le.refl _)) ?_
   rintro e510 w508 ⟨rfl, hw511⟩
   have hst509 := hst468.grown hw511
   refine ⟨_, rfl, (fun _ => hst509.rle'), ?_⟩
   refine LP (.string (((Wd.i (((n / 10) : Nat) : Int)).txt) ++ ⟨#[57]⟩)) 9 rfl rfl rfl (fun u513 => (x_strcat rfl rfl rfl (dec_room (by omega)))) hst509.rle' ?_
   refine LP (.string (((Wd.i (((n / 10) : Nat) : Int)).txt) ++ ⟨#[57]⟩)) 10 rfl rfl rfl (fun u516 => rfl) hst509.rle' ?_
   refine LA_done (by decide +kernel) ?_
   refine W_ret ?_
   refine ⟨_, _, res_run (rs := [.tmp 2]) (vs := [(.string (((Wd.i (((n / 10) : Nat) : Int)).txt) ++ ⟨#[57]⟩))]) Tryd.results42 (.cons (.tmp rfl) .nil) rfl, ?_⟩
   exact ⟨by rw [itoa_big (by omega) hdig]; rfl, hst509.grow⟩

theorem Decimal_spec {w : World} {R : Hp} (n : Int) (h0 : 0 ≤ n) (h1 : n ≤ 1000000000) (hR : Le R (hp w)) : Calls Tryd.prog 42 #[int n] w fun e w' => e = .returned (.string (Wd.i n).txt) ∧ Grow w w' := by
  have h := Decimal_nat (w := w) (R := R) n.toNat (by omega) hR
  rwa [Int.toNat_of_nonneg h0] at h

set_option maxHeartbeats 4000000 in
theorem BackR_spec {w : World} {R c : Hp} {m : Nat} {s : PS} (k : Pl) (hs : Sats w R [c]) (href : RefP R m s c) (hn : s.n ≤ 1000000000) :
    Calls Tryd.prog 33 #[ptr m 0, kk k] w (Comes' w R [c] fun v' R' L' => ∃ c', v' = .bool (s.back k).2 ∧ L' = [c'] ∧ RefP R' m ((s.back k).1) c') := by
 obtain ⟨xs, vL, vD, cL, cX, cD, hce, hd1, hd2, hd3, hL, hX, hD, hsr, hag, hln, hok⟩ := href
 have hst1 : Step w R [c] w R [uni (refB m s vL vD) (tri cL cX cD)] := by have h0 := Step.refl hs; rw [hce] at h0 ⊢; exact h0
 have hst := RefP.opened hst1 hd1 hd2 hd3
 clear hst1 hce hd1 hd2 hd3
 obtain ⟨hb1, hb2⟩ := hok.sample
 obtain ⟨hb3, hb4⟩ := hok.warm
 obtain ⟨hb5, hb6⟩ := hok.hot
 obtain ⟨hb7, hb8⟩ := hok.cold
 have hb9 := hok.decs
 have hple := pos_le xs k
 refine calls_of_W (n := 145) Tryd.func33 rfl Tryd.ntmps33 (Nat.le_of_ble_eq_true rfl) ?_
 refine W_seq ?_
 refine W_region_lit ?_
 refine L_new hst (v := fun b => ptr b 0) (ob := .cells #[(int k.1), (int k.2)] 43 (0, 0)) rfl rfl rfl (by kernel_rfl) (fun b1 w2 hst3 => ?_)
 refine Lq (.bool false) rfl rfl rfl rfl ?_
 refine L_nil ?_
 refine W_seq ?_
 refine W_region_lit ?_
 refine Lq (ptr m 0) rfl rfl rfl rfl ?_
 refine Lq (.agg #[(int k.1), (int k.2)]) rfl rfl rfl (x_load rfl rfl (run_loadVar_agg ti_43 (hst3.b 0) (l := [(int k.1), (int k.2)]) rfl rfl)) ?_
 refine L_callG hst3 (v := (.tuple #[(int (((pos xs k) : Nat) : Int)), (.bool (thr xs k))])) rfl rfl rfl (x_call (vs := #[(ptr m 0), (.agg #[(int k.1), (int k.2)])]) rfl rfl (by kernel_rfl) ent_45) (place_spec (s := s) (xs := xs) k (hst3.g 1) (OwnL.freeze hL hst3.rle' (hst3.g 2)) (Le.refl _) (by omega)) (fun w4 hst5 => ?_)
 refine Lq (.tuple #[(int (((pos xs k) : Nat) : Int)), (.bool (thr xs k))]) rfl rfl rfl rfl ?_
 refine Lq (int (((pos xs k) : Nat) : Int)) rfl rfl rfl (by kernel_rfl) ?_
 refine Lq (.bool (thr xs k)) rfl rfl rfl (by kernel_rfl) ?_
 refine Lq (int (((pos xs k) : Nat) : Int)) rfl rfl rfl rfl ?_
 refine Lq (.bool (thr xs k)) rfl rfl rfl rfl ?_
 refine L_nil ?_
 refine W_seq ?_
 refine W_seq ?_
 rcases Bool.eq_false_or_eq_true (thr xs k) with hth | hth
 ·
  obtain ⟨hj, r, v, hx, hgr, hset⟩ := thr_open hth hsr hag
  have hrc := PS.rc_some hgr
  have hro := hok.recs k r hgr
  obtain ⟨hr6, hr7⟩ := hro.tier
  obtain ⟨hr8, hr9⟩ := hro.calls
  obtain ⟨hr10, hr11⟩ := hro.count
  obtain ⟨hr12, hr13⟩ := hro.failures
  have hvone : v.oneCell' = true := by obtain ⟨_, _, he_, _⟩ := hX.look _ hj; rw [hx] at he_; exact spOne he_
  refine W_region_lit ?_
  refine Lq (.bool (thr xs k)) rfl rfl rfl rfl ?_
  refine Lq (.bool (!(thr xs k))) rfl rfl rfl rfl ?_
  refine L_nil ?_
  refine W_cond_false (by show Value.bool _ = _; exact congrArg Value.bool (by rw [hth]; rfl)) ?_
  refine W_skip ?_
  refine W_seq ?_
  refine W_seq ?_
  refine W_region_lit ?_
  refine Lq (ptr m 0) rfl rfl rfl rfl ?_
  refine Lq (ptr m 0) rfl rfl rfl rfl ?_
  refine Lq (ptr m 4) rfl rfl rfl (by kernel_rfl) ?_
  refine Lq vL rfl rfl rfl (x_load rfl rfl (run_loadVar_one ti_38 (hst5.b 1) rfl)) ?_
  refine Lq (int (((pos xs k) : Nat) : Int)) rfl rfl rfl rfl ?_
  obtain ⟨a14, cap15, e16, hc17⟩ := hL.value
  subst e16
  obtain ⟨b18, cap19, N20, e21, hc22, hrow23, hback24⟩ := OwnL.row hL (by omega)
  obtain ⟨rfl, hl25, rfl⟩ := Value.slice.inj e21
  try rw [← hl25] at hback24
  obtain ⟨cl26, cs27, hr28, hcb29, hsg30⟩ := Row.at hrow23 (pos xs k) (by omega)
  rw [hx] at hr28
  obtain rfl := tySp_open hr28
  refine Lq (ptr b18 (0 + (pos xs k) * 7)) rfl rfl rfl (x_indexAddr' rfl sl_38 ti_96 rfl rfl (by omega)) ?_
  refine Lq (ptr b18 (0 + (pos xs k) * 7 + 2)) rfl rfl rfl (by kernel_rfl) ?_
  refine Lq (int r.tier) rfl rfl rfl (x_load rfl rfl (run_loadVar_one ti_3 ((hst5.g 2) _ _ hcb29) (seg_get (j := 2) hsg30 rfl))) ?_
  refine Lq (.bool (decide (r.tier < 0))) rfl rfl rfl (by kernel_rfl) ?_
  refine L_nil ?_
  rcases Bool.eq_false_or_eq_true (decide (r.tier < 0)) with c31 | c31
  ·
   have q32 := of_decide_eq_true c31
   refine W_cond_true (by show Value.bool _ = _; exact congrArg Value.bool c31) ?_
   refine W_seq ?_
   refine W_region_lit ?_
   refine Lq (.bool false) rfl rfl rfl rfl ?_
   refine L_nil ?_
   refine W_ret ?_
   refine ⟨_, _, res_run (rs := [.tmp 4]) (vs := [(.bool false)]) Tryd.results33 (.cons (.tmp rfl) .nil) rfl, ?_⟩
   have he := back_neg (s := s) hrc (of_decide_eq_true c31)
   rw [he]
   obtain ⟨c', hst', href'⟩ := RefP.close (s := s.put k r) (xs := xs) ((((hst5.front 4 rfl rfl).front 4 rfl rfl).front 4 rfl rfl).front 4 rfl rfl) (hback24 R xs cL (by first | rfl | (simp only [List.length_set]; done) | (simp only [List.length_set]; omega) | omega) hrow23) hX hD hsr (hag.putSame hgr) (by show _ ≤ s.n + 1; omega) (hok.put k (hro.mono (Nat.le_succ _)))
   exact ⟨_, _, _, rfl, hst'.keepN 1 rfl, c', rfl, rfl, href'⟩
  ·
   have q33 := of_decide_eq_false c31
   refine W_cond_false (by show Value.bool _ = _; exact congrArg Value.bool c31) ?_
   refine W_skip ?_
   refine W_seq ?_
   refine W_region_lit ?_
   refine Lq (ptr m 0) rfl rfl rfl rfl ?_
   refine Lq (ptr m 0) rfl rfl rfl rfl ?_
   refine Lq (ptr m 4) rfl rfl rfl (by kernel_rfl) ?_
   refine Lq (.slice (some ⟨b18, 0, none⟩) xs.length cap15) rfl rfl rfl (x_load rfl rfl (run_loadVar_one ti_38 (hst5.b 1) rfl)) ?_
   refine Lq (int (((pos xs k) : Nat) : Int)) rfl rfl rfl rfl ?_
   obtain ⟨cl34, cs35, hr36, hcb37, hsg38⟩ := Row.at hrow23 (pos xs k) (by omega)
   rw [hx] at hr36
   obtain rfl := tySp_open hr36
   refine Lq (ptr b18 (0 + (pos xs k) * 7)) rfl rfl rfl (x_indexAddr' rfl sl_38 ti_96 rfl rfl (by omega)) ?_
   refine Lq (ptr b18 (0 + (pos xs k) * 7 + 3)) rfl rfl rfl (by kernel_rfl) ?_
   refine Lq (int r.calls) rfl rfl rfl (x_load rfl rfl (run_loadVar_one ti_3 ((hst5.g 2) _ _ hcb37) (seg_get (j := 3) hsg38 rfl))) ?_
   refine Lq (int (r.calls + 1)) rfl rfl rfl (x_add rfl rfl rfl (by constructor <;> omega)) ?_
   obtain ⟨cl39, cs40, hr41, hcb42, hsg43⟩ := Row.at hrow23 (pos xs k) (by omega)
   rw [hx] at hr41
   obtain rfl := tySp_open hr41
   refine Lq (ptr b18 (0 + (pos xs k) * 7)) rfl rfl rfl (x_indexAddr' rfl sl_38 ti_96 rfl rfl (by omega)) ?_
   refine Lq (ptr b18 (0 + (pos xs k) * 7 + 3)) rfl rfl rfl (by kernel_rfl) ?_
   obtain ⟨c44, w45, hr46, hrow47, hst48⟩ := Row.storeF (P := Tryd.prog) (v := (int (r.calls + 1))) (y := (Sp.mk k ⟨r.tier, r.calls + 1, r.count, r.failures, r.exits⟩ v)) (cl := (spCells (Sp.mk k ⟨r.tier, r.calls, r.count, r.failures, r.exits⟩ v))) hrow23 (hst5.front 2 rfl rfl) ti_3 (pos xs k) (by omega) 3 (by decide) (fun c1 h1 => by rw [hx] at h1; exact h1.1) rfl rfl (tySp_is rfl hvone)
   refine L_skip rfl rfl (x_store rfl rfl rfl hr46) ?_
   refine L_nil ?_
   refine W_seq ?_
   refine W_seq ?_
   refine W_region_draw [] (fun w => Le R (hp w) ∧ Le c44 (hp w) ∧ Le (one b1 (.cells #[(int k.1), (int k.2)] 43 (0, 0))) (hp w) ∧ Le (one m (.cells #[(int s.sample), (int s.warm), (int s.hot), (int s.cold), (.slice (some ⟨b18, 0, none⟩) xs.length cap15), vD] 41 (0, 0))) (hp w) ∧ Le cX (hp w) ∧ Le cD (hp w)) hmix (by decide +kernel) (fun _ _ h => h) ?_
   have hst50 := hst48.draws (w45.drawn + 1)
   generalize draws w45 (w45.drawn + 1) = w49 at hst50 ⊢
   refine LP (ptr m 0) 0 rfl rfl rfl (fun u52 => rfl) hst50.a5 ?_
   refine LP (ptr m 0) 1 rfl rfl rfl (fun u55 => rfl) hst50.a5 ?_
   refine LP (ptr m 4) 2 rfl rfl rfl (fun u58 => (by kernel_rfl)) hst50.a5 ?_
   refine LT (.slice (some ⟨b18, 0, none⟩) xs.length cap15) 3 rfl rfl rfl (fun u61 hF62 => (x_load rfl rfl (run_loadVar_one ti_38 (hF62.2.2.2.1 _ _ (one_self _ _)) rfl))) hst50.a5 ?_
   refine LP (int (((pos xs k) : Nat) : Int)) 4 rfl rfl rfl (fun u64 => rfl) hst50.a5 ?_
   obtain ⟨cl69, cs70, hr71, hcb72, hsg73⟩ := Row.at hrow47 (pos xs k) (by simp only [List.length_set]; omega)
   rw [List.getElem_set_self] at hr71
   obtain rfl := tySp_open hr71
   refine LP (ptr b18 (0 + (pos xs k) * 7)) 5 rfl rfl rfl (fun u67 => (x_indexAddr' rfl sl_38 ti_96 rfl rfl (by omega))) hst50.a5 ?_
   refine LP (ptr b18 (0 + (pos xs k) * 7 + 3)) 6 rfl rfl rfl (fun u75 => (by kernel_rfl)) hst50.a5 ?_
   refine LT (int (r.calls + 1)) 7 rfl rfl rfl (fun u78 hF79 => (x_load rfl rfl (run_loadVar_one ti_3 (hF79.2.1 _ _ hcb72) (seg_get (j := 3) hsg73 rfl)))) hst50.a5 ?_
   refine LP (ptr m 0) 8 rfl rfl rfl (fun u81 => rfl) hst50.a5 ?_
   refine LP (ptr m 0) 9 rfl rfl rfl (fun u84 => rfl) hst50.a5 ?_
   refine LP (ptr m 0) 10 rfl rfl rfl (fun u87 => (by kernel_rfl)) hst50.a5 ?_
   refine LT (int s.sample) 11 rfl rfl rfl (fun u90 hF91 => (x_load rfl rfl (run_loadVar_one ti_3 (hF91.2.2.2.1 _ _ (one_self _ _)) rfl))) hst50.a5 ?_
   refine LP (int (Int.tmod (r.calls + 1) s.sample)) 12 rfl rfl rfl (fun u93 => (x_rem rfl rfl rfl (by omega))) hst50.a5 ?_
   refine LP (.bool ((Int.tmod (r.calls + 1) s.sample) != 0)) 13 rfl rfl rfl (fun u96 => (by kernel_rfl)) hst50.a5 ?_
   refine LA_done (by decide +kernel) ?_
   rcases Bool.eq_false_or_eq_true ((Int.tmod (r.calls + 1) s.sample) != 0) with c98 | c98
   ·
    have q99 : ¬ Int.tmod (r.calls + 1) s.sample = 0 := by simpa using c98
    refine W_cond_true (by show Value.bool _ = _; exact congrArg Value.bool c98) ?_
    refine W_seq ?_
    refine W_region_lit ?_
    refine Lq (.bool false) rfl rfl rfl rfl ?_
    refine L_nil ?_
    refine W_ret ?_
    refine ⟨_, _, res_run (rs := [.tmp 4]) (vs := [(.bool false)]) Tryd.results33 (.cons (.tmp rfl) .nil) rfl, ?_⟩
    have he := back_skip (s := s) hrc (of_decide_eq_false c31) (by simpa using c98)
    rw [he]
    obtain ⟨c', hst', href'⟩ := RefP.close (s := s.put k { r with calls := r.calls + 1 }) (xs := (List.set xs (pos xs k) (Sp.mk k ⟨r.tier, r.calls + 1, r.count, r.failures, r.exits⟩ v))) ((((hst50.front 4 rfl rfl).front 4 rfl rfl).front 2 rfl rfl).front 4 rfl rfl) (hback24 R (List.set xs (pos xs k) (Sp.mk k ⟨r.tier, r.calls + 1, r.count, r.failures, r.exits⟩ v)) c44 (by first | rfl | (simp only [List.length_set]; done) | (simp only [List.length_set]; omega) | omega) hrow47) (hX.same hj (by rw [hx]) (by rw [hx])) hD (hset (Sp.mk k ⟨r.tier, r.calls + 1, r.count, r.failures, r.exits⟩ v) rfl).1 (Agr.put (hset (Sp.mk k ⟨r.tier, r.calls + 1, r.count, r.failures, r.exits⟩ v) rfl).2 hag) (by simp only [List.length_set]; show _ ≤ s.n + 1; omega) (hok.put k hro.calls1)
    exact ⟨_, _, _, rfl, hst'.keepN 1 rfl, c', rfl, rfl, href'⟩
   ·
    have q100 : Int.tmod (r.calls + 1) s.sample = 0 := by simpa using c98
    refine W_cond_false (by show Value.bool _ = _; exact congrArg Value.bool c98) ?_
    refine W_skip ?_
    refine W_seq ?_
    refine W_region_draw [17] (fun w => Le R (hp w) ∧ Le c44 (hp w) ∧ Le (one b1 (.cells #[(int k.1), (int k.2)] 43 (0, 0))) (hp w) ∧ Le (one m (.cells #[(int s.sample), (int s.warm), (int s.hot), (int s.cold), (.slice (some ⟨b18, 0, none⟩) xs.length cap15), vD] 41 (0, 0))) (hp w) ∧ Le cX (hp w) ∧ Le cD (hp w)) hmix (by decide +kernel) (fun _ _ h => h) ?_
    have hst102 := hst50.draws (w49.drawn + 1)
    generalize draws w49 (w49.drawn + 1) = w101 at hst102 ⊢
    refine LP (ptr m 0) 0 rfl rfl rfl (fun u104 => rfl) hst102.a5 ?_
    refine LP (ptr m 0) 1 rfl rfl rfl (fun u107 => rfl) hst102.a5 ?_
    refine LP (ptr m 4) 2 rfl rfl rfl (fun u110 => (by kernel_rfl)) hst102.a5 ?_
    refine LT (.slice (some ⟨b18, 0, none⟩) xs.length cap15) 3 rfl rfl rfl (fun u113 hF114 => (x_load rfl rfl (run_loadVar_one ti_38 (hF114.2.2.2.1 _ _ (one_self _ _)) rfl))) hst102.a5 ?_
    refine LP (int (((pos xs k) : Nat) : Int)) 4 rfl rfl rfl (fun u116 => rfl) hst102.a5 ?_
    refine LP (ptr m 0) 5 rfl rfl rfl (fun u119 => rfl) hst102.a5 ?_
    refine LP (ptr m 0) 6 rfl rfl rfl (fun u122 => rfl) hst102.a5 ?_
    refine LP (ptr m 4) 7 rfl rfl rfl (fun u125 => (by kernel_rfl)) hst102.a5 ?_
    refine LT (.slice (some ⟨b18, 0, none⟩) xs.length cap15) 8 rfl rfl rfl (fun u128 hF129 => (x_load rfl rfl (run_loadVar_one ti_38 (hF129.2.2.2.1 _ _ (one_self _ _)) rfl))) hst102.a5 ?_
    refine LP (int (((pos xs k) : Nat) : Int)) 9 rfl rfl rfl (fun u131 => rfl) hst102.a5 ?_
    obtain ⟨cl136, cs137, hr138, hcb139, hsg140⟩ := Row.at hrow47 (pos xs k) (by simp only [List.length_set]; omega)
    rw [List.getElem_set_self] at hr138
    obtain rfl := tySp_open hr138
    refine LP (ptr b18 (0 + (pos xs k) * 7)) 10 rfl rfl rfl (fun u134 => (x_indexAddr' rfl sl_38 ti_96 rfl rfl (by omega))) hst102.a5 ?_
    refine LP (ptr b18 (0 + (pos xs k) * 7 + 4)) 11 rfl rfl rfl (fun u142 => (by kernel_rfl)) hst102.a5 ?_
    refine LT (int r.count) 12 rfl rfl rfl (fun u145 hF146 => (x_load rfl rfl (run_loadVar_one ti_3 (hF146.2.1 _ _ hcb139) (seg_get (j := 4) hsg140 rfl)))) hst102.a5 ?_
    refine LP (int (r.count + 1)) 13 rfl rfl rfl (fun u148 => (x_add rfl rfl rfl (by constructor <;> omega))) hst102.a5 ?_
    refine LT (int (min (r.count + 1) 1000000)) 14 rfl rfl rfl (fun u151 hF152 => (x_min rfl rfl rfl)) hst102.a5 ?_
    obtain ⟨cl156, cs157, hr158, hcb159, hsg160⟩ := Row.at hrow47 (pos xs k) (by simp only [List.length_set]; omega)
    rw [List.getElem_set_self] at hr158
    obtain rfl := tySp_open hr158
    refine LP (ptr b18 (0 + (pos xs k) * 7)) 15 rfl rfl rfl (fun u154 => (x_indexAddr' rfl sl_38 ti_96 rfl rfl (by omega))) hst102.a5 ?_
    refine LP (ptr b18 (0 + (pos xs k) * 7 + 4)) 16 rfl rfl rfl (fun u162 => (by kernel_rfl)) hst102.a5 ?_
    refine LA_all [17] (by decide +kernel) (by simp) ?_
    intro i_ hi_
    simp only [List.mem_cons, List.not_mem_nil, or_false] at hi_
    subst hi_
    obtain ⟨c165, w166, hr167, hrow168, hst169⟩ := Row.storeF (P := Tryd.prog) (v := (int (min (r.count + 1) 1000000))) (y := (Sp.mk k ⟨r.tier, r.calls + 1, min (r.count + 1) 1000000, r.failures, r.exits⟩ v)) (cl := (spCells (Sp.mk k ⟨r.tier, r.calls + 1, r.count, r.failures, r.exits⟩ v))) hrow47 hst102 ti_3 (pos xs k) (by simp only [List.length_set]; omega) 4 (by decide) (fun c1 h1 => by rw [List.getElem_set_self] at h1; exact h1.1) rfl rfl (tySp_is rfl hvone)
    rw [List.set_set] at hrow168
    refine One_skip (i := 17) rfl rfl (Want.plain rfl) (x_store rfl rfl rfl hr167) (fun h => absurd h (by decide +kernel)) ?_
    refine LA_done (by decide +kernel) ?_
    refine W_seq ?_
    refine W_region_lit ?_
    refine Lq (ptr m 0) rfl rfl rfl rfl ?_
    refine Lq (ptr m 0) rfl rfl rfl rfl ?_
    refine Lq (ptr m 4) rfl rfl rfl (by kernel_rfl) ?_
    refine Lq (.slice (some ⟨b18, 0, none⟩) xs.length cap15) rfl rfl rfl (x_load rfl rfl (run_loadVar_one ti_38 (hst169.b 2) rfl)) ?_
    refine Lq (int (((pos xs k) : Nat) : Int)) rfl rfl rfl rfl ?_
    obtain ⟨cl170, cs171, hr172, hcb173, hsg174⟩ := Row.at hrow168 (pos xs k) (by simp only [List.length_set]; omega)
    rw [List.getElem_set_self] at hr172
    obtain rfl := tySp_open hr172
    refine Lq (ptr b18 (0 + (pos xs k) * 7)) rfl rfl rfl (x_indexAddr' rfl sl_38 ti_96 rfl rfl (by omega)) ?_
    refine Lq (ptr b18 (0 + (pos xs k) * 7 + 4)) rfl rfl rfl (by kernel_rfl) ?_
    refine Lq (int (min (r.count + 1) 1000000)) rfl rfl rfl (x_load rfl rfl (run_loadVar_one ti_3 ((hst169.g 0) _ _ hcb173) (seg_get (j := 4) hsg174 rfl))) ?_
    refine Lq (int (min (r.count + 1) 1000000)) rfl rfl rfl rfl ?_
    refine L_nil ?_
    refine W_seq ?_
    refine W_seq ?_
    refine W_region_lit ?_
    refine Lq (ptr m 0) rfl rfl rfl rfl ?_
    refine Lq (ptr m 0) rfl rfl rfl rfl ?_
    refine Lq (ptr m 4) rfl rfl rfl (by kernel_rfl) ?_
    refine Lq (.slice (some ⟨b18, 0, none⟩) xs.length cap15) rfl rfl rfl (x_load rfl rfl (run_loadVar_one ti_38 (hst169.b 2) rfl)) ?_
    refine Lq (int (((pos xs k) : Nat) : Int)) rfl rfl rfl rfl ?_
    obtain ⟨cl175, cs176, hr177, hcb178, hsg179⟩ := Row.at hrow168 (pos xs k) (by simp only [List.length_set]; omega)
    rw [List.getElem_set_self] at hr177
    obtain rfl := tySp_open hr177
    refine Lq (ptr b18 (0 + (pos xs k) * 7)) rfl rfl rfl (x_indexAddr' rfl sl_38 ti_96 rfl rfl (by omega)) ?_
    refine Lq (ptr b18 (0 + (pos xs k) * 7 + 2)) rfl rfl rfl (by kernel_rfl) ?_
    refine Lq (int r.tier) rfl rfl rfl (x_load rfl rfl (run_loadVar_one ti_3 ((hst169.g 0) _ _ hcb178) (seg_get (j := 2) hsg179 rfl))) ?_
    refine Lq (.bool (r.tier == 0)) rfl rfl rfl (by kernel_rfl) ?_
    refine Lq (.bool (r.tier == 0)) rfl rfl rfl rfl ?_
    rcases Bool.eq_false_or_eq_true (r.tier == 0) with c180 | c180
    ·
     have q181 := eq_of_beq c180
     refine L_guard rfl rfl rfl rfl c180 ?_
     refine Lq (int (min (r.count + 1) 1000000)) rfl rfl rfl rfl ?_
     refine L_guard rfl rfl rfl rfl c180 ?_
     refine Lq (ptr m 0) rfl rfl rfl rfl ?_
     refine L_guard rfl rfl rfl rfl c180 ?_
     refine Lq (ptr m 0) rfl rfl rfl rfl ?_
     refine L_guard rfl rfl rfl rfl c180 ?_
     refine Lq (ptr m 1) rfl rfl rfl (by kernel_rfl) ?_
     refine L_guard rfl rfl rfl rfl c180 ?_
     refine Lq (int s.warm) rfl rfl rfl (x_load rfl rfl (run_loadVar_one ti_3 (hst169.b 2) rfl)) ?_
     refine L_guard rfl rfl rfl rfl c180 ?_
     refine Lq (.bool (decide (min (r.count + 1) 1000000 ≥ s.warm))) rfl rfl rfl (by kernel_rfl) ?_
     refine Lq (.bool (decide (min (r.count + 1) 1000000 ≥ s.warm))) rfl rfl rfl (x_pick rfl rfl (by rw [c180]; rfl)) ?_
     refine L_nil ?_
     rcases Bool.eq_false_or_eq_true (decide (min (r.count + 1) 1000000 ≥ s.warm)) with c182 | c182
     ·
      have q183 := of_decide_eq_true c182
      refine W_cond_true (by show Value.bool _ = _; exact congrArg Value.bool c182) ?_
      refine W_seq ?_
      refine W_region_lit ?_
      refine Lq (ptr m 0) rfl rfl rfl rfl ?_
      refine Lq (int (((pos xs k) : Nat) : Int)) rfl rfl rfl rfl ?_
      refine Lq (int (min (r.count + 1) 1000000)) rfl rfl rfl rfl ?_
      refine L_callG hst169 (v := (.string ((Wd.i (min (r.count + 1) 1000000)).txt))) rfl rfl rfl (x_call (vs := #[(int (min (r.count + 1) 1000000))]) rfl rfl (by kernel_rfl) ent_42) (Decimal_spec (min (r.count + 1) 1000000) (by omega) (by omega) (Le.refl _)) (fun w184 hst185 => ?_)
      obtain ⟨t186, ht187⟩ : ∃ t_ : ByteArray, t_ = ⟨#[119, 97, 114, 109, 32]⟩ ++ ((Wd.i (min (r.count + 1) 1000000)).txt) := ⟨_, rfl⟩
      have ht187z := size_app_le (show ByteArray.size ⟨#[119, 97, 114, 109, 32]⟩ ≤ 100 from by decide) (txt_i_le (n := min (r.count + 1) 1000000) (by constructor <;> omega))
      rw [← ht187] at ht187z
      simp only [Nat.reduceAdd] at ht187z
      refine Lq (.string t186) rfl rfl rfl (by rw [ht187]; exact (x_strcat rfl rfl rfl (room_le (show ByteArray.size ⟨#[119, 97, 114, 109, 32]⟩ ≤ 100 from by decide) (txt_i_le (n := min (r.count + 1) 1000000) (by constructor <;> omega)) (by decide)))) ?_
      refine L_call rfl rfl rfl (x_call (vs := #[(ptr m 0), (int (((pos xs k) : Nat) : Int)), (int 1), (.string t186)]) rfl rfl (by kernel_rfl) ent_51) ?_ (fun _ _ h => h)
      refine calls_of_W (n := 36) Tryd.func51 rfl Tryd.ntmps51 (Nat.le_of_ble_eq_true rfl) ?_
      refine W_seq ?_
      refine W_region_lit ?_
      refine Lq (ptr m 0) rfl rfl rfl rfl ?_
      refine Lq (ptr m 0) rfl rfl rfl rfl ?_
      refine Lq (ptr m 4) rfl rfl rfl (by kernel_rfl) ?_
      refine Lq (.slice (some ⟨b18, 0, none⟩) xs.length cap15) rfl rfl rfl (x_load rfl rfl (run_loadVar_one ti_38 (hst185.b 2) rfl)) ?_
      refine Lq (int (((pos xs k) : Nat) : Int)) rfl rfl rfl rfl ?_
      refine Lq (int 1) rfl rfl rfl rfl ?_
      obtain ⟨cl188, cs189, hr190, hcb191, hsg192⟩ := Row.at hrow168 (pos xs k) (by simp only [List.length_set]; omega)
      rw [List.getElem_set_self] at hr190
      obtain rfl := tySp_open hr190
      refine Lq (ptr b18 (0 + (pos xs k) * 7)) rfl rfl rfl (x_indexAddr' rfl sl_38 ti_96 rfl rfl (by omega)) ?_
      refine Lq (ptr b18 (0 + (pos xs k) * 7 + 2)) rfl rfl rfl (by kernel_rfl) ?_
      obtain ⟨c193, w194, hr195, hrow196, hst197⟩ := Row.storeF (P := Tryd.prog) (v := (int 1)) (y := (Sp.mk k ⟨1, r.calls + 1, min (r.count + 1) 1000000, r.failures, r.exits⟩ v)) (cl := (spCells (Sp.mk k ⟨r.tier, r.calls + 1, min (r.count + 1) 1000000, r.failures, r.exits⟩ v))) hrow168 hst185 ti_3 (pos xs k) (by simp only [List.length_set]; omega) 2 (by decide) (fun c1 h1 => by rw [List.getElem_set_self] at h1; exact h1.1) rfl rfl (tySp_is rfl hvone)
      rw [List.set_set] at hrow196
      refine L_skip rfl rfl (x_store rfl rfl rfl hr195) ?_
      refine L_nil ?_
      refine W_region_draw [20] (fun w => Le R (hp w) ∧ Le c193 (hp w) ∧ Le (one b1 (.cells #[(int k.1), (int k.2)] 43 (0, 0))) (hp w) ∧ Le (one m (.cells #[(int s.sample), (int s.warm), (int s.hot), (int s.cold), (.slice (some ⟨b18, 0, none⟩) xs.length cap15), vD] 41 (0, 0))) (hp w) ∧ Le cX (hp w)) hmix (by decide +kernel) (fun _ _ h => h) ?_
      have hst199 := hst197.draws (w194.drawn + 1)
      generalize draws w194 (w194.drawn + 1) = w198 at hst199 ⊢
      refine LP (ptr m 0) 0 rfl rfl rfl (fun u201 => rfl) ⟨hst199.rle', hst199.g 0, hst199.g 1, hst199.g 2, hst199.g 3⟩ ?_
      refine LP (ptr m 0) 1 rfl rfl rfl (fun u204 => rfl) ⟨hst199.rle', hst199.g 0, hst199.g 1, hst199.g 2, hst199.g 3⟩ ?_
      refine LP (ptr m 0) 2 rfl rfl rfl (fun u207 => rfl) ⟨hst199.rle', hst199.g 0, hst199.g 1, hst199.g 2, hst199.g 3⟩ ?_
      refine LP (ptr m 5) 3 rfl rfl rfl (fun u210 => (by kernel_rfl)) ⟨hst199.rle', hst199.g 0, hst199.g 1, hst199.g 2, hst199.g 3⟩ ?_
      refine LT vD 4 rfl rfl rfl (fun u213 hF214 => (x_load rfl rfl (run_loadVar_one ti_39 (hF214.2.2.2.1 _ _ (one_self _ _)) rfl))) ⟨hst199.rle', hst199.g 0, hst199.g 1, hst199.g 2, hst199.g 3⟩ ?_
      refine LP (ptr m 0) 5 rfl rfl rfl (fun u216 => rfl) ⟨hst199.rle', hst199.g 0, hst199.g 1, hst199.g 2, hst199.g 3⟩ ?_
      refine LP (ptr m 0) 6 rfl rfl rfl (fun u219 => rfl) ⟨hst199.rle', hst199.g 0, hst199.g 1, hst199.g 2, hst199.g 3⟩ ?_
      refine LP (ptr m 4) 7 rfl rfl rfl (fun u222 => (by kernel_rfl)) ⟨hst199.rle', hst199.g 0, hst199.g 1, hst199.g 2, hst199.g 3⟩ ?_
      refine LT (.slice (some ⟨b18, 0, none⟩) xs.length cap15) 8 rfl rfl rfl (fun u225 hF226 => (x_load rfl rfl (run_loadVar_one ti_38 (hF226.2.2.2.1 _ _ (one_self _ _)) rfl))) ⟨hst199.rle', hst199.g 0, hst199.g 1, hst199.g 2, hst199.g 3⟩ ?_
      refine LP (int (((pos xs k) : Nat) : Int)) 9 rfl rfl rfl (fun u228 => rfl) ⟨hst199.rle', hst199.g 0, hst199.g 1, hst199.g 2, hst199.g 3⟩ ?_
      obtain ⟨cl233, cs234, hr235, hcb236, hsg237⟩ := Row.at hrow196 (pos xs k) (by simp only [List.length_set]; omega)
      rw [List.getElem_set_self] at hr235
      obtain rfl := tySp_open hr235
      refine LP (ptr b18 (0 + (pos xs k) * 7)) 10 rfl rfl rfl (fun u231 => (x_indexAddr' rfl sl_38 ti_96 rfl rfl (by omega))) ⟨hst199.rle', hst199.g 0, hst199.g 1, hst199.g 2, hst199.g 3⟩ ?_
      refine LP (ptr b18 (0 + (pos xs k) * 7)) 11 rfl rfl rfl (fun u239 => (by kernel_rfl)) ⟨hst199.rle', hst199.g 0, hst199.g 1, hst199.g 2, hst199.g 3⟩ ?_
      refine LT (.agg #[(int k.1), (int k.2)]) 12 rfl rfl rfl (fun u242 hF243 => (x_load rfl rfl (run_loadVar_agg ti_43 (hF243.2.1 _ _ hcb236) (seg_part hsg237 0 2 rfl rfl) rfl))) ⟨hst199.rle', hst199.g 0, hst199.g 1, hst199.g 2, hst199.g 3⟩ ?_
      refine LP (int 1) 13 rfl rfl rfl (fun u245 => rfl) ⟨hst199.rle', hst199.g 0, hst199.g 1, hst199.g 2, hst199.g 3⟩ ?_
      refine LP (.string t186) 14 rfl rfl rfl (fun u248 => rfl) ⟨hst199.rle', hst199.g 0, hst199.g 1, hst199.g 2, hst199.g 3⟩ ?_
      refine LP (.agg #[(int k.1), (int k.2), (int 1), (.string t186)]) 15 rfl rfl rfl (fun u251 => (by kernel_rfl)) ⟨hst199.rle', hst199.g 0, hst199.g 1, hst199.g 2, hst199.g 3⟩ ?_
      refine LA_all [16] (by decide +kernel) (by simp) ?_
      intro i_ hi_
      simp only [List.mem_cons, List.not_mem_nil, or_false] at hi_
      subst hi_
      refine One_new hst199 (i := 16) (v := fun b => .slice (some ⟨b, 0, none⟩) 1 1) (ob := .cells #[(int k.1), (int k.2), (int 1), (.string t186)] 99 (0, 0)) rfl rfl rfl (Want.plain rfl) (by kernel_rfl) (fun b256 w257 hst258 => ?_)
      refine ⟨(fun _ => ⟨hst258.rle', hst258.g 1, hst258.g 2, hst258.g 3, hst258.g 4⟩), ?_⟩
      refine LA_all [17] (by decide +kernel) (by simp) ?_
      intro i_ hi_
      simp only [List.mem_cons, List.not_mem_nil, or_false] at hi_
      subst hi_
      refine One_append (j := 17) hst258 (t := 39) (e := 99) (ys := [Dec.mk k 1 t186]) (src := [(int k.1), (int k.2), (int 1), (.string t186)]) 5 rfl rfl rfl (Want.plain rfl) rfl rfl rfl sl_39 ti_99 rfl rfl rfl hD (src_own (hst258.b 0)) (Encs.one (tyDec_mk _ _ _ _ _)) rfl (by first | omega | (simp only [List.length_append, List.length_cons, List.length_nil]; omega)) (by first | (simp only [maxLen]; omega) | (simp only [List.length_append, List.length_cons, List.length_nil, maxLen]; omega)) (fun v262 c263 w264 ho265 hst266 => ?_)
      refine ⟨(fun _ => ⟨hst266.rle', hst266.g 2, hst266.g 3, hst266.g 4, hst266.g 5⟩), ?_⟩
      refine LP (ptr m 0) 18 rfl rfl rfl (fun u268 => rfl) ⟨hst266.rle', hst266.g 2, hst266.g 3, hst266.g 4, hst266.g 5⟩ ?_
      refine LP (ptr m 5) 19 rfl rfl rfl (fun u271 => (by kernel_rfl)) ⟨hst266.rle', hst266.g 2, hst266.g 3, hst266.g 4, hst266.g 5⟩ ?_
      refine LA_all [20] (by decide +kernel) (by simp) ?_
      intro i_ hi_
      simp only [List.mem_cons, List.not_mem_nil, or_false] at hi_
      subst hi_
      obtain ⟨a274, cap275, e276, hc277⟩ := ho265.value
      subst e276
      obtain ⟨w278, hr280, hst279⟩ := run_storeW (P := Tryd.prog) (b := m) (off := 5) (v := (.slice a274 ((s.decs ++ [Dec.mk k 1 t186]).length) cap275)) hst266 4 ti_39 rfl rfl rfl rfl rfl rfl
      change Step _ _ _ _ _ [c263, one b256 (.cells #[(int k.1), (int k.2), (int 1), (.string t186)] 99 (0, 0)), c193, one b1 (.cells #[(int k.1), (int k.2)] 43 (0, 0)), one m (.cells #[(int s.sample), (int s.warm), (int s.hot), (int s.cold), (.slice (some ⟨b18, 0, none⟩) xs.length cap15), (.slice a274 ((s.decs ++ [Dec.mk k 1 t186]).length) cap275)] 41 (0, 0)), cX] at hst279
      refine One_skip (i := 20) rfl rfl (Want.plain rfl) (x_store rfl rfl rfl hr280) (fun h => absurd h (by decide +kernel)) ?_
      refine LA_done (by decide +kernel) ?_
      refine ⟨_, _, res_run (rs := []) (vs := []) Tryd.results51 .nil rfl, ?_⟩
      refine ⟨_, rfl, ?_⟩
      refine L_nil ?_
      refine W_seq ?_
      refine W_region_lit ?_
      refine Lq (.bool true) rfl rfl rfl rfl ?_
      refine L_nil ?_
      refine W_ret ?_
      refine ⟨_, _, res_run (rs := [.tmp 4]) (vs := [(.bool true)]) Tryd.results33 (.cons (.tmp rfl) .nil) rfl, ?_⟩
      have he := back_warm (s := s) hrc (of_decide_eq_false c31) (by simpa using c98) (eq_of_beq c180) (of_decide_eq_true c182)
      rw [he]
      obtain ⟨c', hst', href'⟩ := RefP.close (s := s.decide k { r with calls := r.calls + 1, count := min (r.count + 1) 1000000 } 1 (joinW [Wd.s wWarm, Wd.i (min (r.count + 1) 1000000)])) (xs := (List.set xs (pos xs k) (Sp.mk k ⟨1, r.calls + 1, min (r.count + 1) 1000000, r.failures, r.exits⟩ v))) (((hst279.front 5 rfl rfl).front 3 rfl rfl).front 5 rfl rfl) (hback24 R (List.set xs (pos xs k) (Sp.mk k ⟨1, r.calls + 1, min (r.count + 1) 1000000, r.failures, r.exits⟩ v)) c193 (by first | rfl | (simp only [List.length_set]; done) | (simp only [List.length_set]; omega) | omega) hrow196) (hX.same hj (by rw [hx]) (by rw [hx])) (Eq.mp (congrArg (fun l_ => OwnL tyDec 99 R (.slice a274 ((s.decs ++ [Dec.mk k 1 t186]).length) cap275) l_ c263) (show (s.decs ++ [Dec.mk k 1 t186]) = (s.decide k { r with calls := r.calls + 1, count := min (r.count + 1) 1000000 } 1 (joinW [Wd.s wWarm, Wd.i (min (r.count + 1) 1000000)])).decs from congrArg (fun t_ => s.decs ++ [Dec.mk k 1 t_]) (by rw [ht187]; exact dec_warm _))) ho265) (hset (Sp.mk k ⟨1, r.calls + 1, min (r.count + 1) 1000000, r.failures, r.exits⟩ v) rfl).1 (Agr.decide (r := { r with calls := r.calls + 1, count := min (r.count + 1) 1000000 }) (hset (Sp.mk k ⟨1, r.calls + 1, min (r.count + 1) 1000000, r.failures, r.exits⟩ v) rfl).2 hag) (by simp only [List.length_set]; show _ ≤ s.n + 1; omega) (hok.decide k hro.count1 (by decide) (joinW_short (Oks (Sm2 (Sm_s (by decide)) (Sm_i (by constructor <;> omega)))) (Nat.le_of_ble_eq_true rfl)))
      exact ⟨_, _, _, rfl, hst'.keepN 1 rfl, c', rfl, rfl, href'⟩
     ·
      have q281 := of_decide_eq_false c182
      refine W_cond_false (by show Value.bool _ = _; exact congrArg Value.bool c182) ?_
      refine W_skip ?_
      refine W_seq ?_
      refine W_seq ?_
      refine W_region_lit ?_
      refine Lq (ptr m 0) rfl rfl rfl rfl ?_
      refine Lq (ptr m 0) rfl rfl rfl rfl ?_
      refine Lq (ptr m 4) rfl rfl rfl (by kernel_rfl) ?_
      refine Lq (.slice (some ⟨b18, 0, none⟩) xs.length cap15) rfl rfl rfl (x_load rfl rfl (run_loadVar_one ti_38 (hst169.b 2) rfl)) ?_
      refine Lq (int (((pos xs k) : Nat) : Int)) rfl rfl rfl rfl ?_
      obtain ⟨cl282, cs283, hr284, hcb285, hsg286⟩ := Row.at hrow168 (pos xs k) (by simp only [List.length_set]; omega)
      rw [List.getElem_set_self] at hr284
      obtain rfl := tySp_open hr284
      refine Lq (ptr b18 (0 + (pos xs k) * 7)) rfl rfl rfl (x_indexAddr' rfl sl_38 ti_96 rfl rfl (by omega)) ?_
      refine Lq (ptr b18 (0 + (pos xs k) * 7 + 2)) rfl rfl rfl (by kernel_rfl) ?_
      refine Lq (int r.tier) rfl rfl rfl (x_load rfl rfl (run_loadVar_one ti_3 ((hst169.g 0) _ _ hcb285) (seg_get (j := 2) hsg286 rfl))) ?_
      refine Lq (.bool (r.tier == 1)) rfl rfl rfl (by kernel_rfl) ?_
      refine Lq (.bool (r.tier == 1)) rfl rfl rfl rfl ?_
      rcases Bool.eq_false_or_eq_true (r.tier == 1) with c287 | c287
      ·
       have q288 := eq_of_beq c287
       refine L_guard rfl rfl rfl rfl c287 ?_
       refine Lq (int (min (r.count + 1) 1000000)) rfl rfl rfl rfl ?_
       refine L_guard rfl rfl rfl rfl c287 ?_
       refine Lq (ptr m 0) rfl rfl rfl rfl ?_
       refine L_guard rfl rfl rfl rfl c287 ?_
       refine Lq (ptr m 0) rfl rfl rfl rfl ?_
       refine L_guard rfl rfl rfl rfl c287 ?_
       refine Lq (ptr m 2) rfl rfl rfl (by kernel_rfl) ?_
       refine L_guard rfl rfl rfl rfl c287 ?_
       refine Lq (int s.hot) rfl rfl rfl (x_load rfl rfl (run_loadVar_one ti_3 (hst169.b 2) rfl)) ?_
       refine L_guard rfl rfl rfl rfl c287 ?_
       refine Lq (.bool (decide (min (r.count + 1) 1000000 ≥ s.hot))) rfl rfl rfl (by kernel_rfl) ?_
       refine Lq (.bool (decide (min (r.count + 1) 1000000 ≥ s.hot))) rfl rfl rfl (x_pick rfl rfl (by rw [c287]; rfl)) ?_
       refine L_nil ?_
       rcases Bool.eq_false_or_eq_true (decide (min (r.count + 1) 1000000 ≥ s.hot)) with c289 | c289
       ·
        have q290 := of_decide_eq_true c289
        refine W_cond_true (by show Value.bool _ = _; exact congrArg Value.bool c289) ?_
        refine W_seq ?_
        refine W_region_lit ?_
        refine Lq (ptr m 0) rfl rfl rfl rfl ?_
        refine Lq (int (((pos xs k) : Nat) : Int)) rfl rfl rfl rfl ?_
        refine Lq (int (min (r.count + 1) 1000000)) rfl rfl rfl rfl ?_
        refine L_callG hst169 (v := (.string ((Wd.i (min (r.count + 1) 1000000)).txt))) rfl rfl rfl (x_call (vs := #[(int (min (r.count + 1) 1000000))]) rfl rfl (by kernel_rfl) ent_42) (Decimal_spec (min (r.count + 1) 1000000) (by omega) (by omega) (Le.refl _)) (fun w291 hst292 => ?_)
        obtain ⟨t293, ht294⟩ : ∃ t_ : ByteArray, t_ = ⟨#[104, 111, 116, 32]⟩ ++ ((Wd.i (min (r.count + 1) 1000000)).txt) := ⟨_, rfl⟩
        have ht294z := size_app_le (show ByteArray.size ⟨#[104, 111, 116, 32]⟩ ≤ 100 from by decide) (txt_i_le (n := min (r.count + 1) 1000000) (by constructor <;> omega))
        rw [← ht294] at ht294z
        simp only [Nat.reduceAdd] at ht294z
        refine Lq (.string t293) rfl rfl rfl (by rw [ht294]; exact (x_strcat rfl rfl rfl (room_le (show ByteArray.size ⟨#[104, 111, 116, 32]⟩ ≤ 100 from by decide) (txt_i_le (n := min (r.count + 1) 1000000) (by constructor <;> omega)) (by decide)))) ?_
        refine L_call rfl rfl rfl (x_call (vs := #[(ptr m 0), (int (((pos xs k) : Nat) : Int)), (int 2), (.string t293)]) rfl rfl (by kernel_rfl) ent_51) ?_ (fun _ _ h => h)
        refine calls_of_W (n := 36) Tryd.func51 rfl Tryd.ntmps51 (Nat.le_of_ble_eq_true rfl) ?_
        refine W_seq ?_
        refine W_region_lit ?_
        refine Lq (ptr m 0) rfl rfl rfl rfl ?_
        refine Lq (ptr m 0) rfl rfl rfl rfl ?_
        refine Lq (ptr m 4) rfl rfl rfl (by kernel_rfl) ?_
        refine Lq (.slice (some ⟨b18, 0, none⟩) xs.length cap15) rfl rfl rfl (x_load rfl rfl (run_loadVar_one ti_38 (hst292.b 2) rfl)) ?_
        refine Lq (int (((pos xs k) : Nat) : Int)) rfl rfl rfl rfl ?_
        refine Lq (int 2) rfl rfl rfl rfl ?_
        obtain ⟨cl295, cs296, hr297, hcb298, hsg299⟩ := Row.at hrow168 (pos xs k) (by simp only [List.length_set]; omega)
        rw [List.getElem_set_self] at hr297
        obtain rfl := tySp_open hr297
        refine Lq (ptr b18 (0 + (pos xs k) * 7)) rfl rfl rfl (x_indexAddr' rfl sl_38 ti_96 rfl rfl (by omega)) ?_
        refine Lq (ptr b18 (0 + (pos xs k) * 7 + 2)) rfl rfl rfl (by kernel_rfl) ?_
        obtain ⟨c300, w301, hr302, hrow303, hst304⟩ := Row.storeF (P := Tryd.prog) (v := (int 2)) (y := (Sp.mk k ⟨2, r.calls + 1, min (r.count + 1) 1000000, r.failures, r.exits⟩ v)) (cl := (spCells (Sp.mk k ⟨r.tier, r.calls + 1, min (r.count + 1) 1000000, r.failures, r.exits⟩ v))) hrow168 hst292 ti_3 (pos xs k) (by simp only [List.length_set]; omega) 2 (by decide) (fun c1 h1 => by rw [List.getElem_set_self] at h1; exact h1.1) rfl rfl (tySp_is rfl hvone)
        rw [List.set_set] at hrow303
        refine L_skip rfl rfl (x_store rfl rfl rfl hr302) ?_
        refine L_nil ?_
        refine W_region_draw [20] (fun w => Le R (hp w) ∧ Le c300 (hp w) ∧ Le (one b1 (.cells #[(int k.1), (int k.2)] 43 (0, 0))) (hp w) ∧ Le (one m (.cells #[(int s.sample), (int s.warm), (int s.hot), (int s.cold), (.slice (some ⟨b18, 0, none⟩) xs.length cap15), vD] 41 (0, 0))) (hp w) ∧ Le cX (hp w)) hmix (by decide +kernel) (fun _ _ h => h) ?_
        have hst306 := hst304.draws (w301.drawn + 1)
        generalize draws w301 (w301.drawn + 1) = w305 at hst306 ⊢
        refine LP (ptr m 0) 0 rfl rfl rfl (fun u308 => rfl) ⟨hst306.rle', hst306.g 0, hst306.g 1, hst306.g 2, hst306.g 3⟩ ?_
        refine LP (ptr m 0) 1 rfl rfl rfl (fun u311 => rfl) ⟨hst306.rle', hst306.g 0, hst306.g 1, hst306.g 2, hst306.g 3⟩ ?_
        refine LP (ptr m 0) 2 rfl rfl rfl (fun u314 => rfl) ⟨hst306.rle', hst306.g 0, hst306.g 1, hst306.g 2, hst306.g 3⟩ ?_
        refine LP (ptr m 5) 3 rfl rfl rfl (fun u317 => (by kernel_rfl)) ⟨hst306.rle', hst306.g 0, hst306.g 1, hst306.g 2, hst306.g 3⟩ ?_
        refine LT vD 4 rfl rfl rfl (fun u320 hF321 => (x_load rfl rfl (run_loadVar_one ti_39 (hF321.2.2.2.1 _ _ (one_self _ _)) rfl))) ⟨hst306.rle', hst306.g 0, hst306.g 1, hst306.g 2, hst306.g 3⟩ ?_
        refine LP (ptr m 0) 5 rfl rfl rfl (fun u323 => rfl) ⟨hst306.rle', hst306.g 0, hst306.g 1, hst306.g 2, hst306.g 3⟩ ?_
        refine LP (ptr m 0) 6 rfl rfl rfl (fun u326 => rfl) ⟨hst306.rle', hst306.g 0, hst306.g 1, hst306.g 2, hst306.g 3⟩ ?_
        refine LP (ptr m 4) 7 rfl rfl rfl (fun u329 => (by kernel_rfl)) ⟨hst306.rle', hst306.g 0, hst306.g 1, hst306.g 2, hst306.g 3⟩ ?_
        refine LT (.slice (some ⟨b18, 0, none⟩) xs.length cap15) 8 rfl rfl rfl (fun u332 hF333 => (x_load rfl rfl (run_loadVar_one ti_38 (hF333.2.2.2.1 _ _ (one_self _ _)) rfl))) ⟨hst306.rle', hst306.g 0, hst306.g 1, hst306.g 2, hst306.g 3⟩ ?_
        refine LP (int (((pos xs k) : Nat) : Int)) 9 rfl rfl rfl (fun u335 => rfl) ⟨hst306.rle', hst306.g 0, hst306.g 1, hst306.g 2, hst306.g 3⟩ ?_
        obtain ⟨cl340, cs341, hr342, hcb343, hsg344⟩ := Row.at hrow303 (pos xs k) (by simp only [List.length_set]; omega)
        rw [List.getElem_set_self] at hr342
        obtain rfl := tySp_open hr342
        refine LP (ptr b18 (0 + (pos xs k) * 7)) 10 rfl rfl rfl (fun u338 => (x_indexAddr' rfl sl_38 ti_96 rfl rfl (by omega))) ⟨hst306.rle', hst306.g 0, hst306.g 1, hst306.g 2, hst306.g 3⟩ ?_
        refine LP (ptr b18 (0 + (pos xs k) * 7)) 11 rfl rfl rfl (fun u346 => (by kernel_rfl)) ⟨hst306.rle', hst306.g 0, hst306.g 1, hst306.g 2, hst306.g 3⟩ ?_
        refine LT (.agg #[(int k.1), (int k.2)]) 12 rfl rfl rfl (fun u349 hF350 => (x_load rfl rfl (run_loadVar_agg ti_43 (hF350.2.1 _ _ hcb343) (seg_part hsg344 0 2 rfl rfl) rfl))) ⟨hst306.rle', hst306.g 0, hst306.g 1, hst306.g 2, hst306.g 3⟩ ?_
        refine LP (int 2) 13 rfl rfl rfl (fun u352 => rfl) ⟨hst306.rle', hst306.g 0, hst306.g 1, hst306.g 2, hst306.g 3⟩ ?_
        refine LP (.string t293) 14 rfl rfl rfl (fun u355 => rfl) ⟨hst306.rle', hst306.g 0, hst306.g 1, hst306.g 2, hst306.g 3⟩ ?_
        refine LP (.agg #[(int k.1), (int k.2), (int 2), (.string t293)]) 15 rfl rfl rfl (fun u358 => (by kernel_rfl)) ⟨hst306.rle', hst306.g 0, hst306.g 1, hst306.g 2, hst306.g 3⟩ ?_
        refine LA_all [16] (by decide +kernel) (by simp) ?_
        intro i_ hi_
        simp only [List.mem_cons, List.not_mem_nil, or_false] at hi_
        subst hi_
        refine One_new hst306 (i := 16) (v := fun b => .slice (some ⟨b, 0, none⟩) 1 1) (ob := .cells #[(int k.1), (int k.2), (int 2), (.string t293)] 99 (0, 0)) rfl rfl rfl (Want.plain rfl) (by kernel_rfl) (fun b363 w364 hst365 => ?_)
        refine ⟨(fun _ => ⟨hst365.rle', hst365.g 1, hst365.g 2, hst365.g 3, hst365.g 4⟩), ?_⟩
        refine LA_all [17] (by decide +kernel) (by simp) ?_
        intro i_ hi_
        simp only [List.mem_cons, List.not_mem_nil, or_false] at hi_
        subst hi_
        refine One_append (j := 17) hst365 (t := 39) (e := 99) (ys := [Dec.mk k 2 t293]) (src := [(int k.1), (int k.2), (int 2), (.string t293)]) 5 rfl rfl rfl (Want.plain rfl) rfl rfl rfl sl_39 ti_99 rfl rfl rfl hD (src_own (hst365.b 0)) (Encs.one (tyDec_mk _ _ _ _ _)) rfl (by first | omega | (simp only [List.length_append, List.length_cons, List.length_nil]; omega)) (by first | (simp only [maxLen]; omega) | (simp only [List.length_append, List.length_cons, List.length_nil, maxLen]; omega)) (fun v369 c370 w371 ho372 hst373 => ?_)
        refine ⟨(fun _ => ⟨hst373.rle', hst373.g 2, hst373.g 3, hst373.g 4, hst373.g 5⟩), ?_⟩
        refine LP (ptr m 0) 18 rfl rfl rfl (fun u375 => rfl) ⟨hst373.rle', hst373.g 2, hst373.g 3, hst373.g 4, hst373.g 5⟩ ?_
        refine LP (ptr m 5) 19 rfl rfl rfl (fun u378 => (by kernel_rfl)) ⟨hst373.rle', hst373.g 2, hst373.g 3, hst373.g 4, hst373.g 5⟩ ?_
        refine LA_all [20] (by decide +kernel) (by simp) ?_
        intro i_ hi_
        simp only [List.mem_cons, List.not_mem_nil, or_false] at hi_
        subst hi_
        obtain ⟨a381, cap382, e383, hc384⟩ := ho372.value
        subst e383
        obtain ⟨w385, hr387, hst386⟩ := run_storeW (P := Tryd.prog) (b := m) (off := 5) (v := (.slice a381 ((s.decs ++ [Dec.mk k 2 t293]).length) cap382)) hst373 4 ti_39 rfl rfl rfl rfl rfl rfl
        change Step _ _ _ _ _ [c370, one b363 (.cells #[(int k.1), (int k.2), (int 2), (.string t293)] 99 (0, 0)), c300, one b1 (.cells #[(int k.1), (int k.2)] 43 (0, 0)), one m (.cells #[(int s.sample), (int s.warm), (int s.hot), (int s.cold), (.slice (some ⟨b18, 0, none⟩) xs.length cap15), (.slice a381 ((s.decs ++ [Dec.mk k 2 t293]).length) cap382)] 41 (0, 0)), cX] at hst386
        refine One_skip (i := 20) rfl rfl (Want.plain rfl) (x_store rfl rfl rfl hr387) (fun h => absurd h (by decide +kernel)) ?_
        refine LA_done (by decide +kernel) ?_
        refine ⟨_, _, res_run (rs := []) (vs := []) Tryd.results51 .nil rfl, ?_⟩
        refine ⟨_, rfl, ?_⟩
        refine L_nil ?_
        refine W_seq ?_
        refine W_region_lit ?_
        refine Lq (.bool true) rfl rfl rfl rfl ?_
        refine L_nil ?_
        refine W_ret ?_
        refine ⟨_, _, res_run (rs := [.tmp 4]) (vs := [(.bool true)]) Tryd.results33 (.cons (.tmp rfl) .nil) rfl, ?_⟩
        have he := back_hot (s := s) hrc (of_decide_eq_false c31) (by simpa using c98) (eq_of_beq c287) (of_decide_eq_true c289)
        rw [he]
        obtain ⟨c', hst', href'⟩ := RefP.close (s := s.decide k { r with calls := r.calls + 1, count := min (r.count + 1) 1000000 } 2 (joinW [Wd.s wHot, Wd.i (min (r.count + 1) 1000000)])) (xs := (List.set xs (pos xs k) (Sp.mk k ⟨2, r.calls + 1, min (r.count + 1) 1000000, r.failures, r.exits⟩ v))) (((hst386.front 5 rfl rfl).front 3 rfl rfl).front 5 rfl rfl) (hback24 R (List.set xs (pos xs k) (Sp.mk k ⟨2, r.calls + 1, min (r.count + 1) 1000000, r.failures, r.exits⟩ v)) c300 (by first | rfl | (simp only [List.length_set]; done) | (simp only [List.length_set]; omega) | omega) hrow303) (hX.same hj (by rw [hx]) (by rw [hx])) (Eq.mp (congrArg (fun l_ => OwnL tyDec 99 R (.slice a381 ((s.decs ++ [Dec.mk k 2 t293]).length) cap382) l_ c370) (show (s.decs ++ [Dec.mk k 2 t293]) = (s.decide k { r with calls := r.calls + 1, count := min (r.count + 1) 1000000 } 2 (joinW [Wd.s wHot, Wd.i (min (r.count + 1) 1000000)])).decs from congrArg (fun t_ => s.decs ++ [Dec.mk k 2 t_]) (by rw [ht294]; exact dec_hot _))) ho372) (hset (Sp.mk k ⟨2, r.calls + 1, min (r.count + 1) 1000000, r.failures, r.exits⟩ v) rfl).1 (Agr.decide (r := { r with calls := r.calls + 1, count := min (r.count + 1) 1000000 }) (hset (Sp.mk k ⟨2, r.calls + 1, min (r.count + 1) 1000000, r.failures, r.exits⟩ v) rfl).2 hag) (by simp only [List.length_set]; show _ ≤ s.n + 1; omega) (hok.decide k hro.count1 (by decide) (joinW_short (Oks (Sm2 (Sm_s (by decide)) (Sm_i (by constructor <;> omega)))) (Nat.le_of_ble_eq_true rfl)))
        exact ⟨_, _, _, rfl, hst'.keepN 1 rfl, c', rfl, rfl, href'⟩
       ·
        have q388 := of_decide_eq_false c289
        refine W_cond_false (by show Value.bool _ = _; exact congrArg Value.bool c289) ?_
        refine W_skip ?_
        refine W_seq ?_
        refine W_region_lit ?_
        refine Lq (.bool false) rfl rfl rfl rfl ?_
        refine L_nil ?_
        refine W_ret ?_
        refine ⟨_, _, res_run (rs := [.tmp 4]) (vs := [(.bool false)]) Tryd.results33 (.cons (.tmp rfl) .nil) rfl, ?_⟩
        have he := back_no (s := s) hrc (of_decide_eq_false c31) (by simpa using c98) (fun h => (of_decide_eq_false c182) h.2) (fun h => (of_decide_eq_false c289) h.2)
        rw [he]
        obtain ⟨c', hst', href'⟩ := RefP.close (s := s.put k { r with calls := r.calls + 1, count := min (r.count + 1) 1000000 }) (xs := (List.set xs (pos xs k) (Sp.mk k ⟨r.tier, r.calls + 1, min (r.count + 1) 1000000, r.failures, r.exits⟩ v))) ((((hst169.front 4 rfl rfl).front 4 rfl rfl).front 2 rfl rfl).front 4 rfl rfl) (hback24 R (List.set xs (pos xs k) (Sp.mk k ⟨r.tier, r.calls + 1, min (r.count + 1) 1000000, r.failures, r.exits⟩ v)) c165 (by first | rfl | (simp only [List.length_set]; done) | (simp only [List.length_set]; omega) | omega) hrow168) (hX.same hj (by rw [hx]) (by rw [hx])) hD (hset (Sp.mk k ⟨r.tier, r.calls + 1, min (r.count + 1) 1000000, r.failures, r.exits⟩ v) rfl).1 (Agr.put (hset (Sp.mk k ⟨r.tier, r.calls + 1, min (r.count + 1) 1000000, r.failures, r.exits⟩ v) rfl).2 hag) (by simp only [List.length_set]; show _ ≤ s.n + 1; omega) (hok.put k hro.count1)
        exact ⟨_, _, _, rfl, hst'.keepN 1 rfl, c', rfl, rfl, href'⟩
      ·
       have q389 := ne_of_beq_false c287
       refine L_unwanted rfl rfl rfl rfl (by rw [c287]; try rfl) rfl rfl ?_
       refine L_unwanted rfl rfl rfl rfl (by rw [c287]; try rfl) rfl rfl ?_
       refine L_unwanted rfl rfl rfl rfl (by rw [c287]; try rfl) rfl rfl ?_
       refine L_unwanted rfl rfl rfl rfl (by rw [c287]; try rfl) rfl rfl ?_
       refine L_unwanted rfl rfl rfl rfl (by rw [c287]; try rfl) rfl rfl ?_
       refine L_unwanted rfl rfl rfl rfl (by rw [c287]; try rfl) rfl rfl ?_
       refine Lq (.bool false) rfl rfl rfl (x_pick rfl rfl (by rw [c287]; rfl)) ?_
       refine L_nil ?_
       refine W_cond_false (by show Value.bool _ = _; exact congrArg Value.bool rfl) ?_
       refine W_skip ?_
       refine W_seq ?_
       refine W_region_lit ?_
       refine Lq (.bool false) rfl rfl rfl rfl ?_
       refine L_nil ?_
       refine W_ret ?_
       refine ⟨_, _, res_run (rs := [.tmp 4]) (vs := [(.bool false)]) Tryd.results33 (.cons (.tmp rfl) .nil) rfl, ?_⟩
       have he := back_no (s := s) hrc (of_decide_eq_false c31) (by simpa using c98) (fun h => (of_decide_eq_false c182) h.2) (fun h => (ne_of_beq_false c287) h.1)
       rw [he]
       obtain ⟨c', hst', href'⟩ := RefP.close (s := s.put k { r with calls := r.calls + 1, count := min (r.count + 1) 1000000 }) (xs := (List.set xs (pos xs k) (Sp.mk k ⟨r.tier, r.calls + 1, min (r.count + 1) 1000000, r.failures, r.exits⟩ v))) ((((hst169.front 4 rfl rfl).front 4 rfl rfl).front 2 rfl rfl).front 4 rfl rfl) (hback24 R (List.set xs (pos xs k) (Sp.mk k ⟨r.tier, r.calls + 1, min (r.count + 1) 1000000, r.failures, r.exits⟩ v)) c165 (by first | rfl | (simp only [List.length_set]; done) | (simp only [List.length_set]; omega) | omega) hrow168) (hX.same hj (by rw [hx]) (by rw [hx])) hD (hset (Sp.mk k ⟨r.tier, r.calls + 1, min (r.count + 1) 1000000, r.failures, r.exits⟩ v) rfl).1 (Agr.put (hset (Sp.mk k ⟨r.tier, r.calls + 1, min (r.count + 1) 1000000, r.failures, r.exits⟩ v) rfl).2 hag) (by simp only [List.length_set]; show _ ≤ s.n + 1; omega) (hok.put k hro.count1)
       exact ⟨_, _, _, rfl, hst'.keepN 1 rfl, c', rfl, rfl, href'⟩
    ·
     have q390 := ne_of_beq_false c180
     refine L_unwanted rfl rfl rfl rfl (by rw [c180]; try rfl) rfl rfl ?_
     refine L_unwanted rfl rfl rfl rfl (by rw [c180]; try rfl) rfl rfl ?_
     refine L_unwanted rfl rfl rfl rfl (by rw [c180]; try rfl) rfl rfl ?_
     refine L_unwanted rfl rfl rfl rfl (by rw [c180]; try rfl) rfl rfl ?_
     refine L_unwanted rfl rfl rfl rfl (by rw [c180]; try rfl) rfl rfl ?_
     refine L_unwanted rfl rfl rfl rfl (by rw [c180]; try rfl) rfl rfl ?_
     refine Lq (.bool false) rfl rfl rfl (x_pick rfl rfl (by rw [c180]; rfl)) ?_
     refine L_nil ?_
     refine W_cond_false (by show Value.bool _ = _; exact congrArg Value.bool rfl) ?_
     refine W_skip ?_
     refine W_seq ?_
     refine W_seq ?_
     refine W_region_lit ?_
     refine Lq (ptr m 0) rfl rfl rfl rfl ?_
     refine Lq (ptr m 0) rfl rfl rfl rfl ?_
     refine Lq (ptr m 4) rfl rfl rfl (by kernel_rfl) ?_
     refine Lq (.slice (some ⟨b18, 0, none⟩) xs.length cap15) rfl rfl rfl (x_load rfl rfl (run_loadVar_one ti_38 (hst169.b 2) rfl)) ?_
     refine Lq (int (((pos xs k) : Nat) : Int)) rfl rfl rfl rfl ?_
     obtain ⟨cl391, cs392, hr393, hcb394, hsg395⟩ := Row.at hrow168 (pos xs k) (by simp only [List.length_set]; omega)
     rw [List.getElem_set_self] at hr393
     obtain rfl := tySp_open hr393
     refine Lq (ptr b18 (0 + (pos xs k) * 7)) rfl rfl rfl (x_indexAddr' rfl sl_38 ti_96 rfl rfl (by omega)) ?_
     refine Lq (ptr b18 (0 + (pos xs k) * 7 + 2)) rfl rfl rfl (by kernel_rfl) ?_
     refine Lq (int r.tier) rfl rfl rfl (x_load rfl rfl (run_loadVar_one ti_3 ((hst169.g 0) _ _ hcb394) (seg_get (j := 2) hsg395 rfl))) ?_
     refine Lq (.bool (r.tier == 1)) rfl rfl rfl (by kernel_rfl) ?_
     refine Lq (.bool (r.tier == 1)) rfl rfl rfl rfl ?_
     rcases Bool.eq_false_or_eq_true (r.tier == 1) with c396 | c396
     ·
      have q397 := eq_of_beq c396
      refine L_guard rfl rfl rfl rfl c396 ?_
      refine Lq (int (min (r.count + 1) 1000000)) rfl rfl rfl rfl ?_
      refine L_guard rfl rfl rfl rfl c396 ?_
      refine Lq (ptr m 0) rfl rfl rfl rfl ?_
      refine L_guard rfl rfl rfl rfl c396 ?_
      refine Lq (ptr m 0) rfl rfl rfl rfl ?_
      refine L_guard rfl rfl rfl rfl c396 ?_
      refine Lq (ptr m 2) rfl rfl rfl (by kernel_rfl) ?_
      refine L_guard rfl rfl rfl rfl c396 ?_
      refine Lq (int s.hot) rfl rfl rfl (x_load rfl rfl (run_loadVar_one ti_3 (hst169.b 2) rfl)) ?_
      refine L_guard rfl rfl rfl rfl c396 ?_
      refine Lq (.bool (decide (min (r.count + 1) 1000000 ≥ s.hot))) rfl rfl rfl (by kernel_rfl) ?_
      refine Lq (.bool (decide (min (r.count + 1) 1000000 ≥ s.hot))) rfl rfl rfl (x_pick rfl rfl (by rw [c396]; rfl)) ?_
      refine L_nil ?_
      rcases Bool.eq_false_or_eq_true (decide (min (r.count + 1) 1000000 ≥ s.hot)) with c398 | c398
      ·
       have q399 := of_decide_eq_true c398
       refine W_cond_true (by show Value.bool _ = _; exact congrArg Value.bool c398) ?_
       refine W_seq ?_
       refine W_region_lit ?_
       refine Lq (ptr m 0) rfl rfl rfl rfl ?_
       refine Lq (int (((pos xs k) : Nat) : Int)) rfl rfl rfl rfl ?_
       refine Lq (int (min (r.count + 1) 1000000)) rfl rfl rfl rfl ?_
       refine L_callG hst169 (v := (.string ((Wd.i (min (r.count + 1) 1000000)).txt))) rfl rfl rfl (x_call (vs := #[(int (min (r.count + 1) 1000000))]) rfl rfl (by kernel_rfl) ent_42) (Decimal_spec (min (r.count + 1) 1000000) (by omega) (by omega) (Le.refl _)) (fun w400 hst401 => ?_)
       obtain ⟨t402, ht403⟩ : ∃ t_ : ByteArray, t_ = ⟨#[104, 111, 116, 32]⟩ ++ ((Wd.i (min (r.count + 1) 1000000)).txt) := ⟨_, rfl⟩
       have ht403z := size_app_le (show ByteArray.size ⟨#[104, 111, 116, 32]⟩ ≤ 100 from by decide) (txt_i_le (n := min (r.count + 1) 1000000) (by constructor <;> omega))
       rw [← ht403] at ht403z
       simp only [Nat.reduceAdd] at ht403z
       refine Lq (.string t402) rfl rfl rfl (by rw [ht403]; exact (x_strcat rfl rfl rfl (room_le (show ByteArray.size ⟨#[104, 111, 116, 32]⟩ ≤ 100 from by decide) (txt_i_le (n := min (r.count + 1) 1000000) (by constructor <;> omega)) (by decide)))) ?_
       refine L_call rfl rfl rfl (x_call (vs := #[(ptr m 0), (int (((pos xs k) : Nat) : Int)), (int 2), (.string t402)]) rfl rfl (by kernel_rfl) ent_51) ?_ (fun _ _ h => h)
       refine calls_of_W (n := 36) Tryd.func51 rfl Tryd.ntmps51 (Nat.le_of_ble_eq_true rfl) ?_
       refine W_seq ?_
       refine W_region_lit ?_
       refine Lq (ptr m 0) rfl rfl rfl rfl ?_
       refine Lq (ptr m 0) rfl rfl rfl rfl ?_
       refine Lq (ptr m 4) rfl rfl rfl (by kernel_rfl) ?_
       refine Lq (.slice (some ⟨b18, 0, none⟩) xs.length cap15) rfl rfl rfl (x_load rfl rfl (run_loadVar_one ti_38 (hst401.b 2) rfl)) ?_
       refine Lq (int (((pos xs k) : Nat) : Int)) rfl rfl rfl rfl ?_
       refine Lq (int 2) rfl rfl rfl rfl ?_
       obtain ⟨cl404, cs405, hr406, hcb407, hsg408⟩ := Row.at hrow168 (pos xs k) (by simp only [List.length_set]; omega)
       rw [List.getElem_set_self] at hr406
       obtain rfl := tySp_open hr406
       refine Lq (ptr b18 (0 + (pos xs k) * 7)) rfl rfl rfl (x_indexAddr' rfl sl_38 ti_96 rfl rfl (by omega)) ?_
       refine Lq (ptr b18 (0 + (pos xs k) * 7 + 2)) rfl rfl rfl (by kernel_rfl) ?_
       obtain ⟨c409, w410, hr411, hrow412, hst413⟩ := Row.storeF (P := Tryd.prog) (v := (int 2)) (y := (Sp.mk k ⟨2, r.calls + 1, min (r.count + 1) 1000000, r.failures, r.exits⟩ v)) (cl := (spCells (Sp.mk k ⟨r.tier, r.calls + 1, min (r.count + 1) 1000000, r.failures, r.exits⟩ v))) hrow168 hst401 ti_3 (pos xs k) (by simp only [List.length_set]; omega) 2 (by decide) (fun c1 h1 => by rw [List.getElem_set_self] at h1; exact h1.1) rfl rfl (tySp_is rfl hvone)
       rw [List.set_set] at hrow412
       refine L_skip rfl rfl (x_store rfl rfl rfl hr411) ?_
       refine L_nil ?_
       refine W_region_draw [20] (fun w => Le R (hp w) ∧ Le c409 (hp w) ∧ Le (one b1 (.cells #[(int k.1), (int k.2)] 43 (0, 0))) (hp w) ∧ Le (one m (.cells #[(int s.sample), (int s.warm), (int s.hot), (int s.cold), (.slice (some ⟨b18, 0, none⟩) xs.length cap15), vD] 41 (0, 0))) (hp w) ∧ Le cX (hp w)) hmix (by decide +kernel) (fun _ _ h => h) ?_
       have hst415 := hst413.draws (w410.drawn + 1)
       generalize draws w410 (w410.drawn + 1) = w414 at hst415 ⊢
       refine LP (ptr m 0) 0 rfl rfl rfl (fun u417 => rfl) ⟨hst415.rle', hst415.g 0, hst415.g 1, hst415.g 2, hst415.g 3⟩ ?_
       refine LP (ptr m 0) 1 rfl rfl rfl (fun u420 => rfl) ⟨hst415.rle', hst415.g 0, hst415.g 1, hst415.g 2, hst415.g 3⟩ ?_
       refine LP (ptr m 0) 2 rfl rfl rfl (fun u423 => rfl) ⟨hst415.rle', hst415.g 0, hst415.g 1, hst415.g 2, hst415.g 3⟩ ?_
       refine LP (ptr m 5) 3 rfl rfl rfl (fun u426 => (by kernel_rfl)) ⟨hst415.rle', hst415.g 0, hst415.g 1, hst415.g 2, hst415.g 3⟩ ?_
       refine LT vD 4 rfl rfl rfl (fun u429 hF430 => (x_load rfl rfl (run_loadVar_one ti_39 (hF430.2.2.2.1 _ _ (one_self _ _)) rfl))) ⟨hst415.rle', hst415.g 0, hst415.g 1, hst415.g 2, hst415.g 3⟩ ?_
       refine LP (ptr m 0) 5 rfl rfl rfl (fun u432 => rfl) ⟨hst415.rle', hst415.g 0, hst415.g 1, hst415.g 2, hst415.g 3⟩ ?_
       refine LP (ptr m 0) 6 rfl rfl rfl (fun u435 => rfl) ⟨hst415.rle', hst415.g 0, hst415.g 1, hst415.g 2, hst415.g 3⟩ ?_
       refine LP (ptr m 4) 7 rfl rfl rfl (fun u438 => (by kernel_rfl)) ⟨hst415.rle', hst415.g 0, hst415.g 1, hst415.g 2, hst415.g 3⟩ ?_
       refine LT (.slice (some ⟨b18, 0, none⟩) xs.length cap15) 8 rfl rfl rfl (fun u441 hF442 => (x_load rfl rfl (run_loadVar_one ti_38 (hF442.2.2.2.1 _ _ (one_self _ _)) rfl))) ⟨hst415.rle', hst415.g 0, hst415.g 1, hst415.g 2, hst415.g 3⟩ ?_
       refine LP (int (((pos xs k) : Nat) : Int)) 9 rfl rfl rfl (fun u444 => rfl) ⟨hst415.rle', hst415.g 0, hst415.g 1, hst415.g 2, hst415.g 3⟩ ?_
       obtain ⟨cl449, cs450, hr451, hcb452, hsg453⟩ := Row.at hrow412 (pos xs k) (by simp only [List.length_set]; omega)
       rw [List.getElem_set_self] at hr451
       obtain rfl := tySp_open hr451
       refine LP (ptr b18 (0 + (pos xs k) * 7)) 10 rfl rfl rfl (fun u447 => (x_indexAddr' rfl sl_38 ti_96 rfl rfl (by omega))) ⟨hst415.rle', hst415.g 0, hst415.g 1, hst415.g 2, hst415.g 3⟩ ?_
       refine LP (ptr b18 (0 + (pos xs k) * 7)) 11 rfl rfl rfl (fun u455 => (by kernel_rfl)) ⟨hst415.rle', hst415.g 0, hst415.g 1, hst415.g 2, hst415.g 3⟩ ?_
       refine LT (.agg #[(int k.1), (int k.2)]) 12 rfl rfl rfl (fun u458 hF459 => (x_load rfl rfl (run_loadVar_agg ti_43 (hF459.2.1 _ _ hcb452) (seg_part hsg453 0 2 rfl rfl) rfl))) ⟨hst415.rle', hst415.g 0, hst415.g 1, hst415.g 2, hst415.g 3⟩ ?_
       refine LP (int 2) 13 rfl rfl rfl (fun u461 => rfl) ⟨hst415.rle', hst415.g 0, hst415.g 1, hst415.g 2, hst415.g 3⟩ ?_
       refine LP (.string t402) 14 rfl rfl rfl (fun u464 => rfl) ⟨hst415.rle', hst415.g 0, hst415.g 1, hst415.g 2, hst415.g 3⟩ ?_
       refine LP (.agg #[(int k.1), (int k.2), (int 2), (.string t402)]) 15 rfl rfl rfl (fun u467 => (by kernel_rfl)) ⟨hst415.rle', hst415.g 0, hst415.g 1, hst415.g 2, hst415.g 3⟩ ?_
       refine LA_all [16] (by decide +kernel) (by simp) ?_
       intro i_ hi_
       simp only [List.mem_cons, List.not_mem_nil, or_false] at hi_
       subst hi_
       refine One_new hst415 (i := 16) (v := fun b => .slice (some ⟨b, 0, none⟩) 1 1) (ob := .cells #[(int k.1), (int k.2), (int 2), (.string t402)] 99 (0, 0)) rfl rfl rfl (Want.plain rfl) (by kernel_rfl) (fun b472 w473 hst474 => ?_)
       refine ⟨(fun _ => ⟨hst474.rle', hst474.g 1, hst474.g 2, hst474.g 3, hst474.g 4⟩), ?_⟩
       refine LA_all [17] (by decide +kernel) (by simp) ?_
       intro i_ hi_
       simp only [List.mem_cons, List.not_mem_nil, or_false] at hi_
       subst hi_
       refine One_append (j := 17) hst474 (t := 39) (e := 99) (ys := [Dec.mk k 2 t402]) (src := [(int k.1), (int k.2), (int 2), (.string t402)]) 5 rfl rfl rfl (Want.plain rfl) rfl rfl rfl sl_39 ti_99 rfl rfl rfl hD (src_own (hst474.b 0)) (Encs.one (tyDec_mk _ _ _ _ _)) rfl (by first | omega | (simp only [List.length_append, List.length_cons, List.length_nil]; omega)) (by first | (simp only [maxLen]; omega) | (simp only [List.length_append, List.length_cons, List.length_nil, maxLen]; omega)) (fun v478 c479 w480 ho481 hst482 => ?_)
       refine ⟨(fun _ => ⟨hst482.rle', hst482.g 2, hst482.g 3, hst482.g 4, hst482.g 5⟩), ?_⟩
       refine LP (ptr m 0) 18 rfl rfl rfl (fun u484 => rfl) ⟨hst482.rle', hst482.g 2, hst482.g 3, hst482.g 4, hst482.g 5⟩ ?_
       refine LP (ptr m 5) 19 rfl rfl rfl (fun u487 => (by kernel_rfl)) ⟨hst482.rle', hst482.g 2, hst482.g 3, hst482.g 4, hst482.g 5⟩ ?_
       refine LA_all [20] (by decide +kernel) (by simp) ?_
       intro i_ hi_
       simp only [List.mem_cons, List.not_mem_nil, or_false] at hi_
       subst hi_
       obtain ⟨a490, cap491, e492, hc493⟩ := ho481.value
       subst e492
       obtain ⟨w494, hr496, hst495⟩ := run_storeW (P := Tryd.prog) (b := m) (off := 5) (v := (.slice a490 ((s.decs ++ [Dec.mk k 2 t402]).length) cap491)) hst482 4 ti_39 rfl rfl rfl rfl rfl rfl
       change Step _ _ _ _ _ [c479, one b472 (.cells #[(int k.1), (int k.2), (int 2), (.string t402)] 99 (0, 0)), c409, one b1 (.cells #[(int k.1), (int k.2)] 43 (0, 0)), one m (.cells #[(int s.sample), (int s.warm), (int s.hot), (int s.cold), (.slice (some ⟨b18, 0, none⟩) xs.length cap15), (.slice a490 ((s.decs ++ [Dec.mk k 2 t402]).length) cap491)] 41 (0, 0)), cX] at hst495
       refine One_skip (i := 20) rfl rfl (Want.plain rfl) (x_store rfl rfl rfl hr496) (fun h => absurd h (by decide +kernel)) ?_
       refine LA_done (by decide +kernel) ?_
       refine ⟨_, _, res_run (rs := []) (vs := []) Tryd.results51 .nil rfl, ?_⟩
       refine ⟨_, rfl, ?_⟩
       refine L_nil ?_
       refine W_seq ?_
       refine W_region_lit ?_
       refine Lq (.bool true) rfl rfl rfl rfl ?_
       refine L_nil ?_
       refine W_ret ?_
       refine ⟨_, _, res_run (rs := [.tmp 4]) (vs := [(.bool true)]) Tryd.results33 (.cons (.tmp rfl) .nil) rfl, ?_⟩
       have he := back_hot (s := s) hrc (of_decide_eq_false c31) (by simpa using c98) (eq_of_beq c396) (of_decide_eq_true c398)
       rw [he]
       obtain ⟨c', hst', href'⟩ := RefP.close (s := s.decide k { r with calls := r.calls + 1, count := min (r.count + 1) 1000000 } 2 (joinW [Wd.s wHot, Wd.i (min (r.count + 1) 1000000)])) (xs := (List.set xs (pos xs k) (Sp.mk k ⟨2, r.calls + 1, min (r.count + 1) 1000000, r.failures, r.exits⟩ v))) (((hst495.front 5 rfl rfl).front 3 rfl rfl).front 5 rfl rfl) (hback24 R (List.set xs (pos xs k) (Sp.mk k ⟨2, r.calls + 1, min (r.count + 1) 1000000, r.failures, r.exits⟩ v)) c409 (by first | rfl | (simp only [List.length_set]; done) | (simp only [List.length_set]; omega) | omega) hrow412) (hX.same hj (by rw [hx]) (by rw [hx])) (Eq.mp (congrArg (fun l_ => OwnL tyDec 99 R (.slice a490 ((s.decs ++ [Dec.mk k 2 t402]).length) cap491) l_ c479) (show (s.decs ++ [Dec.mk k 2 t402]) = (s.decide k { r with calls := r.calls + 1, count := min (r.count + 1) 1000000 } 2 (joinW [Wd.s wHot, Wd.i (min (r.count + 1) 1000000)])).decs from congrArg (fun t_ => s.decs ++ [Dec.mk k 2 t_]) (by rw [ht403]; exact dec_hot _))) ho481) (hset (Sp.mk k ⟨2, r.calls + 1, min (r.count + 1) 1000000, r.failures, r.exits⟩ v) rfl).1 (Agr.decide (r := { r with calls := r.calls + 1, count := min (r.count + 1) 1000000 }) (hset (Sp.mk k ⟨2, r.calls + 1, min (r.count + 1) 1000000, r.failures, r.exits⟩ v) rfl).2 hag) (by simp only [List.length_set]; show _ ≤ s.n + 1; omega) (hok.decide k hro.count1 (by decide) (joinW_short (Oks (Sm2 (Sm_s (by decide)) (Sm_i (by constructor <;> omega)))) (Nat.le_of_ble_eq_true rfl)))
       exact ⟨_, _, _, rfl, hst'.keepN 1 rfl, c', rfl, rfl, href'⟩
      ·
       have q497 := of_decide_eq_false c398
       refine W_cond_false (by show Value.bool _ = _; exact congrArg Value.bool c398) ?_
       refine W_skip ?_
       refine W_seq ?_
       refine W_region_lit ?_
       refine Lq (.bool false) rfl rfl rfl rfl ?_
       refine L_nil ?_
       refine W_ret ?_
       refine ⟨_, _, res_run (rs := [.tmp 4]) (vs := [(.bool false)]) Tryd.results33 (.cons (.tmp rfl) .nil) rfl, ?_⟩
       have he := back_no (s := s) hrc (of_decide_eq_false c31) (by simpa using c98) (fun h => (ne_of_beq_false c180) h.1) (fun h => (of_decide_eq_false c398) h.2)
       rw [he]
       obtain ⟨c', hst', href'⟩ := RefP.close (s := s.put k { r with calls := r.calls + 1, count := min (r.count + 1) 1000000 }) (xs := (List.set xs (pos xs k) (Sp.mk k ⟨r.tier, r.calls + 1, min (r.count + 1) 1000000, r.failures, r.exits⟩ v))) ((((hst169.front 4 rfl rfl).front 4 rfl rfl).front 2 rfl rfl).front 4 rfl rfl) (hback24 R (List.set xs (pos xs k) (Sp.mk k ⟨r.tier, r.calls + 1, min (r.count + 1) 1000000, r.failures, r.exits⟩ v)) c165 (by first | rfl | (simp only [List.length_set]; done) | (simp only [List.length_set]; omega) | omega) hrow168) (hX.same hj (by rw [hx]) (by rw [hx])) hD (hset (Sp.mk k ⟨r.tier, r.calls + 1, min (r.count + 1) 1000000, r.failures, r.exits⟩ v) rfl).1 (Agr.put (hset (Sp.mk k ⟨r.tier, r.calls + 1, min (r.count + 1) 1000000, r.failures, r.exits⟩ v) rfl).2 hag) (by simp only [List.length_set]; show _ ≤ s.n + 1; omega) (hok.put k hro.count1)
       exact ⟨_, _, _, rfl, hst'.keepN 1 rfl, c', rfl, rfl, href'⟩
     ·
      have q498 := ne_of_beq_false c396
      refine L_unwanted rfl rfl rfl rfl (by rw [c396]; try rfl) rfl rfl ?_
      refine L_unwanted rfl rfl rfl rfl (by rw [c396]; try rfl) rfl rfl ?_
      refine L_unwanted rfl rfl rfl rfl (by rw [c396]; try rfl) rfl rfl ?_
      refine L_unwanted rfl rfl rfl rfl (by rw [c396]; try rfl) rfl rfl ?_
      refine L_unwanted rfl rfl rfl rfl (by rw [c396]; try rfl) rfl rfl ?_
      refine L_unwanted rfl rfl rfl rfl (by rw [c396]; try rfl) rfl rfl ?_
      refine Lq (.bool false) rfl rfl rfl (x_pick rfl rfl (by rw [c396]; rfl)) ?_
      refine L_nil ?_
      refine W_cond_false (by show Value.bool _ = _; exact congrArg Value.bool rfl) ?_
      refine W_skip ?_
      refine W_seq ?_
      refine W_region_lit ?_
      refine Lq (.bool false) rfl rfl rfl rfl ?_
      refine L_nil ?_
      refine W_ret ?_
      refine ⟨_, _, res_run (rs := [.tmp 4]) (vs := [(.bool false)]) Tryd.results33 (.cons (.tmp rfl) .nil) rfl, ?_⟩
      have he := back_no (s := s) hrc (of_decide_eq_false c31) (by simpa using c98) (fun h => (ne_of_beq_false c180) h.1) (fun h => (ne_of_beq_false c396) h.1)
      rw [he]
      obtain ⟨c', hst', href'⟩ := RefP.close (s := s.put k { r with calls := r.calls + 1, count := min (r.count + 1) 1000000 }) (xs := (List.set xs (pos xs k) (Sp.mk k ⟨r.tier, r.calls + 1, min (r.count + 1) 1000000, r.failures, r.exits⟩ v))) ((((hst169.front 4 rfl rfl).front 4 rfl rfl).front 2 rfl rfl).front 4 rfl rfl) (hback24 R (List.set xs (pos xs k) (Sp.mk k ⟨r.tier, r.calls + 1, min (r.count + 1) 1000000, r.failures, r.exits⟩ v)) c165 (by first | rfl | (simp only [List.length_set]; done) | (simp only [List.length_set]; omega) | omega) hrow168) (hX.same hj (by rw [hx]) (by rw [hx])) hD (hset (Sp.mk k ⟨r.tier, r.calls + 1, min (r.count + 1) 1000000, r.failures, r.exits⟩ v) rfl).1 (Agr.put (hset (Sp.mk k ⟨r.tier, r.calls + 1, min (r.count + 1) 1000000, r.failures, r.exits⟩ v) rfl).2 hag) (by simp only [List.length_set]; show _ ≤ s.n + 1; omega) (hok.put k hro.count1)
      exact ⟨_, _, _, rfl, hst'.keepN 1 rfl, c', rfl, rfl, href'⟩
 ·
  have hgn : AL.get s.recs k = none := by rw [← hag k]; exact get_nthr hsr hth
  refine W_region_lit ?_
  refine Lq (.bool (thr xs k)) rfl rfl rfl rfl ?_
  refine Lq (.bool (!(thr xs k))) rfl rfl rfl rfl ?_
  refine L_nil ?_
  refine W_cond_true (by show Value.bool _ = _; exact congrArg Value.bool (by rw [hth]; rfl)) ?_
  refine W_seq ?_
  refine W_region_draw [] (fun w => Le R (hp w) ∧ Le (one b1 (.cells #[(int k.1), (int k.2)] 43 (0, 0))) (hp w) ∧ Le (one m (.cells #[(int s.sample), (int s.warm), (int s.hot), (int s.cold), vL, vD] 41 (0, 0))) (hp w) ∧ Le cX (hp w)) hmix (by decide +kernel) (fun _ _ h => h) ?_
  have hst500 := hst5.draws (w4.drawn + 1)
  generalize draws w4 (w4.drawn + 1) = w499 at hst500 ⊢
  refine LT (.agg #[(int k.1), (int k.2)]) 0 rfl rfl rfl (fun u502 hF503 => (x_load rfl rfl (run_loadVar_agg ti_43 (hF503.2.1 _ _ (one_self _ _)) (l := [(int k.1), (int k.2)]) rfl rfl))) ⟨hst500.rle', hst500.g 0, hst500.g 1, hst500.g 3⟩ ?_
  refine LP (.agg #[(int k.1), (int k.2), (int 0), (int 0), (int 0), (int 0), (.slice none 0 0)]) 1 rfl rfl rfl (fun u505 => (by kernel_rfl)) ⟨hst500.rle', hst500.g 0, hst500.g 1, hst500.g 3⟩ ?_
  refine LP (ptr m 0) 3 rfl rfl rfl (fun u510 => rfl) ⟨hst500.rle', hst500.g 0, hst500.g 1, hst500.g 3⟩ ?_
  refine LP (ptr m 0) 4 rfl rfl rfl (fun u515 => rfl) ⟨hst500.rle', hst500.g 0, hst500.g 1, hst500.g 3⟩ ?_
  refine LP (ptr m 4) 5 rfl rfl rfl (fun u520 => (by kernel_rfl)) ⟨hst500.rle', hst500.g 0, hst500.g 1, hst500.g 3⟩ ?_
  refine LT vL 6 rfl rfl rfl (fun u525 hF526 => (x_load rfl rfl (run_loadVar_one ti_38 (hF526.2.2.1 _ _ (one_self _ _)) rfl))) ⟨hst500.rle', hst500.g 0, hst500.g 1, hst500.g 3⟩ ?_
  refine LP (int (((pos xs k) : Nat) : Int)) 7 rfl rfl rfl (fun u530 => rfl) ⟨hst500.rle', hst500.g 0, hst500.g 1, hst500.g 3⟩ ?_
  obtain ⟨a537, cap538, e539, hc540⟩ := hL.value
  subst e539
  refine LT (.slice (if cap538 = (pos xs k) then a537 else Option.map (·.add ((pos xs k) * 7)) a537) (xs.length - (pos xs k)) (cap538 - (pos xs k))) 8 rfl rfl rfl (fun u535 hF536 => (x_sliceLo rfl rfl rfl sl_38 (run_sliceLo sl_38 ti_96 (by omega) (by omega)))) ⟨hst500.rle', hst500.g 0, hst500.g 1, hst500.g 3⟩ ?_
  refine LA_all [2] (by decide +kernel) (by simp) ?_
  intro i_ hi_
  simp only [List.mem_cons, List.not_mem_nil, or_false] at hi_
  subst hi_
  refine One_new hst500 (i := 2) (v := fun b => .slice (some ⟨b, 0, none⟩) 1 1) (ob := .cells #[(int k.1), (int k.2), (int 0), (int 0), (int 0), (int 0), (.slice none 0 0)] 96 (0, 0)) rfl rfl rfl (Want.plain rfl) (by kernel_rfl) (fun b544 w545 hst546 => ?_)
  refine ⟨(fun _ => ⟨hst546.rle', hst546.g 1, hst546.g 2, hst546.g 4⟩), ?_⟩
  refine LA_all [9] (by decide +kernel) (by simp) ?_
  intro i_ hi_
  simp only [List.mem_cons, List.not_mem_nil, or_false] at hi_
  subst hi_
  have ho550 : OwnL tySp 96 R (.slice (some ⟨b544, 0, none⟩) 1 1) [(⟨k, rec0, .slice none 0 0⟩ : Sp)] (one b544 (.cells #[(int k.1), (int k.2), (int 0), (int 0), (int 0), (int 0), (.slice none 0 0)] 96 (0, 0))) := OwnL.lit (cs := [(int k.1), (int k.2), (int 0), (int 0), (int 0), (int 0), (.slice none 0 0)]) (Encs.one (tySp_is (x := ⟨k, rec0, .slice none 0 0⟩) rfl rfl)) rfl (by decide)
  obtain ⟨v551, c552, w553, hr554, ho555, hst556⟩ := run_appendR (P := Tryd.prog) (tt := 38) sl_38 ti_96 rfl ho550 hst546 (RdS.dropK (OwnL.freeze hL hst546.rle' (hst546.g 3)) (by omega)) (fun h_ => Encs.resp h_) (by simp only [List.length_append, List.length_take, List.length_drop, List.length_cons, List.length_nil]; omega) (by simp only [List.length_append, List.length_take, List.length_drop, List.length_cons, List.length_nil, maxLen]; omega)
  refine One_val (i := 9) (v := v551) rfl rfl rfl (Want.plain rfl) (x_append rfl rfl rfl hr554) (fun _ => ⟨hst556.rle', hst556.g 1, hst556.g 2, hst556.g 4⟩) ?_
  refine LP v551 10 rfl rfl rfl (fun u558 => rfl) ⟨hst556.rle', hst556.g 1, hst556.g 2, hst556.g 4⟩ ?_
  refine LA_done (by decide +kernel) ?_
  refine W_region_lit ?_
  refine Lq (ptr m 0) rfl rfl rfl rfl ?_
  refine L_new hst556 (v := fun b => .slice (some ⟨b, 0, none⟩) 0 0) (ob := .cells #[] 96 (0, 0)) rfl rfl rfl (by kernel_rfl) (fun b560 w561 hst562 => ?_)
  refine Lq (ptr m 0) rfl rfl rfl rfl ?_
  refine Lq (ptr m 0) rfl rfl rfl rfl ?_
  refine Lq (ptr m 4) rfl rfl rfl (by kernel_rfl) ?_
  refine Lq (.slice a537 xs.length cap538) rfl rfl rfl (x_load rfl rfl (run_loadVar_one ti_38 (hst562.b 3) rfl)) ?_
  refine Lq (int (((pos xs k) : Nat) : Int)) rfl rfl rfl rfl ?_
  refine Lq (.slice a537 (pos xs k) cap538) rfl rfl rfl (x_slice sl_38 rfl rfl (run_sliceHi sl_38 ti_96 (by omega))) ?_
  have ho563 : OwnL tySp 96 R (.slice (some ⟨b560, 0, none⟩) 0 0) ([] : List Sp) (one b560 (.cells #[] 96 (0, 0))) := OwnL.lit (cs := []) Encs.nil rfl (by decide)
  obtain ⟨v564, c565, w566, hr567, ho568, hst569⟩ := run_appendR (P := Tryd.prog) (tt := 38) sl_38 ti_96 rfl ho563 hst562 (RdS.takeK (OwnL.freeze hL hst562.rle' (hst562.g 4)) (by omega)) (fun h_ => Encs.resp h_) (by simp only [List.length_append, List.length_take, List.length_drop, List.length_cons, List.length_nil]; omega) (by simp only [List.length_append, List.length_take, List.length_drop, List.length_cons, List.length_nil, maxLen]; omega)
  refine L_val (v := v564) (w' := w566) rfl rfl rfl (x_append rfl rfl rfl hr567) ?_
  refine Lq v551 rfl rfl rfl rfl ?_
  obtain ⟨a571, cap572, e573, hc574⟩ := ho555.value
  subst e573
  obtain ⟨v575, c576, w577, hr578, ho579, hst580⟩ := run_appendR (P := Tryd.prog) (tt := 38) sl_38 ti_96 rfl ho568 hst569 (OwnL.freeze ho555 hst569.rle' (hst569.g 1)) (fun h_ => Encs.resp h_) (by simp only [List.length_append, List.length_take, List.length_drop, List.length_cons, List.length_nil]; omega) (by simp only [List.length_append, List.length_take, List.length_drop, List.length_cons, List.length_nil, maxLen]; omega)
  refine L_val (v := v575) (w' := w577) rfl rfl rfl (x_append rfl rfl rfl hr578) ?_
  refine Lq (ptr m 0) rfl rfl rfl rfl ?_
  refine Lq (ptr m 4) rfl rfl rfl (by kernel_rfl) ?_
  obtain ⟨a581, cap582, e583, hc584⟩ := ho579.value
  subst e583
  refine L_store hst580 3 ti_38 rfl rfl rfl rfl rfl rfl rfl rfl rfl rfl rfl (fun w585 hst586 => ?_)
  change Step _ _ _ _ _ [c576, c552, one b1 (.cells #[(int k.1), (int k.2)] 43 (0, 0)), one m (.cells #[(int s.sample), (int s.warm), (int s.hot), (int s.cold), (.slice a581 (((([] : List Sp) ++ (List.take (pos xs k) xs)) ++ ([(⟨k, rec0, .slice none 0 0⟩ : Sp)] ++ (List.drop (pos xs k) xs))).length) cap582), vD] 41 (0, 0)), cL, cX, cD] at hst586
  refine L_nil ?_
  refine W_seq ?_
  refine W_seq ?_
  obtain ⟨xs2, r, hxs2, hr0, hj, hx, hrc, hl2, hset⟩ := ins_open hth hsr hag
  have hL587 : OwnL tySp 96 R (.slice a581 (((([] : List Sp) ++ (List.take (pos xs k) xs)) ++ ([(⟨k, rec0, .slice none 0 0⟩ : Sp)] ++ (List.drop (pos xs k) xs))).length) cap582) xs2 c576 := by rw [hxs2]; exact ho579
  have hX588 : Exs R xs2 cX := by rw [hxs2]; exact hX.ins _ rfl rfl
  have ht0 : r.tier = 0 := by rw [hr0]; rfl
  have hro := hok.rc k
  rw [hrc] at hro
  obtain ⟨hr589, hr590⟩ := hro.tier
  obtain ⟨hr591, hr592⟩ := hro.calls
  obtain ⟨hr593, hr594⟩ := hro.count
  obtain ⟨hr595, hr596⟩ := hro.failures
  refine W_region_lit ?_
  refine Lq (ptr m 0) rfl rfl rfl rfl ?_
  refine Lq (ptr m 0) rfl rfl rfl rfl ?_
  refine Lq (ptr m 4) rfl rfl rfl (by kernel_rfl) ?_
  refine Lq (.slice a581 (((([] : List Sp) ++ (List.take (pos xs k) xs)) ++ ([(⟨k, rec0, .slice none 0 0⟩ : Sp)] ++ (List.drop (pos xs k) xs))).length) cap582) rfl rfl rfl (x_load rfl rfl (run_loadVar_one ti_38 (hst586.b 3) rfl)) ?_
  refine Lq (int (((pos xs k) : Nat) : Int)) rfl rfl rfl rfl ?_
  obtain ⟨b597, cap598, N599, e600, hc601, hrow602, hback603⟩ := OwnL.row hL587 (by omega)
  obtain ⟨rfl, hl604, rfl⟩ := Value.slice.inj e600
  try rw [← hl604] at hback603
  obtain ⟨cl605, cs606, hr607, hcb608, hsg609⟩ := Row.at hrow602 (pos xs k) (by omega)
  rw [hx] at hr607
  obtain rfl := tySp_open hr607
  refine Lq (ptr b597 (0 + (pos xs k) * 7)) rfl rfl rfl (x_indexAddr' rfl sl_38 ti_96 rfl rfl (by omega)) ?_
  refine Lq (ptr b597 (0 + (pos xs k) * 7 + 2)) rfl rfl rfl (by kernel_rfl) ?_
  refine Lq (int r.tier) rfl rfl rfl (x_load rfl rfl (run_loadVar_one ti_3 ((hst586.g 0) _ _ hcb608) (seg_get (j := 2) hsg609 rfl))) ?_
  refine Lq (.bool (decide (r.tier < 0))) rfl rfl rfl (by kernel_rfl) ?_
  refine L_nil ?_
  have c610 : (decide (r.tier < 0)) = false := decide_eq_false (by omega)
  have q611 := of_decide_eq_false c610
  refine W_cond_false (by show Value.bool _ = _; exact congrArg Value.bool c610) ?_
  refine W_skip ?_
  refine W_seq ?_
  refine W_region_lit ?_
  refine Lq (ptr m 0) rfl rfl rfl rfl ?_
  refine Lq (ptr m 0) rfl rfl rfl rfl ?_
  refine Lq (ptr m 4) rfl rfl rfl (by kernel_rfl) ?_
  refine Lq (.slice (some ⟨b597, 0, none⟩) (((([] : List Sp) ++ (List.take (pos xs k) xs)) ++ ([(⟨k, rec0, .slice none 0 0⟩ : Sp)] ++ (List.drop (pos xs k) xs))).length) cap582) rfl rfl rfl (x_load rfl rfl (run_loadVar_one ti_38 (hst586.b 3) rfl)) ?_
  refine Lq (int (((pos xs k) : Nat) : Int)) rfl rfl rfl rfl ?_
  obtain ⟨cl612, cs613, hr614, hcb615, hsg616⟩ := Row.at hrow602 (pos xs k) (by omega)
  rw [hx] at hr614
  obtain rfl := tySp_open hr614
  refine Lq (ptr b597 (0 + (pos xs k) * 7)) rfl rfl rfl (x_indexAddr' rfl sl_38 ti_96 rfl rfl (by omega)) ?_
  refine Lq (ptr b597 (0 + (pos xs k) * 7 + 3)) rfl rfl rfl (by kernel_rfl) ?_
  refine Lq (int r.calls) rfl rfl rfl (x_load rfl rfl (run_loadVar_one ti_3 ((hst586.g 0) _ _ hcb615) (seg_get (j := 3) hsg616 rfl))) ?_
  refine Lq (int (r.calls + 1)) rfl rfl rfl (x_add rfl rfl rfl (by constructor <;> omega)) ?_
  obtain ⟨cl617, cs618, hr619, hcb620, hsg621⟩ := Row.at hrow602 (pos xs k) (by omega)
  rw [hx] at hr619
  obtain rfl := tySp_open hr619
  refine Lq (ptr b597 (0 + (pos xs k) * 7)) rfl rfl rfl (x_indexAddr' rfl sl_38 ti_96 rfl rfl (by omega)) ?_
  refine Lq (ptr b597 (0 + (pos xs k) * 7 + 3)) rfl rfl rfl (by kernel_rfl) ?_
  obtain ⟨c622, w623, hr624, hrow625, hst626⟩ := Row.storeF (P := Tryd.prog) (v := (int (r.calls + 1))) (y := (Sp.mk k ⟨r.tier, r.calls + 1, r.count, r.failures, r.exits⟩ (.slice none 0 0))) (cl := (spCells (Sp.mk k ⟨r.tier, r.calls, r.count, r.failures, r.exits⟩ (.slice none 0 0)))) hrow602 hst586 ti_3 (pos xs k) (by omega) 3 (by decide) (fun c1 h1 => by rw [hx] at h1; exact h1.1) rfl rfl (tySp_is rfl rfl)
  refine L_skip rfl rfl (x_store rfl rfl rfl hr624) ?_
  refine L_nil ?_
  refine W_seq ?_
  refine W_seq ?_
  refine W_region_draw [] (fun w => Le R (hp w) ∧ Le c622 (hp w) ∧ Le c552 (hp w) ∧ Le (one b1 (.cells #[(int k.1), (int k.2)] 43 (0, 0))) (hp w) ∧ Le (one m (.cells #[(int s.sample), (int s.warm), (int s.hot), (int s.cold), (.slice (some ⟨b597, 0, none⟩) (((([] : List Sp) ++ (List.take (pos xs k) xs)) ++ ([(⟨k, rec0, .slice none 0 0⟩ : Sp)] ++ (List.drop (pos xs k) xs))).length) cap582), vD] 41 (0, 0))) (hp w) ∧ Le cL (hp w) ∧ Le cX (hp w) ∧ Le cD (hp w)) hmix (by decide +kernel) (fun _ _ h => h) ?_
  have hst628 := hst626.draws (w623.drawn + 1)
  generalize draws w623 (w623.drawn + 1) = w627 at hst628 ⊢
  refine LP (ptr m 0) 0 rfl rfl rfl (fun u630 => rfl) hst628.a7 ?_
  refine LP (ptr m 0) 1 rfl rfl rfl (fun u633 => rfl) hst628.a7 ?_
  refine LP (ptr m 4) 2 rfl rfl rfl (fun u636 => (by kernel_rfl)) hst628.a7 ?_
  refine LT (.slice (some ⟨b597, 0, none⟩) (((([] : List Sp) ++ (List.take (pos xs k) xs)) ++ ([(⟨k, rec0, .slice none 0 0⟩ : Sp)] ++ (List.drop (pos xs k) xs))).length) cap582) 3 rfl rfl rfl (fun u639 hF640 => (x_load rfl rfl (run_loadVar_one ti_38 (hF640.2.2.2.2.1 _ _ (one_self _ _)) rfl))) hst628.a7 ?_
  refine LP (int (((pos xs k) : Nat) : Int)) 4 rfl rfl rfl (fun u642 => rfl) hst628.a7 ?_
  obtain ⟨cl647, cs648, hr649, hcb650, hsg651⟩ := Row.at hrow625 (pos xs k) (by simp only [List.length_set]; omega)
  rw [List.getElem_set_self] at hr649
  obtain rfl := tySp_open hr649
  refine LP (ptr b597 (0 + (pos xs k) * 7)) 5 rfl rfl rfl (fun u645 => (x_indexAddr' rfl sl_38 ti_96 rfl rfl (by omega))) hst628.a7 ?_
  refine LP (ptr b597 (0 + (pos xs k) * 7 + 3)) 6 rfl rfl rfl (fun u653 => (by kernel_rfl)) hst628.a7 ?_
  refine LT (int (r.calls + 1)) 7 rfl rfl rfl (fun u656 hF657 => (x_load rfl rfl (run_loadVar_one ti_3 (hF657.2.1 _ _ hcb650) (seg_get (j := 3) hsg651 rfl)))) hst628.a7 ?_
  refine LP (ptr m 0) 8 rfl rfl rfl (fun u659 => rfl) hst628.a7 ?_
  refine LP (ptr m 0) 9 rfl rfl rfl (fun u662 => rfl) hst628.a7 ?_
  refine LP (ptr m 0) 10 rfl rfl rfl (fun u665 => (by kernel_rfl)) hst628.a7 ?_
  refine LT (int s.sample) 11 rfl rfl rfl (fun u668 hF669 => (x_load rfl rfl (run_loadVar_one ti_3 (hF669.2.2.2.2.1 _ _ (one_self _ _)) rfl))) hst628.a7 ?_
  refine LP (int (Int.tmod (r.calls + 1) s.sample)) 12 rfl rfl rfl (fun u671 => (x_rem rfl rfl rfl (by omega))) hst628.a7 ?_
  refine LP (.bool ((Int.tmod (r.calls + 1) s.sample) != 0)) 13 rfl rfl rfl (fun u674 => (by kernel_rfl)) hst628.a7 ?_
  refine LA_done (by decide +kernel) ?_
  rcases Bool.eq_false_or_eq_true ((Int.tmod (r.calls + 1) s.sample) != 0) with c676 | c676
  ·
   have q677 : ¬ Int.tmod (r.calls + 1) s.sample = 0 := by simpa using c676
   refine W_cond_true (by show Value.bool _ = _; exact congrArg Value.bool c676) ?_
   refine W_seq ?_
   refine W_region_lit ?_
   refine Lq (.bool false) rfl rfl rfl rfl ?_
   refine L_nil ?_
   refine W_ret ?_
   refine ⟨_, _, res_run (rs := [.tmp 4]) (vs := [(.bool false)]) Tryd.results33 (.cons (.tmp rfl) .nil) rfl, ?_⟩
   have he := back_skip (s := s) hrc (of_decide_eq_false c610) (by simpa using c676)
   rw [he]
   obtain ⟨c', hst', href'⟩ := RefP.close (s := s.put k { r with calls := r.calls + 1 }) (xs := (List.set xs2 (pos xs k) (Sp.mk k ⟨r.tier, r.calls + 1, r.count, r.failures, r.exits⟩ (.slice none 0 0)))) ((((hst628.front 6 rfl rfl).front 6 rfl rfl).front 2 rfl rfl).front 5 rfl rfl) (hback603 R (List.set xs2 (pos xs k) (Sp.mk k ⟨r.tier, r.calls + 1, r.count, r.failures, r.exits⟩ (.slice none 0 0))) c622 (by first | rfl | (simp only [List.length_set]; done) | (simp only [List.length_set]; omega) | omega) hrow625) (hX588.same hj (by rw [hx]) (by rw [hx])) hD (hset (Sp.mk k ⟨r.tier, r.calls + 1, r.count, r.failures, r.exits⟩ (.slice none 0 0)) rfl).1 (Agr.put (hset (Sp.mk k ⟨r.tier, r.calls + 1, r.count, r.failures, r.exits⟩ (.slice none 0 0)) rfl).2 hag) (by simp only [List.length_set]; show _ ≤ s.n + 1; omega) (hok.put k hro.calls1)
   exact ⟨_, _, _, rfl, hst'.keepN 1 rfl, c', rfl, rfl, href'⟩
  ·
   have q678 : Int.tmod (r.calls + 1) s.sample = 0 := by simpa using c676
   refine W_cond_false (by show Value.bool _ = _; exact congrArg Value.bool c676) ?_
   refine W_skip ?_
   refine W_seq ?_
   refine W_region_draw [17] (fun w => Le R (hp w) ∧ Le c622 (hp w) ∧ Le c552 (hp w) ∧ Le (one b1 (.cells #[(int k.1), (int k.2)] 43 (0, 0))) (hp w) ∧ Le (one m (.cells #[(int s.sample), (int s.warm), (int s.hot), (int s.cold), (.slice (some ⟨b597, 0, none⟩) (((([] : List Sp) ++ (List.take (pos xs k) xs)) ++ ([(⟨k, rec0, .slice none 0 0⟩ : Sp)] ++ (List.drop (pos xs k) xs))).length) cap582), vD] 41 (0, 0))) (hp w) ∧ Le cL (hp w) ∧ Le cX (hp w) ∧ Le cD (hp w)) hmix (by decide +kernel) (fun _ _ h => h) ?_
   have hst680 := hst628.draws (w627.drawn + 1)
   generalize draws w627 (w627.drawn + 1) = w679 at hst680 ⊢
   refine LP (ptr m 0) 0 rfl rfl rfl (fun u682 => rfl) hst680.a7 ?_
   refine LP (ptr m 0) 1 rfl rfl rfl (fun u685 => rfl) hst680.a7 ?_
   refine LP (ptr m 4) 2 rfl rfl rfl (fun u688 => (by kernel_rfl)) hst680.a7 ?_
   refine LT (.slice (some ⟨b597, 0, none⟩) (((([] : List Sp) ++ (List.take (pos xs k) xs)) ++ ([(⟨k, rec0, .slice none 0 0⟩ : Sp)] ++ (List.drop (pos xs k) xs))).length) cap582) 3 rfl rfl rfl (fun u691 hF692 => (x_load rfl rfl (run_loadVar_one ti_38 (hF692.2.2.2.2.1 _ _ (one_self _ _)) rfl))) hst680.a7 ?_
   refine LP (int (((pos xs k) : Nat) : Int)) 4 rfl rfl rfl (fun u694 => rfl) hst680.a7 ?_
   refine LP (ptr m 0) 5 rfl rfl rfl (fun u697 => rfl) hst680.a7 ?_
   refine LP (ptr m 0) 6 rfl rfl rfl (fun u700 => rfl) hst680.a7 ?_
   refine LP (ptr m 4) 7 rfl rfl rfl (fun u703 => (by kernel_rfl)) hst680.a7 ?_
   refine LT (.slice (some ⟨b597, 0, none⟩) (((([] : List Sp) ++ (List.take (pos xs k) xs)) ++ ([(⟨k, rec0, .slice none 0 0⟩ : Sp)] ++ (List.drop (pos xs k) xs))).length) cap582) 8 rfl rfl rfl (fun u706 hF707 => (x_load rfl rfl (run_loadVar_one ti_38 (hF707.2.2.2.2.1 _ _ (one_self _ _)) rfl))) hst680.a7 ?_
   refine LP (int (((pos xs k) : Nat) : Int)) 9 rfl rfl rfl (fun u709 => rfl) hst680.a7 ?_
   obtain ⟨cl714, cs715, hr716, hcb717, hsg718⟩ := Row.at hrow625 (pos xs k) (by simp only [List.length_set]; omega)
   rw [List.getElem_set_self] at hr716
   obtain rfl := tySp_open hr716
   refine LP (ptr b597 (0 + (pos xs k) * 7)) 10 rfl rfl rfl (fun u712 => (x_indexAddr' rfl sl_38 ti_96 rfl rfl (by omega))) hst680.a7 ?_
   refine LP (ptr b597 (0 + (pos xs k) * 7 + 4)) 11 rfl rfl rfl (fun u720 => (by kernel_rfl)) hst680.a7 ?_
   refine LT (int r.count) 12 rfl rfl rfl (fun u723 hF724 => (x_load rfl rfl (run_loadVar_one ti_3 (hF724.2.1 _ _ hcb717) (seg_get (j := 4) hsg718 rfl)))) hst680.a7 ?_
   refine LP (int (r.count + 1)) 13 rfl rfl rfl (fun u726 => (x_add rfl rfl rfl (by constructor <;> omega))) hst680.a7 ?_
   refine LT (int (min (r.count + 1) 1000000)) 14 rfl rfl rfl (fun u729 hF730 => (x_min rfl rfl rfl)) hst680.a7 ?_
   obtain ⟨cl734, cs735, hr736, hcb737, hsg738⟩ := Row.at hrow625 (pos xs k) (by simp only [List.length_set]; omega)
   rw [List.getElem_set_self] at hr736
   obtain rfl := tySp_open hr736
   refine LP (ptr b597 (0 + (pos xs k) * 7)) 15 rfl rfl rfl (fun u732 => (x_indexAddr' rfl sl_38 ti_96 rfl rfl (by omega))) hst680.a7 ?_
   refine LP (ptr b597 (0 + (pos xs k) * 7 + 4)) 16 rfl rfl rfl (fun u740 => (by kernel_rfl)) hst680.a7 ?_
   refine LA_all [17] (by decide +kernel) (by simp) ?_
   intro i_ hi_
   simp only [List.mem_cons, List.not_mem_nil, or_false] at hi_
   subst hi_
   obtain ⟨c743, w744, hr745, hrow746, hst747⟩ := Row.storeF (P := Tryd.prog) (v := (int (min (r.count + 1) 1000000))) (y := (Sp.mk k ⟨r.tier, r.calls + 1, min (r.count + 1) 1000000, r.failures, r.exits⟩ (.slice none 0 0))) (cl := (spCells (Sp.mk k ⟨r.tier, r.calls + 1, r.count, r.failures, r.exits⟩ (.slice none 0 0)))) hrow625 hst680 ti_3 (pos xs k) (by simp only [List.length_set]; omega) 4 (by decide) (fun c1 h1 => by rw [List.getElem_set_self] at h1; exact h1.1) rfl rfl (tySp_is rfl rfl)
   rw [List.set_set] at hrow746
   refine One_skip (i := 17) rfl rfl (Want.plain rfl) (x_store rfl rfl rfl hr745) (fun h => absurd h (by decide +kernel)) ?_
   refine LA_done (by decide +kernel) ?_
   refine W_seq ?_
   refine W_region_lit ?_
   refine Lq (ptr m 0) rfl rfl rfl rfl ?_
   refine Lq (ptr m 0) rfl rfl rfl rfl ?_
   refine Lq (ptr m 4) rfl rfl rfl (by kernel_rfl) ?_
   refine Lq (.slice (some ⟨b597, 0, none⟩) (((([] : List Sp) ++ (List.take (pos xs k) xs)) ++ ([(⟨k, rec0, .slice none 0 0⟩ : Sp)] ++ (List.drop (pos xs k) xs))).length) cap582) rfl rfl rfl (x_load rfl rfl (run_loadVar_one ti_38 (hst747.b 3) rfl)) ?_
   refine Lq (int (((pos xs k) : Nat) : Int)) rfl rfl rfl rfl ?_
   obtain ⟨cl748, cs749, hr750, hcb751, hsg752⟩ := Row.at hrow746 (pos xs k) (by simp only [List.length_set]; omega)
   rw [List.getElem_set_self] at hr750
   obtain rfl := tySp_open hr750
   refine Lq (ptr b597 (0 + (pos xs k) * 7)) rfl rfl rfl (x_indexAddr' rfl sl_38 ti_96 rfl rfl (by omega)) ?_
   refine Lq (ptr b597 (0 + (pos xs k) * 7 + 4)) rfl rfl rfl (by kernel_rfl) ?_
   refine Lq (int (min (r.count + 1) 1000000)) rfl rfl rfl (x_load rfl rfl (run_loadVar_one ti_3 ((hst747.g 0) _ _ hcb751) (seg_get (j := 4) hsg752 rfl))) ?_
   refine Lq (int (min (r.count + 1) 1000000)) rfl rfl rfl rfl ?_
   refine L_nil ?_
   refine W_seq ?_
   refine W_seq ?_
   refine W_region_lit ?_
   refine Lq (ptr m 0) rfl rfl rfl rfl ?_
   refine Lq (ptr m 0) rfl rfl rfl rfl ?_
   refine Lq (ptr m 4) rfl rfl rfl (by kernel_rfl) ?_
   refine Lq (.slice (some ⟨b597, 0, none⟩) (((([] : List Sp) ++ (List.take (pos xs k) xs)) ++ ([(⟨k, rec0, .slice none 0 0⟩ : Sp)] ++ (List.drop (pos xs k) xs))).length) cap582) rfl rfl rfl (x_load rfl rfl (run_loadVar_one ti_38 (hst747.b 3) rfl)) ?_
   refine Lq (int (((pos xs k) : Nat) : Int)) rfl rfl rfl rfl ?_
   obtain ⟨cl753, cs754, hr755, hcb756, hsg757⟩ := Row.at hrow746 (pos xs k) (by simp only [List.length_set]; omega)
   rw [List.getElem_set_self] at hr755
   obtain rfl := tySp_open hr755
   refine Lq (ptr b597 (0 + (pos xs k) * 7)) rfl rfl rfl (x_indexAddr' rfl sl_38 ti_96 rfl rfl (by omega)) ?_
   refine Lq (ptr b597 (0 + (pos xs k) * 7 + 2)) rfl rfl rfl (by kernel_rfl) ?_
   refine Lq (int r.tier) rfl rfl rfl (x_load rfl rfl (run_loadVar_one ti_3 ((hst747.g 0) _ _ hcb756) (seg_get (j := 2) hsg757 rfl))) ?_
   refine Lq (.bool (r.tier == 0)) rfl rfl rfl (by kernel_rfl) ?_
   refine Lq (.bool (r.tier == 0)) rfl rfl rfl rfl ?_
   rcases Bool.eq_false_or_eq_true (r.tier == 0) with c758 | c758
   ·
    have q759 := eq_of_beq c758
    refine L_guard rfl rfl rfl rfl c758 ?_
    refine Lq (int (min (r.count + 1) 1000000)) rfl rfl rfl rfl ?_
    refine L_guard rfl rfl rfl rfl c758 ?_
    refine Lq (ptr m 0) rfl rfl rfl rfl ?_
    refine L_guard rfl rfl rfl rfl c758 ?_
    refine Lq (ptr m 0) rfl rfl rfl rfl ?_
    refine L_guard rfl rfl rfl rfl c758 ?_
    refine Lq (ptr m 1) rfl rfl rfl (by kernel_rfl) ?_
    refine L_guard rfl rfl rfl rfl c758 ?_
    refine Lq (int s.warm) rfl rfl rfl (x_load rfl rfl (run_loadVar_one ti_3 (hst747.b 3) rfl)) ?_
    refine L_guard rfl rfl rfl rfl c758 ?_
    refine Lq (.bool (decide (min (r.count + 1) 1000000 ≥ s.warm))) rfl rfl rfl (by kernel_rfl) ?_
    refine Lq (.bool (decide (min (r.count + 1) 1000000 ≥ s.warm))) rfl rfl rfl (x_pick rfl rfl (by rw [c758]; rfl)) ?_
    refine L_nil ?_
    rcases Bool.eq_false_or_eq_true (decide (min (r.count + 1) 1000000 ≥ s.warm)) with c760 | c760
    ·
     have q761 := of_decide_eq_true c760
     refine W_cond_true (by show Value.bool _ = _; exact congrArg Value.bool c760) ?_
     refine W_seq ?_
     refine W_region_lit ?_
     refine Lq (ptr m 0) rfl rfl rfl rfl ?_
     refine Lq (int (((pos xs k) : Nat) : Int)) rfl rfl rfl rfl ?_
     refine Lq (int (min (r.count + 1) 1000000)) rfl rfl rfl rfl ?_
     refine L_callG hst747 (v := (.string ((Wd.i (min (r.count + 1) 1000000)).txt))) rfl rfl rfl (x_call (vs := #[(int (min (r.count + 1) 1000000))]) rfl rfl (by kernel_rfl) ent_42) (Decimal_spec (min (r.count + 1) 1000000) (by omega) (by omega) (Le.refl _)) (fun w762 hst763 => ?_)
     obtain ⟨t764, ht765⟩ : ∃ t_ : ByteArray, t_ = ⟨#[119, 97, 114, 109, 32]⟩ ++ ((Wd.i (min (r.count + 1) 1000000)).txt) := ⟨_, rfl⟩
     have ht765z := size_app_le (show ByteArray.size ⟨#[119, 97, 114, 109, 32]⟩ ≤ 100 from by decide) (txt_i_le (n := min (r.count + 1) 1000000) (by constructor <;> omega))
     rw [← ht765] at ht765z
     simp only [Nat.reduceAdd] at ht765z
     refine Lq (.string t764) rfl rfl rfl (by rw [ht765]; exact (x_strcat rfl rfl rfl (room_le (show ByteArray.size ⟨#[119, 97, 114, 109, 32]⟩ ≤ 100 from by decide) (txt_i_le (n := min (r.count + 1) 1000000) (by constructor <;> omega)) (by decide)))) ?_
     refine L_call rfl rfl rfl (x_call (vs := #[(ptr m 0), (int (((pos xs k) : Nat) : Int)), (int 1), (.string t764)]) rfl rfl (by kernel_rfl) ent_51) ?_ (fun _ _ h => h)
     refine calls_of_W (n := 36) Tryd.func51 rfl Tryd.ntmps51 (Nat.le_of_ble_eq_true rfl) ?_
     refine W_seq ?_
     refine W_region_lit ?_
     refine Lq (ptr m 0) rfl rfl rfl rfl ?_
     refine Lq (ptr m 0) rfl rfl rfl rfl ?_
     refine Lq (ptr m 4) rfl rfl rfl (by kernel_rfl) ?_
     refine Lq (.slice (some ⟨b597, 0, none⟩) (((([] : List Sp) ++ (List.take (pos xs k) xs)) ++ ([(⟨k, rec0, .slice none 0 0⟩ : Sp)] ++ (List.drop (pos xs k) xs))).length) cap582) rfl rfl rfl (x_load rfl rfl (run_loadVar_one ti_38 (hst763.b 3) rfl)) ?_
     refine Lq (int (((pos xs k) : Nat) : Int)) rfl rfl rfl rfl ?_
     refine Lq (int 1) rfl rfl rfl rfl ?_
     obtain ⟨cl766, cs767, hr768, hcb769, hsg770⟩ := Row.at hrow746 (pos xs k) (by simp only [List.length_set]; omega)
     rw [List.getElem_set_self] at hr768
     obtain rfl := tySp_open hr768
     refine Lq (ptr b597 (0 + (pos xs k) * 7)) rfl rfl rfl (x_indexAddr' rfl sl_38 ti_96 rfl rfl (by omega)) ?_
     refine Lq (ptr b597 (0 + (pos xs k) * 7 + 2)) rfl rfl rfl (by kernel_rfl) ?_
     obtain ⟨c771, w772, hr773, hrow774, hst775⟩ := Row.storeF (P := Tryd.prog) (v := (int 1)) (y := (Sp.mk k ⟨1, r.calls + 1, min (r.count + 1) 1000000, r.failures, r.exits⟩ (.slice none 0 0))) (cl := (spCells (Sp.mk k ⟨r.tier, r.calls + 1, min (r.count + 1) 1000000, r.failures, r.exits⟩ (.slice none 0 0)))) hrow746 hst763 ti_3 (pos xs k) (by simp only [List.length_set]; omega) 2 (by decide) (fun c1 h1 => by rw [List.getElem_set_self] at h1; exact h1.1) rfl rfl (tySp_is rfl rfl)
     rw [List.set_set] at hrow774
     refine L_skip rfl rfl (x_store rfl rfl rfl hr773) ?_
     refine L_nil ?_
     refine W_region_draw [20] (fun w => Le R (hp w) ∧ Le c771 (hp w) ∧ Le (one b1 (.cells #[(int k.1), (int k.2)] 43 (0, 0))) (hp w) ∧ Le (one m (.cells #[(int s.sample), (int s.warm), (int s.hot), (int s.cold), (.slice (some ⟨b597, 0, none⟩) (((([] : List Sp) ++ (List.take (pos xs k) xs)) ++ ([(⟨k, rec0, .slice none 0 0⟩ : Sp)] ++ (List.drop (pos xs k) xs))).length) cap582), vD] 41 (0, 0))) (hp w) ∧ Le cX (hp w)) hmix (by decide +kernel) (fun _ _ h => h) ?_
     have hst777 := hst775.draws (w772.drawn + 1)
     generalize draws w772 (w772.drawn + 1) = w776 at hst777 ⊢
     refine LP (ptr m 0) 0 rfl rfl rfl (fun u779 => rfl) ⟨hst777.rle', hst777.g 0, hst777.g 2, hst777.g 3, hst777.g 5⟩ ?_
     refine LP (ptr m 0) 1 rfl rfl rfl (fun u782 => rfl) ⟨hst777.rle', hst777.g 0, hst777.g 2, hst777.g 3, hst777.g 5⟩ ?_
     refine LP (ptr m 0) 2 rfl rfl rfl (fun u785 => rfl) ⟨hst777.rle', hst777.g 0, hst777.g 2, hst777.g 3, hst777.g 5⟩ ?_
     refine LP (ptr m 5) 3 rfl rfl rfl (fun u788 => (by kernel_rfl)) ⟨hst777.rle', hst777.g 0, hst777.g 2, hst777.g 3, hst777.g 5⟩ ?_
     refine LT vD 4 rfl rfl rfl (fun u791 hF792 => (x_load rfl rfl (run_loadVar_one ti_39 (hF792.2.2.2.1 _ _ (one_self _ _)) rfl))) ⟨hst777.rle', hst777.g 0, hst777.g 2, hst777.g 3, hst777.g 5⟩ ?_
     refine LP (ptr m 0) 5 rfl rfl rfl (fun u794 => rfl) ⟨hst777.rle', hst777.g 0, hst777.g 2, hst777.g 3, hst777.g 5⟩ ?_
     refine LP (ptr m 0) 6 rfl rfl rfl (fun u797 => rfl) ⟨hst777.rle', hst777.g 0, hst777.g 2, hst777.g 3, hst777.g 5⟩ ?_
     refine LP (ptr m 4) 7 rfl rfl rfl (fun u800 => (by kernel_rfl)) ⟨hst777.rle', hst777.g 0, hst777.g 2, hst777.g 3, hst777.g 5⟩ ?_
     refine LT (.slice (some ⟨b597, 0, none⟩) (((([] : List Sp) ++ (List.take (pos xs k) xs)) ++ ([(⟨k, rec0, .slice none 0 0⟩ : Sp)] ++ (List.drop (pos xs k) xs))).length) cap582) 8 rfl rfl rfl (fun u803 hF804 => (x_load rfl rfl (run_loadVar_one ti_38 (hF804.2.2.2.1 _ _ (one_self _ _)) rfl))) ⟨hst777.rle', hst777.g 0, hst777.g 2, hst777.g 3, hst777.g 5⟩ ?_
     refine LP (int (((pos xs k) : Nat) : Int)) 9 rfl rfl rfl (fun u806 => rfl) ⟨hst777.rle', hst777.g 0, hst777.g 2, hst777.g 3, hst777.g 5⟩ ?_
     obtain ⟨cl811, cs812, hr813, hcb814, hsg815⟩ := Row.at hrow774 (pos xs k) (by simp only [List.length_set]; omega)
     rw [List.getElem_set_self] at hr813
     obtain rfl := tySp_open hr813
     refine LP (ptr b597 (0 + (pos xs k) * 7)) 10 rfl rfl rfl (fun u809 => (x_indexAddr' rfl sl_38 ti_96 rfl rfl (by omega))) ⟨hst777.rle', hst777.g 0, hst777.g 2, hst777.g 3, hst777.g 5⟩ ?_
     refine LP (ptr b597 (0 + (pos xs k) * 7)) 11 rfl rfl rfl (fun u817 => (by kernel_rfl)) ⟨hst777.rle', hst777.g 0, hst777.g 2, hst777.g 3, hst777.g 5⟩ ?_
     refine LT (.agg #[(int k.1), (int k.2)]) 12 rfl rfl rfl (fun u820 hF821 => (x_load rfl rfl (run_loadVar_agg ti_43 (hF821.2.1 _ _ hcb814) (seg_part hsg815 0 2 rfl rfl) rfl))) ⟨hst777.rle', hst777.g 0, hst777.g 2, hst777.g 3, hst777.g 5⟩ ?_
     refine LP (int 1) 13 rfl rfl rfl (fun u823 => rfl) ⟨hst777.rle', hst777.g 0, hst777.g 2, hst777.g 3, hst777.g 5⟩ ?_
     refine LP (.string t764) 14 rfl rfl rfl (fun u826 => rfl) ⟨hst777.rle', hst777.g 0, hst777.g 2, hst777.g 3, hst777.g 5⟩ ?_
     refine LP (.agg #[(int k.1), (int k.2), (int 1), (.string t764)]) 15 rfl rfl rfl (fun u829 => (by kernel_rfl)) ⟨hst777.rle', hst777.g 0, hst777.g 2, hst777.g 3, hst777.g 5⟩ ?_
     refine LA_all [16] (by decide +kernel) (by simp) ?_
     intro i_ hi_
     simp only [List.mem_cons, List.not_mem_nil, or_false] at hi_
     subst hi_
     refine One_new hst777 (i := 16) (v := fun b => .slice (some ⟨b, 0, none⟩) 1 1) (ob := .cells #[(int k.1), (int k.2), (int 1), (.string t764)] 99 (0, 0)) rfl rfl rfl (Want.plain rfl) (by kernel_rfl) (fun b834 w835 hst836 => ?_)
     refine ⟨(fun _ => ⟨hst836.rle', hst836.g 1, hst836.g 3, hst836.g 4, hst836.g 6⟩), ?_⟩
     refine LA_all [17] (by decide +kernel) (by simp) ?_
     intro i_ hi_
     simp only [List.mem_cons, List.not_mem_nil, or_false] at hi_
     subst hi_
     refine One_append (j := 17) hst836 (t := 39) (e := 99) (ys := [Dec.mk k 1 t764]) (src := [(int k.1), (int k.2), (int 1), (.string t764)]) 7 rfl rfl rfl (Want.plain rfl) rfl rfl rfl sl_39 ti_99 rfl rfl rfl hD (src_own (hst836.b 0)) (Encs.one (tyDec_mk _ _ _ _ _)) rfl (by first | omega | (simp only [List.length_append, List.length_cons, List.length_nil]; omega)) (by first | (simp only [maxLen]; omega) | (simp only [List.length_append, List.length_cons, List.length_nil, maxLen]; omega)) (fun v840 c841 w842 ho843 hst844 => ?_)
     refine ⟨(fun _ => ⟨hst844.rle', hst844.g 2, hst844.g 4, hst844.g 5, hst844.g 7⟩), ?_⟩
     refine LP (ptr m 0) 18 rfl rfl rfl (fun u846 => rfl) ⟨hst844.rle', hst844.g 2, hst844.g 4, hst844.g 5, hst844.g 7⟩ ?_
     refine LP (ptr m 5) 19 rfl rfl rfl (fun u849 => (by kernel_rfl)) ⟨hst844.rle', hst844.g 2, hst844.g 4, hst844.g 5, hst844.g 7⟩ ?_
     refine LA_all [20] (by decide +kernel) (by simp) ?_
     intro i_ hi_
     simp only [List.mem_cons, List.not_mem_nil, or_false] at hi_
     subst hi_
     obtain ⟨a852, cap853, e854, hc855⟩ := ho843.value
     subst e854
     obtain ⟨w856, hr858, hst857⟩ := run_storeW (P := Tryd.prog) (b := m) (off := 5) (v := (.slice a852 ((s.decs ++ [Dec.mk k 1 t764]).length) cap853)) hst844 5 ti_39 rfl rfl rfl rfl rfl rfl
     change Step _ _ _ _ _ [c841, one b834 (.cells #[(int k.1), (int k.2), (int 1), (.string t764)] 99 (0, 0)), c771, c552, one b1 (.cells #[(int k.1), (int k.2)] 43 (0, 0)), one m (.cells #[(int s.sample), (int s.warm), (int s.hot), (int s.cold), (.slice (some ⟨b597, 0, none⟩) (((([] : List Sp) ++ (List.take (pos xs k) xs)) ++ ([(⟨k, rec0, .slice none 0 0⟩ : Sp)] ++ (List.drop (pos xs k) xs))).length) cap582), (.slice a852 ((s.decs ++ [Dec.mk k 1 t764]).length) cap853)] 41 (0, 0)), cL, cX] at hst857
     refine One_skip (i := 20) rfl rfl (Want.plain rfl) (x_store rfl rfl rfl hr858) (fun h => absurd h (by decide +kernel)) ?_
     refine LA_done (by decide +kernel) ?_
     refine ⟨_, _, res_run (rs := []) (vs := []) Tryd.results51 .nil rfl, ?_⟩
     refine ⟨_, rfl, ?_⟩
     refine L_nil ?_
     refine W_seq ?_
     refine W_region_lit ?_
     refine Lq (.bool true) rfl rfl rfl rfl ?_
     refine L_nil ?_
     refine W_ret ?_
     refine ⟨_, _, res_run (rs := [.tmp 4]) (vs := [(.bool true)]) Tryd.results33 (.cons (.tmp rfl) .nil) rfl, ?_⟩
     have he := back_warm (s := s) hrc (of_decide_eq_false c610) (by simpa using c676) (eq_of_beq c758) (of_decide_eq_true c760)
     rw [he]
     obtain ⟨c', hst', href'⟩ := RefP.close (s := s.decide k { r with calls := r.calls + 1, count := min (r.count + 1) 1000000 } 1 (joinW [Wd.s wWarm, Wd.i (min (r.count + 1) 1000000)])) (xs := (List.set xs2 (pos xs k) (Sp.mk k ⟨1, r.calls + 1, min (r.count + 1) 1000000, r.failures, r.exits⟩ (.slice none 0 0)))) (((hst857.front 7 rfl rfl).front 3 rfl rfl).front 6 rfl rfl) (hback603 R (List.set xs2 (pos xs k) (Sp.mk k ⟨1, r.calls + 1, min (r.count + 1) 1000000, r.failures, r.exits⟩ (.slice none 0 0))) c771 (by first | rfl | (simp only [List.length_set]; done) | (simp only [List.length_set]; omega) | omega) hrow774) (hX588.same hj (by rw [hx]) (by rw [hx])) (Eq.mp (congrArg (fun l_ => OwnL tyDec 99 R (.slice a852 ((s.decs ++ [Dec.mk k 1 t764]).length) cap853) l_ c841) (show (s.decs ++ [Dec.mk k 1 t764]) = (s.decide k { r with calls := r.calls + 1, count := min (r.count + 1) 1000000 } 1 (joinW [Wd.s wWarm, Wd.i (min (r.count + 1) 1000000)])).decs from congrArg (fun t_ => s.decs ++ [Dec.mk k 1 t_]) (by rw [ht765]; exact dec_warm _))) ho843) (hset (Sp.mk k ⟨1, r.calls + 1, min (r.count + 1) 1000000, r.failures, r.exits⟩ (.slice none 0 0)) rfl).1 (Agr.decide (r := { r with calls := r.calls + 1, count := min (r.count + 1) 1000000 }) (hset (Sp.mk k ⟨1, r.calls + 1, min (r.count + 1) 1000000, r.failures, r.exits⟩ (.slice none 0 0)) rfl).2 hag) (by simp only [List.length_set]; show _ ≤ s.n + 1; omega) (hok.decide k hro.count1 (by decide) (joinW_short (Oks (Sm2 (Sm_s (by decide)) (Sm_i (by constructor <;> omega)))) (Nat.le_of_ble_eq_true rfl)))
     exact ⟨_, _, _, rfl, hst'.keepN 1 rfl, c', rfl, rfl, href'⟩
    ·
     have q859 := of_decide_eq_false c760
     refine W_cond_false (by show Value.bool _ = _; exact congrArg Value.bool c760) ?_
     refine W_skip ?_
     refine W_seq ?_
     refine W_seq ?_
     refine W_region_lit ?_
     refine Lq (ptr m 0) rfl rfl rfl rfl ?_
     refine Lq (ptr m 0) rfl rfl rfl rfl ?_
     refine Lq (ptr m 4) rfl rfl rfl (by kernel_rfl) ?_
     refine Lq (.slice (some ⟨b597, 0, none⟩) (((([] : List Sp) ++ (List.take (pos xs k) xs)) ++ ([(⟨k, rec0, .slice none 0 0⟩ : Sp)] ++ (List.drop (pos xs k) xs))).length) cap582) rfl rfl rfl (x_load rfl rfl (run_loadVar_one ti_38 (hst747.b 3) rfl)) ?_
     refine Lq (int (((pos xs k) : Nat) : Int)) rfl rfl rfl rfl ?_
     obtain ⟨cl860, cs861, hr862, hcb863, hsg864⟩ := Row.at hrow746 (pos xs k) (by simp only [List.length_set]; omega)
     rw [List.getElem_set_self] at hr862
     obtain rfl := tySp_open hr862
     refine Lq (ptr b597 (0 + (pos xs k) * 7)) rfl rfl rfl (x_indexAddr' rfl sl_38 ti_96 rfl rfl (by omega)) ?_
     refine Lq (ptr b597 (0 + (pos xs k) * 7 + 2)) rfl rfl rfl (by kernel_rfl) ?_
     refine Lq (int r.tier) rfl rfl rfl (x_load rfl rfl (run_loadVar_one ti_3 ((hst747.g 0) _ _ hcb863) (seg_get (j := 2) hsg864 rfl))) ?_
     refine Lq (.bool (r.tier == 1)) rfl rfl rfl (by kernel_rfl) ?_
     refine Lq (.bool (r.tier == 1)) rfl rfl rfl rfl ?_
     rcases Bool.eq_false_or_eq_true (r.tier == 1) with c865 | c865
     ·
      have q866 := eq_of_beq c865
      refine L_guard rfl rfl rfl rfl c865 ?_
      refine Lq (int (min (r.count + 1) 1000000)) rfl rfl rfl rfl ?_
      refine L_guard rfl rfl rfl rfl c865 ?_
      refine Lq (ptr m 0) rfl rfl rfl rfl ?_
      refine L_guard rfl rfl rfl rfl c865 ?_
      refine Lq (ptr m 0) rfl rfl rfl rfl ?_
      refine L_guard rfl rfl rfl rfl c865 ?_
      refine Lq (ptr m 2) rfl rfl rfl (by kernel_rfl) ?_
      refine L_guard rfl rfl rfl rfl c865 ?_
      refine Lq (int s.hot) rfl rfl rfl (x_load rfl rfl (run_loadVar_one ti_3 (hst747.b 3) rfl)) ?_
      refine L_guard rfl rfl rfl rfl c865 ?_
      refine Lq (.bool (decide (min (r.count + 1) 1000000 ≥ s.hot))) rfl rfl rfl (by kernel_rfl) ?_
      refine Lq (.bool (decide (min (r.count + 1) 1000000 ≥ s.hot))) rfl rfl rfl (x_pick rfl rfl (by rw [c865]; rfl)) ?_
      refine L_nil ?_
      rcases Bool.eq_false_or_eq_true (decide (min (r.count + 1) 1000000 ≥ s.hot)) with c867 | c867
      ·
       have q868 := of_decide_eq_true c867
       refine W_cond_true (by show Value.bool _ = _; exact congrArg Value.bool c867) ?_
       refine W_seq ?_
       refine W_region_lit ?_
       refine Lq (ptr m 0) rfl rfl rfl rfl ?_
       refine Lq (int (((pos xs k) : Nat) : Int)) rfl rfl rfl rfl ?_
       refine Lq (int (min (r.count + 1) 1000000)) rfl rfl rfl rfl ?_
       refine L_callG hst747 (v := (.string ((Wd.i (min (r.count + 1) 1000000)).txt))) rfl rfl rfl (x_call (vs := #[(int (min (r.count + 1) 1000000))]) rfl rfl (by kernel_rfl) ent_42) (Decimal_spec (min (r.count + 1) 1000000) (by omega) (by omega) (Le.refl _)) (fun w869 hst870 => ?_)
       obtain ⟨t871, ht872⟩ : ∃ t_ : ByteArray, t_ = ⟨#[104, 111, 116, 32]⟩ ++ ((Wd.i (min (r.count + 1) 1000000)).txt) := ⟨_, rfl⟩
       have ht872z := size_app_le (show ByteArray.size ⟨#[104, 111, 116, 32]⟩ ≤ 100 from by decide) (txt_i_le (n := min (r.count + 1) 1000000) (by constructor <;> omega))
       rw [← ht872] at ht872z
       simp only [Nat.reduceAdd] at ht872z
       refine Lq (.string t871) rfl rfl rfl (by rw [ht872]; exact (x_strcat rfl rfl rfl (room_le (show ByteArray.size ⟨#[104, 111, 116, 32]⟩ ≤ 100 from by decide) (txt_i_le (n := min (r.count + 1) 1000000) (by constructor <;> omega)) (by decide)))) ?_
       refine L_call rfl rfl rfl (x_call (vs := #[(ptr m 0), (int (((pos xs k) : Nat) : Int)), (int 2), (.string t871)]) rfl rfl (by kernel_rfl) ent_51) ?_ (fun _ _ h => h)
       refine calls_of_W (n := 36) Tryd.func51 rfl Tryd.ntmps51 (Nat.le_of_ble_eq_true rfl) ?_
       refine W_seq ?_
       refine W_region_lit ?_
       refine Lq (ptr m 0) rfl rfl rfl rfl ?_
       refine Lq (ptr m 0) rfl rfl rfl rfl ?_
       refine Lq (ptr m 4) rfl rfl rfl (by kernel_rfl) ?_
       refine Lq (.slice (some ⟨b597, 0, none⟩) (((([] : List Sp) ++ (List.take (pos xs k) xs)) ++ ([(⟨k, rec0, .slice none 0 0⟩ : Sp)] ++ (List.drop (pos xs k) xs))).length) cap582) rfl rfl rfl (x_load rfl rfl (run_loadVar_one ti_38 (hst870.b 3) rfl)) ?_
       refine Lq (int (((pos xs k) : Nat) : Int)) rfl rfl rfl rfl ?_
       refine Lq (int 2) rfl rfl rfl rfl ?_
       obtain ⟨cl873, cs874, hr875, hcb876, hsg877⟩ := Row.at hrow746 (pos xs k) (by simp only [List.length_set]; omega)
       rw [List.getElem_set_self] at hr875
       obtain rfl := tySp_open hr875
       refine Lq (ptr b597 (0 + (pos xs k) * 7)) rfl rfl rfl (x_indexAddr' rfl sl_38 ti_96 rfl rfl (by omega)) ?_
       refine Lq (ptr b597 (0 + (pos xs k) * 7 + 2)) rfl rfl rfl (by kernel_rfl) ?_
       obtain ⟨c878, w879, hr880, hrow881, hst882⟩ := Row.storeF (P := Tryd.prog) (v := (int 2)) (y := (Sp.mk k ⟨2, r.calls + 1, min (r.count + 1) 1000000, r.failures, r.exits⟩ (.slice none 0 0))) (cl := (spCells (Sp.mk k ⟨r.tier, r.calls + 1, min (r.count + 1) 1000000, r.failures, r.exits⟩ (.slice none 0 0)))) hrow746 hst870 ti_3 (pos xs k) (by simp only [List.length_set]; omega) 2 (by decide) (fun c1 h1 => by rw [List.getElem_set_self] at h1; exact h1.1) rfl rfl (tySp_is rfl rfl)
       rw [List.set_set] at hrow881
       refine L_skip rfl rfl (x_store rfl rfl rfl hr880) ?_
       refine L_nil ?_
       refine W_region_draw [20] (fun w => Le R (hp w) ∧ Le c878 (hp w) ∧ Le (one b1 (.cells #[(int k.1), (int k.2)] 43 (0, 0))) (hp w) ∧ Le (one m (.cells #[(int s.sample), (int s.warm), (int s.hot), (int s.cold), (.slice (some ⟨b597, 0, none⟩) (((([] : List Sp) ++ (List.take (pos xs k) xs)) ++ ([(⟨k, rec0, .slice none 0 0⟩ : Sp)] ++ (List.drop (pos xs k) xs))).length) cap582), vD] 41 (0, 0))) (hp w) ∧ Le cX (hp w)) hmix (by decide +kernel) (fun _ _ h => h) ?_
       have hst884 := hst882.draws (w879.drawn + 1)
       generalize draws w879 (w879.drawn + 1) = w883 at hst884 ⊢
       refine LP (ptr m 0) 0 rfl rfl rfl (fun u886 => rfl) ⟨hst884.rle', hst884.g 0, hst884.g 2, hst884.g 3, hst884.g 5⟩ ?_
       refine LP (ptr m 0) 1 rfl rfl rfl (fun u889 => rfl) ⟨hst884.rle', hst884.g 0, hst884.g 2, hst884.g 3, hst884.g 5⟩ ?_
       refine LP (ptr m 0) 2 rfl rfl rfl (fun u892 => rfl) ⟨hst884.rle', hst884.g 0, hst884.g 2, hst884.g 3, hst884.g 5⟩ ?_
       refine LP (ptr m 5) 3 rfl rfl rfl (fun u895 => (by kernel_rfl)) ⟨hst884.rle', hst884.g 0, hst884.g 2, hst884.g 3, hst884.g 5⟩ ?_
       refine LT vD 4 rfl rfl rfl (fun u898 hF899 => (x_load rfl rfl (run_loadVar_one ti_39 (hF899.2.2.2.1 _ _ (one_self _ _)) rfl))) ⟨hst884.rle', hst884.g 0, hst884.g 2, hst884.g 3, hst884.g 5⟩ ?_
       refine LP (ptr m 0) 5 rfl rfl rfl (fun u901 => rfl) ⟨hst884.rle', hst884.g 0, hst884.g 2, hst884.g 3, hst884.g 5⟩ ?_
       refine LP (ptr m 0) 6 rfl rfl rfl (fun u904 => rfl) ⟨hst884.rle', hst884.g 0, hst884.g 2, hst884.g 3, hst884.g 5⟩ ?_
       refine LP (ptr m 4) 7 rfl rfl rfl (fun u907 => (by kernel_rfl)) ⟨hst884.rle', hst884.g 0, hst884.g 2, hst884.g 3, hst884.g 5⟩ ?_
       refine LT (.slice (some ⟨b597, 0, none⟩) (((([] : List Sp) ++ (List.take (pos xs k) xs)) ++ ([(⟨k, rec0, .slice none 0 0⟩ : Sp)] ++ (List.drop (pos xs k) xs))).length) cap582) 8 rfl rfl rfl (fun u910 hF911 => (x_load rfl rfl (run_loadVar_one ti_38 (hF911.2.2.2.1 _ _ (one_self _ _)) rfl))) ⟨hst884.rle', hst884.g 0, hst884.g 2, hst884.g 3, hst884.g 5⟩ ?_
       refine LP (int (((pos xs k) : Nat) : Int)) 9 rfl rfl rfl (fun u913 => rfl) ⟨hst884.rle', hst884.g 0, hst884.g 2, hst884.g 3, hst884.g 5⟩ ?_
       obtain ⟨cl918, cs919, hr920, hcb921, hsg922⟩ := Row.at hrow881 (pos xs k) (by simp only [List.length_set]; omega)
       rw [List.getElem_set_self] at hr920
       obtain rfl := tySp_open hr920
       refine LP (ptr b597 (0 + (pos xs k) * 7)) 10 rfl rfl rfl (fun u916 => (x_indexAddr' rfl sl_38 ti_96 rfl rfl (by omega))) ⟨hst884.rle', hst884.g 0, hst884.g 2, hst884.g 3, hst884.g 5⟩ ?_
       refine LP (ptr b597 (0 + (pos xs k) * 7)) 11 rfl rfl rfl (fun u924 => (by kernel_rfl)) ⟨hst884.rle', hst884.g 0, hst884.g 2, hst884.g 3, hst884.g 5⟩ ?_
       refine LT (.agg #[(int k.1), (int k.2)]) 12 rfl rfl rfl (fun u927 hF928 => (x_load rfl rfl (run_loadVar_agg ti_43 (hF928.2.1 _ _ hcb921) (seg_part hsg922 0 2 rfl rfl) rfl))) ⟨hst884.rle', hst884.g 0, hst884.g 2, hst884.g 3, hst884.g 5⟩ ?_
       refine LP (int 2) 13 rfl rfl rfl (fun u930 => rfl) ⟨hst884.rle', hst884.g 0, hst884.g 2, hst884.g 3, hst884.g 5⟩ ?_
       refine LP (.string t871) 14 rfl rfl rfl (fun u933 => rfl) ⟨hst884.rle', hst884.g 0, hst884.g 2, hst884.g 3, hst884.g 5⟩ ?_
       refine LP (.agg #[(int k.1), (int k.2), (int 2), (.string t871)]) 15 rfl rfl rfl (fun u936 => (by kernel_rfl)) ⟨hst884.rle', hst884.g 0, hst884.g 2, hst884.g 3, hst884.g 5⟩ ?_
       refine LA_all [16] (by decide +kernel) (by simp) ?_
       intro i_ hi_
       simp only [List.mem_cons, List.not_mem_nil, or_false] at hi_
       subst hi_
       refine One_new hst884 (i := 16) (v := fun b => .slice (some ⟨b, 0, none⟩) 1 1) (ob := .cells #[(int k.1), (int k.2), (int 2), (.string t871)] 99 (0, 0)) rfl rfl rfl (Want.plain rfl) (by kernel_rfl) (fun b941 w942 hst943 => ?_)
       refine ⟨(fun _ => ⟨hst943.rle', hst943.g 1, hst943.g 3, hst943.g 4, hst943.g 6⟩), ?_⟩
       refine LA_all [17] (by decide +kernel) (by simp) ?_
       intro i_ hi_
       simp only [List.mem_cons, List.not_mem_nil, or_false] at hi_
       subst hi_
       refine One_append (j := 17) hst943 (t := 39) (e := 99) (ys := [Dec.mk k 2 t871]) (src := [(int k.1), (int k.2), (int 2), (.string t871)]) 7 rfl rfl rfl (Want.plain rfl) rfl rfl rfl sl_39 ti_99 rfl rfl rfl hD (src_own (hst943.b 0)) (Encs.one (tyDec_mk _ _ _ _ _)) rfl (by first | omega | (simp only [List.length_append, List.length_cons, List.length_nil]; omega)) (by first | (simp only [maxLen]; omega) | (simp only [List.length_append, List.length_cons, List.length_nil, maxLen]; omega)) (fun v947 c948 w949 ho950 hst951 => ?_)
       refine ⟨(fun _ => ⟨hst951.rle', hst951.g 2, hst951.g 4, hst951.g 5, hst951.g 7⟩), ?_⟩
       refine LP (ptr m 0) 18 rfl rfl rfl (fun u953 => rfl) ⟨hst951.rle', hst951.g 2, hst951.g 4, hst951.g 5, hst951.g 7⟩ ?_
       refine LP (ptr m 5) 19 rfl rfl rfl (fun u956 => (by kernel_rfl)) ⟨hst951.rle', hst951.g 2, hst951.g 4, hst951.g 5, hst951.g 7⟩ ?_
       refine LA_all [20] (by decide +kernel) (by simp) ?_
       intro i_ hi_
       simp only [List.mem_cons, List.not_mem_nil, or_false] at hi_
       subst hi_
       obtain ⟨a959, cap960, e961, hc962⟩ := ho950.value
       subst e961
       obtain ⟨w963, hr965, hst964⟩ := run_storeW (P := Tryd.prog) (b := m) (off := 5) (v := (.slice a959 ((s.decs ++ [Dec.mk k 2 t871]).length) cap960)) hst951 5 ti_39 rfl rfl rfl rfl rfl rfl
       change Step _ _ _ _ _ [c948, one b941 (.cells #[(int k.1), (int k.2), (int 2), (.string t871)] 99 (0, 0)), c878, c552, one b1 (.cells #[(int k.1), (int k.2)] 43 (0, 0)), one m (.cells #[(int s.sample), (int s.warm), (int s.hot), (int s.cold), (.slice (some ⟨b597, 0, none⟩) (((([] : List Sp) ++ (List.take (pos xs k) xs)) ++ ([(⟨k, rec0, .slice none 0 0⟩ : Sp)] ++ (List.drop (pos xs k) xs))).length) cap582), (.slice a959 ((s.decs ++ [Dec.mk k 2 t871]).length) cap960)] 41 (0, 0)), cL, cX] at hst964
       refine One_skip (i := 20) rfl rfl (Want.plain rfl) (x_store rfl rfl rfl hr965) (fun h => absurd h (by decide +kernel)) ?_
       refine LA_done (by decide +kernel) ?_
       refine ⟨_, _, res_run (rs := []) (vs := []) Tryd.results51 .nil rfl, ?_⟩
       refine ⟨_, rfl, ?_⟩
       refine L_nil ?_
       refine W_seq ?_
       refine W_region_lit ?_
       refine Lq (.bool true) rfl rfl rfl rfl ?_
       refine L_nil ?_
       refine W_ret ?_
       refine ⟨_, _, res_run (rs := [.tmp 4]) (vs := [(.bool true)]) Tryd.results33 (.cons (.tmp rfl) .nil) rfl, ?_⟩
       have he := back_hot (s := s) hrc (of_decide_eq_false c610) (by simpa using c676) (eq_of_beq c865) (of_decide_eq_true c867)
       rw [he]
       obtain ⟨c', hst', href'⟩ := RefP.close (s := s.decide k { r with calls := r.calls + 1, count := min (r.count + 1) 1000000 } 2 (joinW [Wd.s wHot, Wd.i (min (r.count + 1) 1000000)])) (xs := (List.set xs2 (pos xs k) (Sp.mk k ⟨2, r.calls + 1, min (r.count + 1) 1000000, r.failures, r.exits⟩ (.slice none 0 0)))) (((hst964.front 7 rfl rfl).front 3 rfl rfl).front 6 rfl rfl) (hback603 R (List.set xs2 (pos xs k) (Sp.mk k ⟨2, r.calls + 1, min (r.count + 1) 1000000, r.failures, r.exits⟩ (.slice none 0 0))) c878 (by first | rfl | (simp only [List.length_set]; done) | (simp only [List.length_set]; omega) | omega) hrow881) (hX588.same hj (by rw [hx]) (by rw [hx])) (Eq.mp (congrArg (fun l_ => OwnL tyDec 99 R (.slice a959 ((s.decs ++ [Dec.mk k 2 t871]).length) cap960) l_ c948) (show (s.decs ++ [Dec.mk k 2 t871]) = (s.decide k { r with calls := r.calls + 1, count := min (r.count + 1) 1000000 } 2 (joinW [Wd.s wHot, Wd.i (min (r.count + 1) 1000000)])).decs from congrArg (fun t_ => s.decs ++ [Dec.mk k 2 t_]) (by rw [ht872]; exact dec_hot _))) ho950) (hset (Sp.mk k ⟨2, r.calls + 1, min (r.count + 1) 1000000, r.failures, r.exits⟩ (.slice none 0 0)) rfl).1 (Agr.decide (r := { r with calls := r.calls + 1, count := min (r.count + 1) 1000000 }) (hset (Sp.mk k ⟨2, r.calls + 1, min (r.count + 1) 1000000, r.failures, r.exits⟩ (.slice none 0 0)) rfl).2 hag) (by simp only [List.length_set]; show _ ≤ s.n + 1; omega) (hok.decide k hro.count1 (by decide) (joinW_short (Oks (Sm2 (Sm_s (by decide)) (Sm_i (by constructor <;> omega)))) (Nat.le_of_ble_eq_true rfl)))
       exact ⟨_, _, _, rfl, hst'.keepN 1 rfl, c', rfl, rfl, href'⟩
      ·
       have q966 := of_decide_eq_false c867
       refine W_cond_false (by show Value.bool _ = _; exact congrArg Value.bool c867) ?_
       refine W_skip ?_
       refine W_seq ?_
       refine W_region_lit ?_
       refine Lq (.bool false) rfl rfl rfl rfl ?_
       refine L_nil ?_
       refine W_ret ?_
       refine ⟨_, _, res_run (rs := [.tmp 4]) (vs := [(.bool false)]) Tryd.results33 (.cons (.tmp rfl) .nil) rfl, ?_⟩
       have he := back_no (s := s) hrc (of_decide_eq_false c610) (by simpa using c676) (fun h => (of_decide_eq_false c760) h.2) (fun h => (of_decide_eq_false c867) h.2)
       rw [he]
       obtain ⟨c', hst', href'⟩ := RefP.close (s := s.put k { r with calls := r.calls + 1, count := min (r.count + 1) 1000000 }) (xs := (List.set xs2 (pos xs k) (Sp.mk k ⟨r.tier, r.calls + 1, min (r.count + 1) 1000000, r.failures, r.exits⟩ (.slice none 0 0)))) ((((hst747.front 6 rfl rfl).front 6 rfl rfl).front 2 rfl rfl).front 5 rfl rfl) (hback603 R (List.set xs2 (pos xs k) (Sp.mk k ⟨r.tier, r.calls + 1, min (r.count + 1) 1000000, r.failures, r.exits⟩ (.slice none 0 0))) c743 (by first | rfl | (simp only [List.length_set]; done) | (simp only [List.length_set]; omega) | omega) hrow746) (hX588.same hj (by rw [hx]) (by rw [hx])) hD (hset (Sp.mk k ⟨r.tier, r.calls + 1, min (r.count + 1) 1000000, r.failures, r.exits⟩ (.slice none 0 0)) rfl).1 (Agr.put (hset (Sp.mk k ⟨r.tier, r.calls + 1, min (r.count + 1) 1000000, r.failures, r.exits⟩ (.slice none 0 0)) rfl).2 hag) (by simp only [List.length_set]; show _ ≤ s.n + 1; omega) (hok.put k hro.count1)
       exact ⟨_, _, _, rfl, hst'.keepN 1 rfl, c', rfl, rfl, href'⟩
     ·
      have q967 := ne_of_beq_false c865
      refine L_unwanted rfl rfl rfl rfl (by rw [c865]; try rfl) rfl rfl ?_
      refine L_unwanted rfl rfl rfl rfl (by rw [c865]; try rfl) rfl rfl ?_
      refine L_unwanted rfl rfl rfl rfl (by rw [c865]; try rfl) rfl rfl ?_
      refine L_unwanted rfl rfl rfl rfl (by rw [c865]; try rfl) rfl rfl ?_
      refine L_unwanted rfl rfl rfl rfl (by rw [c865]; try rfl) rfl rfl ?_
      refine L_unwanted rfl rfl rfl rfl (by rw [c865]; try rfl) rfl rfl ?_
      refine Lq (.bool false) rfl rfl rfl (x_pick rfl rfl (by rw [c865]; rfl)) ?_
      refine L_nil ?_
      refine W_cond_false (by show Value.bool _ = _; exact congrArg Value.bool rfl) ?_
      refine W_skip ?_
      refine W_seq ?_
      refine W_region_lit ?_
      refine Lq (.bool false) rfl rfl rfl rfl ?_
      refine L_nil ?_
      refine W_ret ?_
      refine ⟨_, _, res_run (rs := [.tmp 4]) (vs := [(.bool false)]) Tryd.results33 (.cons (.tmp rfl) .nil) rfl, ?_⟩
      have he := back_no (s := s) hrc (of_decide_eq_false c610) (by simpa using c676) (fun h => (of_decide_eq_false c760) h.2) (fun h => (ne_of_beq_false c865) h.1)
      rw [he]
      obtain ⟨c', hst', href'⟩ := RefP.close (s := s.put k { r with calls := r.calls + 1, count := min (r.count + 1) 1000000 }) (xs := (List.set xs2 (pos xs k) (Sp.mk k ⟨r.tier, r.calls + 1, min (r.count + 1) 1000000, r.failures, r.exits⟩ (.slice none 0 0)))) ((((hst747.front 6 rfl rfl).front 6 rfl rfl).front 2 rfl rfl).front 5 rfl rfl) (hback603 R (List.set xs2 (pos xs k) (Sp.mk k ⟨r.tier, r.calls + 1, min (r.count + 1) 1000000, r.failures, r.exits⟩ (.slice none 0 0))) c743 (by first | rfl | (simp only [List.length_set]; done) | (simp only [List.length_set]; omega) | omega) hrow746) (hX588.same hj (by rw [hx]) (by rw [hx])) hD (hset (Sp.mk k ⟨r.tier, r.calls + 1, min (r.count + 1) 1000000, r.failures, r.exits⟩ (.slice none 0 0)) rfl).1 (Agr.put (hset (Sp.mk k ⟨r.tier, r.calls + 1, min (r.count + 1) 1000000, r.failures, r.exits⟩ (.slice none 0 0)) rfl).2 hag) (by simp only [List.length_set]; show _ ≤ s.n + 1; omega) (hok.put k hro.count1)
      exact ⟨_, _, _, rfl, hst'.keepN 1 rfl, c', rfl, rfl, href'⟩
   ·
    have q968 := ne_of_beq_false c758
    refine L_unwanted rfl rfl rfl rfl (by rw [c758]; try rfl) rfl rfl ?_
    refine L_unwanted rfl rfl rfl rfl (by rw [c758]; try rfl) rfl rfl ?_
    refine L_unwanted rfl rfl rfl rfl (by rw [c758]; try rfl) rfl rfl ?_
    refine L_unwanted rfl rfl rfl rfl (by rw [c758]; try rfl) rfl rfl ?_
    refine L_unwanted rfl rfl rfl rfl (by rw [c758]; try rfl) rfl rfl ?_
    refine L_unwanted rfl rfl rfl rfl (by rw [c758]; try rfl) rfl rfl ?_
    refine Lq (.bool false) rfl rfl rfl (x_pick rfl rfl (by rw [c758]; rfl)) ?_
    refine L_nil ?_
    refine W_cond_false (by show Value.bool _ = _; exact congrArg Value.bool rfl) ?_
    refine W_skip ?_
    refine W_seq ?_
    refine W_seq ?_
    refine W_region_lit ?_
    refine Lq (ptr m 0) rfl rfl rfl rfl ?_
    refine Lq (ptr m 0) rfl rfl rfl rfl ?_
    refine Lq (ptr m 4) rfl rfl rfl (by kernel_rfl) ?_
    refine Lq (.slice (some ⟨b597, 0, none⟩) (((([] : List Sp) ++ (List.take (pos xs k) xs)) ++ ([(⟨k, rec0, .slice none 0 0⟩ : Sp)] ++ (List.drop (pos xs k) xs))).length) cap582) rfl rfl rfl (x_load rfl rfl (run_loadVar_one ti_38 (hst747.b 3) rfl)) ?_
    refine Lq (int (((pos xs k) : Nat) : Int)) rfl rfl rfl rfl ?_
    obtain ⟨cl969, cs970, hr971, hcb972, hsg973⟩ := Row.at hrow746 (pos xs k) (by simp only [List.length_set]; omega)
    rw [List.getElem_set_self] at hr971
    obtain rfl := tySp_open hr971
    refine Lq (ptr b597 (0 + (pos xs k) * 7)) rfl rfl rfl (x_indexAddr' rfl sl_38 ti_96 rfl rfl (by omega)) ?_
    refine Lq (ptr b597 (0 + (pos xs k) * 7 + 2)) rfl rfl rfl (by kernel_rfl) ?_
    refine Lq (int r.tier) rfl rfl rfl (x_load rfl rfl (run_loadVar_one ti_3 ((hst747.g 0) _ _ hcb972) (seg_get (j := 2) hsg973 rfl))) ?_
    refine Lq (.bool (r.tier == 1)) rfl rfl rfl (by kernel_rfl) ?_
    refine Lq (.bool (r.tier == 1)) rfl rfl rfl rfl ?_
    rcases Bool.eq_false_or_eq_true (r.tier == 1) with c974 | c974
    ·
     have q975 := eq_of_beq c974
     refine L_guard rfl rfl rfl rfl c974 ?_
     refine Lq (int (min (r.count + 1) 1000000)) rfl rfl rfl rfl ?_
     refine L_guard rfl rfl rfl rfl c974 ?_
     refine Lq (ptr m 0) rfl rfl rfl rfl ?_
     refine L_guard rfl rfl rfl rfl c974 ?_
     refine Lq (ptr m 0) rfl rfl rfl rfl ?_
     refine L_guard rfl rfl rfl rfl c974 ?_
     refine Lq (ptr m 2) rfl rfl rfl (by kernel_rfl) ?_
     refine L_guard rfl rfl rfl rfl c974 ?_
     refine Lq (int s.hot) rfl rfl rfl (x_load rfl rfl (run_loadVar_one ti_3 (hst747.b 3) rfl)) ?_
     refine L_guard rfl rfl rfl rfl c974 ?_
     refine Lq (.bool (decide (min (r.count + 1) 1000000 ≥ s.hot))) rfl rfl rfl (by kernel_rfl) ?_
     refine Lq (.bool (decide (min (r.count + 1) 1000000 ≥ s.hot))) rfl rfl rfl (x_pick rfl rfl (by rw [c974]; rfl)) ?_
     refine L_nil ?_
     rcases Bool.eq_false_or_eq_true (decide (min (r.count + 1) 1000000 ≥ s.hot)) with c976 | c976
     ·
      have q977 := of_decide_eq_true c976
      refine W_cond_true (by show Value.bool _ = _; exact congrArg Value.bool c976) ?_
      refine W_seq ?_
      refine W_region_lit ?_
      refine Lq (ptr m 0) rfl rfl rfl rfl ?_
      refine Lq (int (((pos xs k) : Nat) : Int)) rfl rfl rfl rfl ?_
      refine Lq (int (min (r.count + 1) 1000000)) rfl rfl rfl rfl ?_
      refine L_callG hst747 (v := (.string ((Wd.i (min (r.count + 1) 1000000)).txt))) rfl rfl rfl (x_call (vs := #[(int (min (r.count + 1) 1000000))]) rfl rfl (by kernel_rfl) ent_42) (Decimal_spec (min (r.count + 1) 1000000) (by omega) (by omega) (Le.refl _)) (fun w978 hst979 => ?_)
      obtain ⟨t980, ht981⟩ : ∃ t_ : ByteArray, t_ = ⟨#[104, 111, 116, 32]⟩ ++ ((Wd.i (min (r.count + 1) 1000000)).txt) := ⟨_, rfl⟩
      have ht981z := size_app_le (show ByteArray.size ⟨#[104, 111, 116, 32]⟩ ≤ 100 from by decide) (txt_i_le (n := min (r.count + 1) 1000000) (by constructor <;> omega))
      rw [← ht981] at ht981z
      simp only [Nat.reduceAdd] at ht981z
      refine Lq (.string t980) rfl rfl rfl (by rw [ht981]; exact (x_strcat rfl rfl rfl (room_le (show ByteArray.size ⟨#[104, 111, 116, 32]⟩ ≤ 100 from by decide) (txt_i_le (n := min (r.count + 1) 1000000) (by constructor <;> omega)) (by decide)))) ?_
      refine L_call rfl rfl rfl (x_call (vs := #[(ptr m 0), (int (((pos xs k) : Nat) : Int)), (int 2), (.string t980)]) rfl rfl (by kernel_rfl) ent_51) ?_ (fun _ _ h => h)
      refine calls_of_W (n := 36) Tryd.func51 rfl Tryd.ntmps51 (Nat.le_of_ble_eq_true rfl) ?_
      refine W_seq ?_
      refine W_region_lit ?_
      refine Lq (ptr m 0) rfl rfl rfl rfl ?_
      refine Lq (ptr m 0) rfl rfl rfl rfl ?_
      refine Lq (ptr m 4) rfl rfl rfl (by kernel_rfl) ?_
      refine Lq (.slice (some ⟨b597, 0, none⟩) (((([] : List Sp) ++ (List.take (pos xs k) xs)) ++ ([(⟨k, rec0, .slice none 0 0⟩ : Sp)] ++ (List.drop (pos xs k) xs))).length) cap582) rfl rfl rfl (x_load rfl rfl (run_loadVar_one ti_38 (hst979.b 3) rfl)) ?_
      refine Lq (int (((pos xs k) : Nat) : Int)) rfl rfl rfl rfl ?_
      refine Lq (int 2) rfl rfl rfl rfl ?_
      obtain ⟨cl982, cs983, hr984, hcb985, hsg986⟩ := Row.at hrow746 (pos xs k) (by simp only [List.length_set]; omega)
      rw [List.getElem_set_self] at hr984
      obtain rfl := tySp_open hr984
      refine Lq (ptr b597 (0 + (pos xs k) * 7)) rfl rfl rfl (x_indexAddr' rfl sl_38 ti_96 rfl rfl (by omega)) ?_
      refine Lq (ptr b597 (0 + (pos xs k) * 7 + 2)) rfl rfl rfl (by kernel_rfl) ?_
      obtain ⟨c987, w988, hr989, hrow990, hst991⟩ := Row.storeF (P := Tryd.prog) (v := (int 2)) (y := (Sp.mk k ⟨2, r.calls + 1, min (r.count + 1) 1000000, r.failures, r.exits⟩ (.slice none 0 0))) (cl := (spCells (Sp.mk k ⟨r.tier, r.calls + 1, min (r.count + 1) 1000000, r.failures, r.exits⟩ (.slice none 0 0)))) hrow746 hst979 ti_3 (pos xs k) (by simp only [List.length_set]; omega) 2 (by decide) (fun c1 h1 => by rw [List.getElem_set_self] at h1; exact h1.1) rfl rfl (tySp_is rfl rfl)
      rw [List.set_set] at hrow990
      refine L_skip rfl rfl (x_store rfl rfl rfl hr989) ?_
      refine L_nil ?_
      refine W_region_draw [20] (fun w => Le R (hp w) ∧ Le c987 (hp w) ∧ Le (one b1 (.cells #[(int k.1), (int k.2)] 43 (0, 0))) (hp w) ∧ Le (one m (.cells #[(int s.sample), (int s.warm), (int s.hot), (int s.cold), (.slice (some ⟨b597, 0, none⟩) (((([] : List Sp) ++ (List.take (pos xs k) xs)) ++ ([(⟨k, rec0, .slice none 0 0⟩ : Sp)] ++ (List.drop (pos xs k) xs))).length) cap582), vD] 41 (0, 0))) (hp w) ∧ Le cX (hp w)) hmix (by decide +kernel) (fun _ _ h => h) ?_
      have hst993 := hst991.draws (w988.drawn + 1)
      generalize draws w988 (w988.drawn + 1) = w992 at hst993 ⊢
      refine LP (ptr m 0) 0 rfl rfl rfl (fun u995 => rfl) ⟨hst993.rle', hst993.g 0, hst993.g 2, hst993.g 3, hst993.g 5⟩ ?_
      refine LP (ptr m 0) 1 rfl rfl rfl (fun u998 => rfl) ⟨hst993.rle', hst993.g 0, hst993.g 2, hst993.g 3, hst993.g 5⟩ ?_
      refine LP (ptr m 0) 2 rfl rfl rfl (fun u1001 => rfl) ⟨hst993.rle', hst993.g 0, hst993.g 2, hst993.g 3, hst993.g 5⟩ ?_
      refine LP (ptr m 5) 3 rfl rfl rfl (fun u1004 => (by kernel_rfl)) ⟨hst993.rle', hst993.g 0, hst993.g 2, hst993.g 3, hst993.g 5⟩ ?_
      refine LT vD 4 rfl rfl rfl (fun u1007 hF1008 => (x_load rfl rfl (run_loadVar_one ti_39 (hF1008.2.2.2.1 _ _ (one_self _ _)) rfl))) ⟨hst993.rle', hst993.g 0, hst993.g 2, hst993.g 3, hst993.g 5⟩ ?_
      refine LP (ptr m 0) 5 rfl rfl rfl (fun u1010 => rfl) ⟨hst993.rle', hst993.g 0, hst993.g 2, hst993.g 3, hst993.g 5⟩ ?_
      refine LP (ptr m 0) 6 rfl rfl rfl (fun u1013 => rfl) ⟨hst993.rle', hst993.g 0, hst993.g 2, hst993.g 3, hst993.g 5⟩ ?_
      refine LP (ptr m 4) 7 rfl rfl rfl (fun u1016 => (by kernel_rfl)) ⟨hst993.rle', hst993.g 0, hst993.g 2, hst993.g 3, hst993.g 5⟩ ?_
      refine LT (.slice (some ⟨b597, 0, none⟩) (((([] : List Sp) ++ (List.take (pos xs k) xs)) ++ ([(⟨k, rec0, .slice none 0 0⟩ : Sp)] ++ (List.drop (pos xs k) xs))).length) cap582) 8 rfl rfl rfl (fun u1019 hF1020 => (x_load rfl rfl (run_loadVar_one ti_38 (hF1020.2.2.2.1 _ _ (one_self _ _)) rfl))) ⟨hst993.rle', hst993.g 0, hst993.g 2, hst993.g 3, hst993.g 5⟩ ?_
      refine LP (int (((pos xs k) : Nat) : Int)) 9 rfl rfl rfl (fun u1022 => rfl) ⟨hst993.rle', hst993.g 0, hst993.g 2, hst993.g 3, hst993.g 5⟩ ?_
      obtain ⟨cl1027, cs1028, hr1029, hcb1030, hsg1031⟩ := Row.at hrow990 (pos xs k) (by simp only [List.length_set]; omega)
      rw [List.getElem_set_self] at hr1029
      obtain rfl := tySp_open hr1029
      refine LP (ptr b597 (0 + (pos xs k) * 7)) 10 rfl rfl rfl (fun u1025 => (x_indexAddr' rfl sl_38 ti_96 rfl rfl (by omega))) ⟨hst993.rle', hst993.g 0, hst993.g 2, hst993.g 3, hst993.g 5⟩ ?_
      refine LP (ptr b597 (0 + (pos xs k) * 7)) 11 rfl rfl rfl (fun u1033 => (by kernel_rfl)) ⟨hst993.rle', hst993.g 0, hst993.g 2, hst993.g 3, hst993.g 5⟩ ?_
      refine LT (.agg #[(int k.1), (int k.2)]) 12 rfl rfl rfl (fun u1036 hF1037 => (x_load rfl rfl (run_loadVar_agg ti_43 (hF1037.2.1 _ _ hcb1030) (seg_part hsg1031 0 2 rfl rfl) rfl))) ⟨hst993.rle', hst993.g 0, hst993.g 2, hst993.g 3, hst993.g 5⟩ ?_
      refine LP (int 2) 13 rfl rfl rfl (fun u1039 => rfl) ⟨hst993.rle', hst993.g 0, hst993.g 2, hst993.g 3, hst993.g 5⟩ ?_
      refine LP (.string t980) 14 rfl rfl rfl (fun u1042 => rfl) ⟨hst993.rle', hst993.g 0, hst993.g 2, hst993.g 3, hst993.g 5⟩ ?_
      refine LP (.agg #[(int k.1), (int k.2), (int 2), (.string t980)]) 15 rfl rfl rfl (fun u1045 => (by kernel_rfl)) ⟨hst993.rle', hst993.g 0, hst993.g 2, hst993.g 3, hst993.g 5⟩ ?_
      refine LA_all [16] (by decide +kernel) (by simp) ?_
      intro i_ hi_
      simp only [List.mem_cons, List.not_mem_nil, or_false] at hi_
      subst hi_
      refine One_new hst993 (i := 16) (v := fun b => .slice (some ⟨b, 0, none⟩) 1 1) (ob := .cells #[(int k.1), (int k.2), (int 2), (.string t980)] 99 (0, 0)) rfl rfl rfl (Want.plain rfl) (by kernel_rfl) (fun b1050 w1051 hst1052 => ?_)
      refine ⟨(fun _ => ⟨hst1052.rle', hst1052.g 1, hst1052.g 3, hst1052.g 4, hst1052.g 6⟩), ?_⟩
      refine LA_all [17] (by decide +kernel) (by simp) ?_
      intro i_ hi_
      simp only [List.mem_cons, List.not_mem_nil, or_false] at hi_
      subst hi_
      refine One_append (j := 17) hst1052 (t := 39) (e := 99) (ys := [Dec.mk k 2 t980]) (src := [(int k.1), (int k.2), (int 2), (.string t980)]) 7 rfl rfl rfl (Want.plain rfl) rfl rfl rfl sl_39 ti_99 rfl rfl rfl hD (src_own (hst1052.b 0)) (Encs.one (tyDec_mk _ _ _ _ _)) rfl (by first | omega | (simp only [List.length_append, List.length_cons, List.length_nil]; omega)) (by first | (simp only [maxLen]; omega) | (simp only [List.length_append, List.length_cons, List.length_nil, maxLen]; omega)) (fun v1056 c1057 w1058 ho1059 hst1060 => ?_)
      refine ⟨(fun _ => ⟨hst1060.rle', hst1060.g 2, hst1060.g 4, hst1060.g 5, hst1060.g 7⟩), ?_⟩
      refine LP (ptr m 0) 18 rfl rfl rfl (fun u1062 => rfl) ⟨hst1060.rle', hst1060.g 2, hst1060.g 4, hst1060.g 5, hst1060.g 7⟩ ?_
      refine LP (ptr m 5) 19 rfl rfl rfl (fun u1065 => (by kernel_rfl)) ⟨hst1060.rle', hst1060.g 2, hst1060.g 4, hst1060.g 5, hst1060.g 7⟩ ?_
      refine LA_all [20] (by decide +kernel) (by simp) ?_
      intro i_ hi_
      simp only [List.mem_cons, List.not_mem_nil, or_false] at hi_
      subst hi_
      obtain ⟨a1068, cap1069, e1070, hc1071⟩ := ho1059.value
      subst e1070
      obtain ⟨w1072, hr1074, hst1073⟩ := run_storeW (P := Tryd.prog) (b := m) (off := 5) (v := (.slice a1068 ((s.decs ++ [Dec.mk k 2 t980]).length) cap1069)) hst1060 5 ti_39 rfl rfl rfl rfl rfl rfl
      change Step _ _ _ _ _ [c1057, one b1050 (.cells #[(int k.1), (int k.2), (int 2), (.string t980)] 99 (0, 0)), c987, c552, one b1 (.cells #[(int k.1), (int k.2)] 43 (0, 0)), one m (.cells #[(int s.sample), (int s.warm), (int s.hot), (int s.cold), (.slice (some ⟨b597, 0, none⟩) (((([] : List Sp) ++ (List.take (pos xs k) xs)) ++ ([(⟨k, rec0, .slice none 0 0⟩ : Sp)] ++ (List.drop (pos xs k) xs))).length) cap582), (.slice a1068 ((s.decs ++ [Dec.mk k 2 t980]).length) cap1069)] 41 (0, 0)), cL, cX] at hst1073
      refine One_skip (i := 20) rfl rfl (Want.plain rfl) (x_store rfl rfl rfl hr1074) (fun h => absurd h (by decide +kernel)) ?_
      refine LA_done (by decide +kernel) ?_
      refine ⟨_, _, res_run (rs := []) (vs := []) Tryd.results51 .nil rfl, ?_⟩
      refine ⟨_, rfl, ?_⟩
      refine L_nil ?_
      refine W_seq ?_
      refine W_region_lit ?_
      refine Lq (.bool true) rfl rfl rfl rfl ?_
      refine L_nil ?_
      refine W_ret ?_
      refine ⟨_, _, res_run (rs := [.tmp 4]) (vs := [(.bool true)]) Tryd.results33 (.cons (.tmp rfl) .nil) rfl, ?_⟩
      have he := back_hot (s := s) hrc (of_decide_eq_false c610) (by simpa using c676) (eq_of_beq c974) (of_decide_eq_true c976)
      rw [he]
      obtain ⟨c', hst', href'⟩ := RefP.close (s := s.decide k { r with calls := r.calls + 1, count := min (r.count + 1) 1000000 } 2 (joinW [Wd.s wHot, Wd.i (min (r.count + 1) 1000000)])) (xs := (List.set xs2 (pos xs k) (Sp.mk k ⟨2, r.calls + 1, min (r.count + 1) 1000000, r.failures, r.exits⟩ (.slice none 0 0)))) (((hst1073.front 7 rfl rfl).front 3 rfl rfl).front 6 rfl rfl) (hback603 R (List.set xs2 (pos xs k) (Sp.mk k ⟨2, r.calls + 1, min (r.count + 1) 1000000, r.failures, r.exits⟩ (.slice none 0 0))) c987 (by first | rfl | (simp only [List.length_set]; done) | (simp only [List.length_set]; omega) | omega) hrow990) (hX588.same hj (by rw [hx]) (by rw [hx])) (Eq.mp (congrArg (fun l_ => OwnL tyDec 99 R (.slice a1068 ((s.decs ++ [Dec.mk k 2 t980]).length) cap1069) l_ c1057) (show (s.decs ++ [Dec.mk k 2 t980]) = (s.decide k { r with calls := r.calls + 1, count := min (r.count + 1) 1000000 } 2 (joinW [Wd.s wHot, Wd.i (min (r.count + 1) 1000000)])).decs from congrArg (fun t_ => s.decs ++ [Dec.mk k 2 t_]) (by rw [ht981]; exact dec_hot _))) ho1059) (hset (Sp.mk k ⟨2, r.calls + 1, min (r.count + 1) 1000000, r.failures, r.exits⟩ (.slice none 0 0)) rfl).1 (Agr.decide (r := { r with calls := r.calls + 1, count := min (r.count + 1) 1000000 }) (hset (Sp.mk k ⟨2, r.calls + 1, min (r.count + 1) 1000000, r.failures, r.exits⟩ (.slice none 0 0)) rfl).2 hag) (by simp only [List.length_set]; show _ ≤ s.n + 1; omega) (hok.decide k hro.count1 (by decide) (joinW_short (Oks (Sm2 (Sm_s (by decide)) (Sm_i (by constructor <;> omega)))) (Nat.le_of_ble_eq_true rfl)))
      exact ⟨_, _, _, rfl, hst'.keepN 1 rfl, c', rfl, rfl, href'⟩
     ·
      have q1075 := of_decide_eq_false c976
      refine W_cond_false (by show Value.bool _ = _; exact congrArg Value.bool c976) ?_
      refine W_skip ?_
      refine W_seq ?_
      refine W_region_lit ?_
      refine Lq (.bool false) rfl rfl rfl rfl ?_
      refine L_nil ?_
      refine W_ret ?_
      refine ⟨_, _, res_run (rs := [.tmp 4]) (vs := [(.bool false)]) Tryd.results33 (.cons (.tmp rfl) .nil) rfl, ?_⟩
      have he := back_no (s := s) hrc (of_decide_eq_false c610) (by simpa using c676) (fun h => (ne_of_beq_false c758) h.1) (fun h => (of_decide_eq_false c976) h.2)
      rw [he]
      obtain ⟨c', hst', href'⟩ := RefP.close (s := s.put k { r with calls := r.calls + 1, count := min (r.count + 1) 1000000 }) (xs := (List.set xs2 (pos xs k) (Sp.mk k ⟨r.tier, r.calls + 1, min (r.count + 1) 1000000, r.failures, r.exits⟩ (.slice none 0 0)))) ((((hst747.front 6 rfl rfl).front 6 rfl rfl).front 2 rfl rfl).front 5 rfl rfl) (hback603 R (List.set xs2 (pos xs k) (Sp.mk k ⟨r.tier, r.calls + 1, min (r.count + 1) 1000000, r.failures, r.exits⟩ (.slice none 0 0))) c743 (by first | rfl | (simp only [List.length_set]; done) | (simp only [List.length_set]; omega) | omega) hrow746) (hX588.same hj (by rw [hx]) (by rw [hx])) hD (hset (Sp.mk k ⟨r.tier, r.calls + 1, min (r.count + 1) 1000000, r.failures, r.exits⟩ (.slice none 0 0)) rfl).1 (Agr.put (hset (Sp.mk k ⟨r.tier, r.calls + 1, min (r.count + 1) 1000000, r.failures, r.exits⟩ (.slice none 0 0)) rfl).2 hag) (by simp only [List.length_set]; show _ ≤ s.n + 1; omega) (hok.put k hro.count1)
      exact ⟨_, _, _, rfl, hst'.keepN 1 rfl, c', rfl, rfl, href'⟩
    ·
     have q1076 := ne_of_beq_false c974
     refine L_unwanted rfl rfl rfl rfl (by rw [c974]; try rfl) rfl rfl ?_
     refine L_unwanted rfl rfl rfl rfl (by rw [c974]; try rfl) rfl rfl ?_
     refine L_unwanted rfl rfl rfl rfl (by rw [c974]; try rfl) rfl rfl ?_
     refine L_unwanted rfl rfl rfl rfl (by rw [c974]; try rfl) rfl rfl ?_
     refine L_unwanted rfl rfl rfl rfl (by rw [c974]; try rfl) rfl rfl ?_
     refine L_unwanted rfl rfl rfl rfl (by rw [c974]; try rfl) rfl rfl ?_
     refine Lq (.bool false) rfl rfl rfl (x_pick rfl rfl (by rw [c974]; rfl)) ?_
     refine L_nil ?_
     refine W_cond_false (by show Value.bool _ = _; exact congrArg Value.bool rfl) ?_
     refine W_skip ?_
     refine W_seq ?_
     refine W_region_lit ?_
     refine Lq (.bool false) rfl rfl rfl rfl ?_
     refine L_nil ?_
     refine W_ret ?_
     refine ⟨_, _, res_run (rs := [.tmp 4]) (vs := [(.bool false)]) Tryd.results33 (.cons (.tmp rfl) .nil) rfl, ?_⟩
     have he := back_no (s := s) hrc (of_decide_eq_false c610) (by simpa using c676) (fun h => (ne_of_beq_false c758) h.1) (fun h => (ne_of_beq_false c974) h.1)
     rw [he]
     obtain ⟨c', hst', href'⟩ := RefP.close (s := s.put k { r with calls := r.calls + 1, count := min (r.count + 1) 1000000 }) (xs := (List.set xs2 (pos xs k) (Sp.mk k ⟨r.tier, r.calls + 1, min (r.count + 1) 1000000, r.failures, r.exits⟩ (.slice none 0 0)))) ((((hst747.front 6 rfl rfl).front 6 rfl rfl).front 2 rfl rfl).front 5 rfl rfl) (hback603 R (List.set xs2 (pos xs k) (Sp.mk k ⟨r.tier, r.calls + 1, min (r.count + 1) 1000000, r.failures, r.exits⟩ (.slice none 0 0))) c743 (by first | rfl | (simp only [List.length_set]; done) | (simp only [List.length_set]; omega) | omega) hrow746) (hX588.same hj (by rw [hx]) (by rw [hx])) hD (hset (Sp.mk k ⟨r.tier, r.calls + 1, min (r.count + 1) 1000000, r.failures, r.exits⟩ (.slice none 0 0)) rfl).1 (Agr.put (hset (Sp.mk k ⟨r.tier, r.calls + 1, min (r.count + 1) 1000000, r.failures, r.exits⟩ (.slice none 0 0)) rfl).2 hag) (by simp only [List.length_set]; show _ ≤ s.n + 1; omega) (hok.put k hro.count1)
     exact ⟨_, _, _, rfl, hst'.keepN 1 rfl, c', rfl, rfl, href'⟩

end Go.Fx.YtdkjoljcffkpkaaDoor
