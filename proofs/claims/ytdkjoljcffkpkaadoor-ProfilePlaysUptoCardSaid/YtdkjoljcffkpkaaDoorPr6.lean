/-
  Chapter 14: Back, printed by genp.py
-/
import Derived.Test.YtdkjoljcffkpkaaDoorPr5
set_option linter.unusedSimpArgs false
set_option linter.unusedVariables false
namespace Go.Fx.YtdkjoljcffkpkaaDoor
open Go Go.Fx Go.Proofs
set_option maxRecDepth 20000

theorem ent_40 : Ent Tryd.prog 40 := fun _ _ => by kernel_rfl
theorem ent_47 : Ent Tryd.prog 47 := fun _ _ => by kernel_rfl
theorem ent_60 : Ent Tryd.prog 60 := fun _ _ => by kernel_rfl
theorem hmix : Tryd.prog.follows .mixedOrders = true := by kernel_rfl
theorem mt_65 : Tryd.prog.underlying 65 = some (.map 43 81) := by kernel_rfl
theorem sl_36 : SL Tryd.prog 36 49 := Tryd.underlying36
theorem ti_26 : TI Tryd.prog 26 false 1 8 (.pointer none) := ⟨by kernel_rfl, by kernel_rfl⟩
theorem ti_3 : TI Tryd.prog 3 false 1 8 (.int .i64 0) := ⟨by kernel_rfl, by kernel_rfl⟩
theorem ti_36 : TI Tryd.prog 36 false 1 24 (.slice none 0 0) := ⟨by kernel_rfl, by kernel_rfl⟩
theorem ti_43 : TI Tryd.prog 43 true 2 16 (.agg #[(.int .i64 0), (.int .i64 0)]) := ⟨by kernel_rfl, by kernel_rfl⟩
theorem ti_49 : TI Tryd.prog 49 true 4 40 (.agg #[(.int .i64 0), (.int .i64 0), (.int .i64 0), (.string ⟨#[]⟩)]) := ⟨by kernel_rfl, by kernel_rfl⟩
theorem ti_65 : TI Tryd.prog 65 false 1 8 (.map none) := ⟨by kernel_rfl, by kernel_rfl⟩
theorem ti_81 : TI Tryd.prog 81 false 1 8 (.pointer none) := ⟨by kernel_rfl, by kernel_rfl⟩

set_option maxHeartbeats 4000000 in
theorem Back_spec {w : World} {R c : Hp} {p : Nat} {s : PS} (k : Pl) (hs : Sats w R [c]) (hprof : Prof R p s c) (hT : Tab R) (hn : s.n ≤ 1000000000) :
    Calls Tryd.prog 23 #[ptr p 0, kk k] w (Comes' w R [c] fun v' R' L' => ∃ c', v' = .bool (s.back k).2 ∧ L' = [c'] ∧ Prof R' p ((s.back k).1) c') := by
 obtain ⟨bm, m, v, cM, cR, cD, rfl, hd1, hd2, hd3, hM, hRs, hD, hok⟩ := hprof
 have hst := Prof.opened (Step.refl hs) hd1 hd2 hd3
 obtain ⟨hb1, hb2⟩ := hok.sample
 obtain ⟨hb3, hb4⟩ := hok.warm
 obtain ⟨hb5, hb6⟩ := hok.hot
 obtain ⟨hb7, hb8⟩ := hok.cold
 have hb9 := hok.decs
 refine calls_of_W (n := 119) Tryd.func23 rfl Tryd.ntmps23 (Nat.le_of_ble_eq_true rfl) ?_
 refine W_seq ?_
 refine W_region_lit ?_
 refine L_new hst (v := fun b => ptr b 0) (ob := .cells #[(int k.1), (int k.2)] 43 (0, 0)) rfl rfl rfl (by kernel_rfl) (fun b1 w2 hst3 => ?_)
 refine Lq (.bool false) rfl rfl rfl rfl ?_
 refine L_nil ?_
 refine W_seq ?_
 refine W_seq ?_
 refine W_region_lit ?_
 refine Lq (ptr p 0) rfl rfl rfl rfl ?_
 refine Lq (.bool false) rfl rfl rfl (by kernel_rfl) ?_
 refine Lq (.bool false) rfl rfl rfl rfl ?_
 refine L_guard rfl rfl rfl rfl rfl ?_
 refine Lq (ptr p 0) rfl rfl rfl rfl ?_
 refine L_guard rfl rfl rfl rfl rfl ?_
 refine Lq (ptr p 0) rfl rfl rfl rfl ?_
 refine L_guard rfl rfl rfl rfl rfl ?_
 refine Lq (ptr p 4) rfl rfl rfl (by kernel_rfl) ?_
 refine L_guard rfl rfl rfl rfl rfl ?_
 refine Lq (.map (some bm)) rfl rfl rfl (x_load rfl rfl (run_loadVar_one ti_65 (hst3.b 1) rfl)) ?_
 refine L_guard rfl rfl rfl rfl rfl ?_
 refine Lq (.bool false) rfl rfl rfl (by kernel_rfl) ?_
 refine Lq (.bool false) rfl rfl rfl rfl ?_
 refine L_nil ?_
 refine W_cond_false (by show Value.bool _ = _; exact congrArg Value.bool rfl) ?_
 refine W_skip ?_
 refine W_seq ?_
 rcases Recs.look hRs k with ⟨hg, hgr⟩ | ⟨a, r, c1, c2, hg, hgr, hrec, hc, hdj, hback⟩
 ·
  refine W_region_draw [] (fun w => Le R (hp w) ∧ Le (one b1 (.cells #[(int k.1), (int k.2)] 43 (0, 0))) (hp w) ∧ Le (one p (.cells #[(int s.sample), (int s.warm), (int s.hot), (int s.cold), (.map (some bm)), v] 67 (0, 0))) (hp w) ∧ Le cM (hp w) ∧ Le cR (hp w) ∧ Le cD (hp w)) hmix (by decide +kernel) (fun _ _ h => h) ?_
  have hst5 := hst3.draws (w2.drawn + 1)
  generalize draws w2 (w2.drawn + 1) = w4 at hst5 ⊢
  refine LP (ptr p 0) 0 rfl rfl rfl (fun u7 => rfl) hst5.a5 ?_
  refine LP (ptr p 0) 1 rfl rfl rfl (fun u10 => rfl) hst5.a5 ?_
  refine LP (ptr p 4) 2 rfl rfl rfl (fun u13 => (by kernel_rfl)) hst5.a5 ?_
  refine LT (.map (some bm)) 3 rfl rfl rfl (fun u16 hF17 => (x_load rfl rfl (run_loadVar_one ti_65 (hF17.2.2.1 _ _ (one_self _ _)) rfl))) hst5.a5 ?_
  refine LT (.agg #[(int k.1), (int k.2)]) 4 rfl rfl rfl (fun u19 hF20 => (x_load rfl rfl (run_loadVar_agg ti_43 (hF20.2.1 _ _ (one_self _ _)) (l := [(int k.1), (int k.2)]) rfl rfl))) hst5.a5 ?_
  refine LT (.pointer none) 5 rfl rfl rfl (fun u22 hF23 => x_lookup rfl rfl rfl (by have h_ := MapC.lookupP (w := u22) hM hF23.2.2.2.1 law43 mt_65 ti_81 k false none rfl; rw [hg] at h_; exact h_)) hst5.a5 ?_
  refine LP (.pointer none) 6 rfl rfl rfl (fun u25 => rfl) hst5.a5 ?_
  refine LA_done (by decide +kernel) ?_
  refine W_seq ?_
  refine W_seq ?_
  refine W_region_lit ?_
  refine Lq (.pointer none) rfl rfl rfl rfl ?_
  refine Lq (.bool true) rfl rfl rfl (by kernel_rfl) ?_
  refine L_nil ?_
  refine W_cond_true (by show Value.bool _ = _; exact congrArg Value.bool rfl) ?_
  refine W_seq ?_
  refine W_region_lit ?_
  refine L_new hst5 (v := fun b => .map (some b)) (ob := .map #[] 0) rfl rfl rfl (by kernel_rfl) (fun b27 w28 hst29 => ?_)
  have hm30 : MapC (Value.int .i64) (vE (Value.int .i64)) (some b27) [] _ := MapC.made b27
  generalize one b27 (.map #[] 0) = c31 at hm30 hst29
  refine Lq (.agg #[(int 0), (int 0), (int 0), (int 0), (.map (some b27))]) rfl rfl rfl (by kernel_rfl) ?_
  refine L_new hst29 (v := fun b => ptr b 0) (ob := .cells #[(int 0), (int 0), (int 0), (int 0), (.map (some b27))] 93 (0, 0)) rfl rfl rfl (by kernel_rfl) (fun b32 w33 hst34 => ?_)
  refine Lq (ptr b32 0) rfl rfl rfl rfl ?_
  refine L_nil ?_
  refine W_region_draw [6] (fun w => Le R (hp w) ∧ Le (one b32 (.cells #[(int 0), (int 0), (int 0), (int 0), (.map (some b27))] 93 (0, 0))) (hp w) ∧ Le c31 (hp w) ∧ Le (one b1 (.cells #[(int k.1), (int k.2)] 43 (0, 0))) (hp w) ∧ Le (one p (.cells #[(int s.sample), (int s.warm), (int s.hot), (int s.cold), (.map (some bm)), v] 67 (0, 0))) (hp w) ∧ Le cM (hp w) ∧ Le cR (hp w) ∧ Le cD (hp w)) hmix (by decide +kernel) (fun _ _ h => h) ?_
  have hst36 := hst34.draws (w33.drawn + 1)
  generalize draws w33 (w33.drawn + 1) = w35 at hst36 ⊢
  refine LP (ptr p 0) 0 rfl rfl rfl (fun u38 => rfl) hst36.a7 ?_
  refine LP (ptr p 0) 1 rfl rfl rfl (fun u41 => rfl) hst36.a7 ?_
  refine LP (ptr p 4) 2 rfl rfl rfl (fun u44 => (by kernel_rfl)) hst36.a7 ?_
  refine LT (.map (some bm)) 3 rfl rfl rfl (fun u47 hF48 => (x_load rfl rfl (run_loadVar_one ti_65 (hF48.2.2.2.2.1 _ _ (one_self _ _)) rfl))) hst36.a7 ?_
  refine LT (.agg #[(int k.1), (int k.2)]) 4 rfl rfl rfl (fun u50 hF51 => (x_load rfl rfl (run_loadVar_agg ti_43 (hF51.2.2.2.1 _ _ (one_self _ _)) (l := [(int k.1), (int k.2)]) rfl rfl))) hst36.a7 ?_
  refine LP (ptr b32 0) 5 rfl rfl rfl (fun u53 => rfl) hst36.a7 ?_
  refine LA_all [6] (by decide +kernel) (by simp) ?_
  intro i_ hi_
  simp only [List.mem_cons, List.not_mem_nil, or_false] at hi_
  subst hi_
  obtain ⟨c56, w57, hr58, hm59, hst60⟩ := MapC.update hM (hst36.front 4 rfl rfl) law43 mt_65 k (some b32) (ptr b32 0) rfl
  refine One_skip (i := 6) rfl rfl (Want.plain rfl) (x_mapUpdate rfl rfl rfl rfl hr58) (fun h => absurd h (by decide +kernel)) ?_
  refine LA_done (by decide +kernel) ?_
  refine W_seq ?_
  refine W_seq ?_
  obtain ⟨r, hr0⟩ : ∃ r, r = rec0 := ⟨_, rfl⟩
  have hst61 : Step w R [uni (profB p s bm v) (tri cM cR cD)] w57 R [c56, one b32 (.cells #[(int r.tier), (int r.calls), (int r.count), (int r.failures), (.map (some b27))] 93 (0, 0)), c31, one b1 (.cells #[(int k.1), (int k.2)] 43 (0, 0)), one p (.cells #[(int s.sample), (int s.warm), (int s.hot), (int s.cold), (.map (some bm)), v] 67 (0, 0)), cR, cD] := by subst hr0; exact hst60
  have hE62 : MapC (Value.int .i64) (vE (Value.int .i64)) (some b27) r.exits c31 := by subst hr0; exact hm30
  have hrc : s.rc k = r := by subst hr0; exact PS.rc_none hgr
  have hro := hok.rc k
  rw [hrc] at hro
  obtain ⟨hr63, hr64⟩ := hro.tier
  obtain ⟨hr65, hr66⟩ := hro.calls
  obtain ⟨hr67, hr68⟩ := hro.count
  obtain ⟨hr69, hr70⟩ := hro.failures
  have hback : ∀ r' c1', RecIs b32 r' c1' → Dj c1' cR → Recs (AL.set m k (some b32)) (AL.set s.recs k r') (uni c1' cR) := fun _ _ h d => hRs.add hg h d
  refine W_region_lit ?_
  refine Lq (ptr b32 0) rfl rfl rfl rfl ?_
  refine Lq (ptr b32 0) rfl rfl rfl rfl ?_
  refine Lq (ptr b32 0) rfl rfl rfl (by kernel_rfl) ?_
  refine Lq (int r.tier) rfl rfl rfl (x_load rfl rfl (run_loadVar_one ti_3 (hst61.b 1) rfl)) ?_
  refine Lq (.bool (decide (r.tier < 0))) rfl rfl rfl (by kernel_rfl) ?_
  refine L_nil ?_
  rcases Bool.eq_false_or_eq_true (decide (r.tier < 0)) with c71 | c71
  ·
   have q72 := of_decide_eq_true c71
   refine W_cond_true (by show Value.bool _ = _; exact congrArg Value.bool c71) ?_
   refine W_seq ?_
   refine W_region_lit ?_
   refine Lq (.bool false) rfl rfl rfl rfl ?_
   refine L_nil ?_
   refine W_ret ?_
   refine ⟨_, _, res_run (rs := [.tmp 4]) (vs := [(.bool false)]) Tryd.results23 (.cons (.tmp rfl) .nil) rfl, ?_⟩
   have he := back_neg (s := s) hrc (of_decide_eq_true c71)
   rw [he]
   obtain ⟨c', hst', hprof'⟩ := Prof.closeR (s := s.put k r) (r := ⟨r.tier, r.calls, r.count, r.failures, r.exits⟩) ((((((hst61.front 6 rfl rfl).front 6 rfl rfl).front 4 rfl rfl).front 4 rfl rfl).front 4 rfl rfl).front 6 rfl rfl) hm59 hE62 (fun c1 h d => hback _ c1 h d) hD (hok.put k (hro.mono (Nat.le_succ _)))
   exact ⟨_, _, _, rfl, hst'.keepN 1 rfl, c', rfl, rfl, hprof'⟩
  ·
   have q73 := of_decide_eq_false c71
   refine W_cond_false (by show Value.bool _ = _; exact congrArg Value.bool c71) ?_
   refine W_skip ?_
   refine W_seq ?_
   refine W_region_lit ?_
   refine Lq (ptr b32 0) rfl rfl rfl rfl ?_
   refine Lq (ptr b32 0) rfl rfl rfl rfl ?_
   refine Lq (ptr b32 1) rfl rfl rfl (by kernel_rfl) ?_
   refine Lq (int r.calls) rfl rfl rfl (x_load rfl rfl (run_loadVar_one ti_3 (hst61.b 1) rfl)) ?_
   refine Lq (int (r.calls + 1)) rfl rfl rfl (x_add rfl rfl rfl (by constructor <;> omega)) ?_
   refine Lq (ptr b32 0) rfl rfl rfl rfl ?_
   refine Lq (ptr b32 1) rfl rfl rfl (by kernel_rfl) ?_
   refine L_store hst61 1 ti_3 rfl rfl rfl rfl rfl rfl rfl rfl rfl rfl rfl (fun w74 hst75 => ?_)
   change Step _ _ _ _ _ [c56, one b32 (.cells #[(int r.tier), (int (r.calls + 1)), (int r.count), (int r.failures), (.map (some b27))] 93 (0, 0)), c31, one b1 (.cells #[(int k.1), (int k.2)] 43 (0, 0)), one p (.cells #[(int s.sample), (int s.warm), (int s.hot), (int s.cold), (.map (some bm)), v] 67 (0, 0)), cR, cD] at hst75
   refine L_nil ?_
   refine W_seq ?_
   refine W_seq ?_
   refine W_region_draw [] (fun w => Le R (hp w) ∧ Le c56 (hp w) ∧ Le (one b32 (.cells #[(int r.tier), (int (r.calls + 1)), (int r.count), (int r.failures), (.map (some b27))] 93 (0, 0))) (hp w) ∧ Le c31 (hp w) ∧ Le (one b1 (.cells #[(int k.1), (int k.2)] 43 (0, 0))) (hp w) ∧ Le (one p (.cells #[(int s.sample), (int s.warm), (int s.hot), (int s.cold), (.map (some bm)), v] 67 (0, 0))) (hp w) ∧ Le cR (hp w) ∧ Le cD (hp w)) hmix (by decide +kernel) (fun _ _ h => h) ?_
   have hst77 := hst75.draws (w74.drawn + 1)
   generalize draws w74 (w74.drawn + 1) = w76 at hst77 ⊢
   refine LP (ptr b32 0) 0 rfl rfl rfl (fun u79 => rfl) hst77.a7 ?_
   refine LP (ptr b32 0) 1 rfl rfl rfl (fun u82 => rfl) hst77.a7 ?_
   refine LP (ptr b32 1) 2 rfl rfl rfl (fun u85 => (by kernel_rfl)) hst77.a7 ?_
   refine LT (int (r.calls + 1)) 3 rfl rfl rfl (fun u88 hF89 => (x_load rfl rfl (run_loadVar_one ti_3 (hF89.2.2.1 _ _ (one_self _ _)) rfl))) hst77.a7 ?_
   refine LP (ptr p 0) 4 rfl rfl rfl (fun u91 => rfl) hst77.a7 ?_
   refine LP (ptr p 0) 5 rfl rfl rfl (fun u94 => rfl) hst77.a7 ?_
   refine LP (ptr p 0) 6 rfl rfl rfl (fun u97 => (by kernel_rfl)) hst77.a7 ?_
   refine LT (int s.sample) 7 rfl rfl rfl (fun u100 hF101 => (x_load rfl rfl (run_loadVar_one ti_3 (hF101.2.2.2.2.2.1 _ _ (one_self _ _)) rfl))) hst77.a7 ?_
   refine LP (int (Int.tmod (r.calls + 1) s.sample)) 8 rfl rfl rfl (fun u103 => (x_rem rfl rfl rfl (by omega))) hst77.a7 ?_
   refine LP (.bool ((Int.tmod (r.calls + 1) s.sample) != 0)) 9 rfl rfl rfl (fun u106 => (by kernel_rfl)) hst77.a7 ?_
   refine LA_done (by decide +kernel) ?_
   rcases Bool.eq_false_or_eq_true ((Int.tmod (r.calls + 1) s.sample) != 0) with c108 | c108
   ·
    have q109 : ¬ Int.tmod (r.calls + 1) s.sample = 0 := by simpa using c108
    refine W_cond_true (by show Value.bool _ = _; exact congrArg Value.bool c108) ?_
    refine W_seq ?_
    refine W_region_lit ?_
    refine Lq (.bool false) rfl rfl rfl rfl ?_
    refine L_nil ?_
    refine W_ret ?_
    refine ⟨_, _, res_run (rs := [.tmp 4]) (vs := [(.bool false)]) Tryd.results23 (.cons (.tmp rfl) .nil) rfl, ?_⟩
    have he := back_skip (s := s) hrc (of_decide_eq_false c71) (by simpa using c108)
    rw [he]
    obtain ⟨c', hst', hprof'⟩ := Prof.closeR (s := s.put k { r with calls := r.calls + 1 }) (r := ⟨r.tier, r.calls + 1, r.count, r.failures, r.exits⟩) ((((((hst77.front 6 rfl rfl).front 6 rfl rfl).front 4 rfl rfl).front 4 rfl rfl).front 4 rfl rfl).front 6 rfl rfl) hm59 hE62 (fun c1 h d => hback _ c1 h d) hD (hok.put k hro.calls1)
    exact ⟨_, _, _, rfl, hst'.keepN 1 rfl, c', rfl, rfl, hprof'⟩
   ·
    have q110 : Int.tmod (r.calls + 1) s.sample = 0 := by simpa using c108
    refine W_cond_false (by show Value.bool _ = _; exact congrArg Value.bool c108) ?_
    refine W_skip ?_
    refine W_seq ?_
    refine W_region_lit ?_
    refine Lq (ptr b32 0) rfl rfl rfl rfl ?_
    refine Lq (ptr b32 0) rfl rfl rfl rfl ?_
    refine Lq (ptr b32 0) rfl rfl rfl rfl ?_
    refine Lq (ptr b32 2) rfl rfl rfl (by kernel_rfl) ?_
    refine Lq (int r.count) rfl rfl rfl (x_load rfl rfl (run_loadVar_one ti_3 (hst77.b 1) rfl)) ?_
    refine Lq (int (r.count + 1)) rfl rfl rfl (x_add rfl rfl rfl (by constructor <;> omega)) ?_
    refine Lq (int (min (r.count + 1) 1000000)) rfl rfl rfl (x_min rfl rfl rfl) ?_
    refine Lq (ptr b32 0) rfl rfl rfl rfl ?_
    refine Lq (ptr b32 2) rfl rfl rfl (by kernel_rfl) ?_
    refine L_store hst77 1 ti_3 rfl rfl rfl rfl rfl rfl rfl rfl rfl rfl rfl (fun w111 hst112 => ?_)
    change Step _ _ _ _ _ [c56, one b32 (.cells #[(int r.tier), (int (r.calls + 1)), (int (min (r.count + 1) 1000000)), (int r.failures), (.map (some b27))] 93 (0, 0)), c31, one b1 (.cells #[(int k.1), (int k.2)] 43 (0, 0)), one p (.cells #[(int s.sample), (int s.warm), (int s.hot), (int s.cold), (.map (some bm)), v] 67 (0, 0)), cR, cD] at hst112
    refine L_nil ?_
    refine W_seq ?_
    refine W_region_lit ?_
    refine Lq (ptr p 0) rfl rfl rfl rfl ?_
    refine Lq (.agg #[(int k.1), (int k.2)]) rfl rfl rfl (x_load rfl rfl (run_loadVar_agg ti_43 (hst112.b 3) (l := [(int k.1), (int k.2)]) rfl rfl)) ?_
    refine L_call rfl rfl rfl (x_call (vs := #[(ptr p 0), (.agg #[(int k.1), (int k.2)])]) rfl rfl (by kernel_rfl) ent_47) ?_ (fun _ _ h => h)
    refine calls_of_W (n := 6) Tryd.func47 rfl Tryd.ntmps47 (Nat.le_of_ble_eq_true rfl) ?_
    refine W_seq ?_
    refine W_region_lit ?_
    refine L_new hst112 (v := fun b => ptr b 0) (ob := .cells #[(ptr p 0)] 26 (0, 0)) rfl rfl rfl (by kernel_rfl) (fun b113 w114 hst115 => ?_)
    refine L_new hst115 (v := fun b => ptr b 0) (ob := .cells #[(int k.1), (int k.2)] 43 (0, 0)) rfl rfl rfl (by kernel_rfl) (fun b116 w117 hst118 => ?_)
    refine Lq .nilFunc rfl rfl rfl rfl ?_
    refine L_nil ?_
    refine W_seq ?_
    refine W_region_lit ?_
    refine Lq (.func (.func 60) #[] #[(ptr b113 0), (ptr b116 0)]) rfl rfl rfl (by kernel_rfl) ?_
    refine Lq (.func (.func 60) #[] #[(ptr b113 0), (ptr b116 0)]) rfl rfl rfl rfl ?_
    refine L_nil ?_
    refine W_ret ?_
    refine ⟨_, _, res_run (rs := [.tmp 4]) (vs := [(.func (.func 60) #[] #[(ptr b113 0), (ptr b116 0)])]) Tryd.results47 (.cons (.tmp rfl) .nil) rfl, ?_⟩
    refine ⟨_, rfl, ?_⟩
    refine Lq (.func (.func 60) #[] #[(ptr b113 0), (ptr b116 0)]) rfl rfl rfl rfl ?_
    refine L_nil ?_
    refine W_seq ?_
    refine W_block ?_
    refine W_seq ?_
    refine W_region_draw [] (fun w => Le R (hp w) ∧ Le (one b116 (.cells #[(int k.1), (int k.2)] 43 (0, 0))) (hp w) ∧ Le (one b113 (.cells #[(ptr p 0)] 26 (0, 0))) (hp w) ∧ Le c56 (hp w) ∧ Le (one b32 (.cells #[(int r.tier), (int (r.calls + 1)), (int (min (r.count + 1) 1000000)), (int r.failures), (.map (some b27))] 93 (0, 0))) (hp w) ∧ Le c31 (hp w) ∧ Le (one b1 (.cells #[(int k.1), (int k.2)] 43 (0, 0))) (hp w) ∧ Le (one p (.cells #[(int s.sample), (int s.warm), (int s.hot), (int s.cold), (.map (some bm)), v] 67 (0, 0))) (hp w) ∧ Le cR (hp w) ∧ Le cD (hp w)) hmix (by decide +kernel) (fun _ _ h => h) ?_
    have hst120 := hst118.draws (w117.drawn + 1)
    generalize draws w117 (w117.drawn + 1) = w119 at hst120 ⊢
    refine LP (ptr b32 0) 0 rfl rfl rfl (fun u122 => rfl) hst120.a9 ?_
    refine LP (ptr b32 0) 1 rfl rfl rfl (fun u125 => rfl) hst120.a9 ?_
    refine LP (ptr b32 0) 2 rfl rfl rfl (fun u128 => (by kernel_rfl)) hst120.a9 ?_
    refine LT (int r.tier) 3 rfl rfl rfl (fun u131 hF132 => (x_load rfl rfl (run_loadVar_one ti_3 (hF132.2.2.2.2.1 _ _ (one_self _ _)) rfl))) hst120.a9 ?_
    refine LP (.bool (r.tier == 0)) 4 rfl rfl rfl (fun u134 => (by kernel_rfl)) hst120.a9 ?_
    refine LP (.bool (r.tier == 0)) 5 rfl rfl rfl (fun u137 => rfl) hst120.a9 ?_
    rcases Bool.eq_false_or_eq_true (r.tier == 0) with c140 | c140
    ·
     have q141 := eq_of_beq c140
     refine LP (ptr b32 0) 6 rfl rfl rfl (fun u143 => rfl) hst120.a9 ?_ (hw := (Want.of rfl rfl rfl rfl (by rw [c140]; rfl)))
     refine LP (ptr b32 0) 7 rfl rfl rfl (fun u146 => rfl) hst120.a9 ?_ (hw := (Want.of rfl rfl rfl rfl (by rw [c140]; rfl)))
     refine LP (ptr b32 2) 8 rfl rfl rfl (fun u149 => (by kernel_rfl)) hst120.a9 ?_ (hw := (Want.of rfl rfl rfl rfl (by rw [c140]; rfl)))
     refine LT (int (min (r.count + 1) 1000000)) 9 rfl rfl rfl (fun u152 hF153 => (x_load rfl rfl (run_loadVar_one ti_3 (hF153.2.2.2.2.1 _ _ (one_self _ _)) rfl))) hst120.a9 ?_ (hw := (Want.of rfl rfl rfl rfl (by rw [c140]; rfl)))
     refine LP (ptr p 0) 10 rfl rfl rfl (fun u155 => rfl) hst120.a9 ?_ (hw := (Want.of rfl rfl rfl rfl (by rw [c140]; rfl)))
     refine LP (ptr p 0) 11 rfl rfl rfl (fun u158 => rfl) hst120.a9 ?_ (hw := (Want.of rfl rfl rfl rfl (by rw [c140]; rfl)))
     refine LP (ptr p 1) 12 rfl rfl rfl (fun u161 => (by kernel_rfl)) hst120.a9 ?_ (hw := (Want.of rfl rfl rfl rfl (by rw [c140]; rfl)))
     refine LT (int s.warm) 13 rfl rfl rfl (fun u164 hF165 => (x_load rfl rfl (run_loadVar_one ti_3 (hF165.2.2.2.2.2.2.2.1 _ _ (one_self _ _)) rfl))) hst120.a9 ?_ (hw := (Want.of rfl rfl rfl rfl (by rw [c140]; rfl)))
     refine LP (.bool (decide (min (r.count + 1) 1000000 ≥ s.warm))) 14 rfl rfl rfl (fun u167 => (by kernel_rfl)) hst120.a9 ?_ (hw := (Want.of rfl rfl rfl rfl (by rw [c140]; rfl)))
     refine LP (.bool (decide (min (r.count + 1) 1000000 ≥ s.warm))) 15 rfl rfl rfl (fun u170 => (x_pick rfl rfl (by rw [c140]; rfl))) hst120.a9 ?_
     refine LP (.bool (decide (min (r.count + 1) 1000000 ≥ s.warm))) 16 rfl rfl rfl (fun u173 => rfl) hst120.a9 ?_
     refine LA_done (by decide +kernel) ?_
     rcases Bool.eq_false_or_eq_true (decide (min (r.count + 1) 1000000 ≥ s.warm)) with c175 | c175
     ·
      have q176 := of_decide_eq_true c175
      refine W_cond_true (by show Value.bool _ = _; exact congrArg Value.bool c175) ?_
      refine W_region_lit ?_
      refine Lq (.func (.func 60) #[] #[(ptr b113 0), (ptr b116 0)]) rfl rfl rfl rfl ?_
      refine Lq (.iface 9 (.string ⟨#[119, 97, 114, 109]⟩)) rfl rfl rfl (by kernel_rfl) ?_
      refine Lq (ptr b32 0) rfl rfl rfl rfl ?_
      refine Lq (ptr b32 0) rfl rfl rfl rfl ?_
      refine Lq (ptr b32 2) rfl rfl rfl (by kernel_rfl) ?_
      refine Lq (int (min (r.count + 1) 1000000)) rfl rfl rfl (x_load rfl rfl (run_loadVar_one ti_3 (hst120.b 3) rfl)) ?_
      refine Lq (.iface 3 (int (min (r.count + 1) 1000000))) rfl rfl rfl (by kernel_rfl) ?_
      refine L_new hst120 (v := fun b => .slice (some ⟨b, 0, none⟩) 2 2) (ob := .cells #[(.iface 9 (.string ⟨#[119, 97, 114, 109]⟩)), (.iface 3 (int (min (r.count + 1) 1000000)))] 20 (0, 0)) rfl rfl rfl (by kernel_rfl) (fun b177 w178 hst179 => ?_)
      refine L_call rfl rfl rfl (x_callv (vs := #[(int 1), (.slice (some ⟨b177, 0, none⟩) 2 2), (ptr b113 0), (ptr b116 0)]) rfl rfl (by kernel_rfl) ent_60) ?_ (fun _ _ h => h)
      refine calls_of_W (n := 29) Tryd.func60 rfl Tryd.ntmps60 (Nat.le_of_ble_eq_true rfl) ?_
      refine W_seq ?_
      refine W_region_draw [9] (fun w => Le R (hp w) ∧ Le (one b177 (.cells #[(.iface 9 (.string ⟨#[119, 97, 114, 109]⟩)), (.iface 3 (int (min (r.count + 1) 1000000)))] 20 (0, 0))) (hp w) ∧ Le (one b116 (.cells #[(int k.1), (int k.2)] 43 (0, 0))) (hp w) ∧ Le (one b113 (.cells #[(ptr p 0)] 26 (0, 0))) (hp w) ∧ Le c56 (hp w) ∧ Le (one b32 (.cells #[(int r.tier), (int (r.calls + 1)), (int (min (r.count + 1) 1000000)), (int r.failures), (.map (some b27))] 93 (0, 0))) (hp w) ∧ Le c31 (hp w) ∧ Le (one b1 (.cells #[(int k.1), (int k.2)] 43 (0, 0))) (hp w) ∧ Le (one p (.cells #[(int s.sample), (int s.warm), (int s.hot), (int s.cold), (.map (some bm)), v] 67 (0, 0))) (hp w) ∧ Le cR (hp w) ∧ Le cD (hp w)) hmix (by decide +kernel) (fun _ _ h => h) ?_
      have hst181 := hst179.draws (w178.drawn + 1)
      generalize draws w178 (w178.drawn + 1) = w180 at hst181 ⊢
      refine LT (ptr p 0) 0 rfl rfl rfl (fun u183 hF184 => (x_load rfl rfl (run_loadVar_one ti_26 (hF184.2.2.2.1 _ _ (one_self _ _)) rfl))) ⟨hst181.rle', hst181.g 0, hst181.g 1, hst181.g 2, hst181.g 3, hst181.g 4, hst181.g 5, hst181.g 6, hst181.g 7, hst181.g 8, hst181.g 9⟩ ?_
      refine LP (ptr p 0) 1 rfl rfl rfl (fun u186 => rfl) ⟨hst181.rle', hst181.g 0, hst181.g 1, hst181.g 2, hst181.g 3, hst181.g 4, hst181.g 5, hst181.g 6, hst181.g 7, hst181.g 8, hst181.g 9⟩ ?_
      refine LP (ptr p 4) 2 rfl rfl rfl (fun u189 => (by kernel_rfl)) ⟨hst181.rle', hst181.g 0, hst181.g 1, hst181.g 2, hst181.g 3, hst181.g 4, hst181.g 5, hst181.g 6, hst181.g 7, hst181.g 8, hst181.g 9⟩ ?_
      refine LT (.map (some bm)) 3 rfl rfl rfl (fun u192 hF193 => (x_load rfl rfl (run_loadVar_one ti_65 (hF193.2.2.2.2.2.2.2.2.1 _ _ (one_self _ _)) rfl))) ⟨hst181.rle', hst181.g 0, hst181.g 1, hst181.g 2, hst181.g 3, hst181.g 4, hst181.g 5, hst181.g 6, hst181.g 7, hst181.g 8, hst181.g 9⟩ ?_
      refine LT (.agg #[(int k.1), (int k.2)]) 4 rfl rfl rfl (fun u195 hF196 => (x_load rfl rfl (run_loadVar_agg ti_43 (hF196.2.2.1 _ _ (one_self _ _)) (l := [(int k.1), (int k.2)]) rfl rfl))) ⟨hst181.rle', hst181.g 0, hst181.g 1, hst181.g 2, hst181.g 3, hst181.g 4, hst181.g 5, hst181.g 6, hst181.g 7, hst181.g 8, hst181.g 9⟩ ?_
      refine LT (ptr b32 0) 5 rfl rfl rfl (fun u198 hF199 => x_lookup rfl rfl rfl (by have h_ := MapC.lookupP (w := u198) hm59 hF199.2.2.2.2.1 law43 mt_65 ti_81 k false none rfl; rw [(show AL.get (AL.set m k (some b32)) k = some (some b32) by simp [AL.get_set])] at h_; exact h_)) ⟨hst181.rle', hst181.g 0, hst181.g 1, hst181.g 2, hst181.g 3, hst181.g 4, hst181.g 5, hst181.g 6, hst181.g 7, hst181.g 8, hst181.g 9⟩ ?_
      refine LP (int 1) 6 rfl rfl rfl (fun u201 => rfl) ⟨hst181.rle', hst181.g 0, hst181.g 1, hst181.g 2, hst181.g 3, hst181.g 4, hst181.g 5, hst181.g 6, hst181.g 7, hst181.g 8, hst181.g 9⟩ ?_
      refine LP (ptr b32 0) 7 rfl rfl rfl (fun u204 => rfl) ⟨hst181.rle', hst181.g 0, hst181.g 1, hst181.g 2, hst181.g 3, hst181.g 4, hst181.g 5, hst181.g 6, hst181.g 7, hst181.g 8, hst181.g 9⟩ ?_
      refine LP (ptr b32 0) 8 rfl rfl rfl (fun u207 => (by kernel_rfl)) ⟨hst181.rle', hst181.g 0, hst181.g 1, hst181.g 2, hst181.g 3, hst181.g 4, hst181.g 5, hst181.g 6, hst181.g 7, hst181.g 8, hst181.g 9⟩ ?_
      refine LA_all [9] (by decide +kernel) (by simp) ?_
      intro i_ hi_
      simp only [List.mem_cons, List.not_mem_nil, or_false] at hi_
      subst hi_
      obtain ⟨w210, hr212, hst211⟩ := run_storeW (P := Tryd.prog) (b := b32) (off := 0) (v := (int 1)) hst181 4 ti_3 rfl rfl rfl rfl rfl rfl
      change Step _ _ _ _ _ [one b177 (.cells #[(.iface 9 (.string ⟨#[119, 97, 114, 109]⟩)), (.iface 3 (int (min (r.count + 1) 1000000)))] 20 (0, 0)), one b116 (.cells #[(int k.1), (int k.2)] 43 (0, 0)), one b113 (.cells #[(ptr p 0)] 26 (0, 0)), c56, one b32 (.cells #[(int 1), (int (r.calls + 1)), (int (min (r.count + 1) 1000000)), (int r.failures), (.map (some b27))] 93 (0, 0)), c31, one b1 (.cells #[(int k.1), (int k.2)] 43 (0, 0)), one p (.cells #[(int s.sample), (int s.warm), (int s.hot), (int s.cold), (.map (some bm)), v] 67 (0, 0)), cR, cD] at hst211
      refine One_skip (i := 9) rfl rfl (Want.plain rfl) (x_store rfl rfl rfl hr212) (fun h => absurd h (by decide +kernel)) ?_
      refine LA_done (by decide +kernel) ?_
      refine W_region_draw [14] (fun w => Le R (hp w) ∧ Le (one b177 (.cells #[(.iface 9 (.string ⟨#[119, 97, 114, 109]⟩)), (.iface 3 (int (min (r.count + 1) 1000000)))] 20 (0, 0))) (hp w) ∧ Le (one b116 (.cells #[(int k.1), (int k.2)] 43 (0, 0))) (hp w) ∧ Le (one b113 (.cells #[(ptr p 0)] 26 (0, 0))) (hp w) ∧ Le c56 (hp w) ∧ Le (one b32 (.cells #[(int 1), (int (r.calls + 1)), (int (min (r.count + 1) 1000000)), (int r.failures), (.map (some b27))] 93 (0, 0))) (hp w) ∧ Le c31 (hp w) ∧ Le (one b1 (.cells #[(int k.1), (int k.2)] 43 (0, 0))) (hp w) ∧ Le (one p (.cells #[(int s.sample), (int s.warm), (int s.hot), (int s.cold), (.map (some bm)), v] 67 (0, 0))) (hp w) ∧ Le cR (hp w)) hmix (by decide +kernel) (fun _ _ h => h) ?_
      have hst214 := hst211.draws (w210.drawn + 1)
      generalize draws w210 (w210.drawn + 1) = w213 at hst214 ⊢
      refine LT (ptr p 0) 0 rfl rfl rfl (fun u216 hF217 => (x_load rfl rfl (run_loadVar_one ti_26 (hF217.2.2.2.1 _ _ (one_self _ _)) rfl))) ⟨hst214.rle', hst214.g 0, hst214.g 1, hst214.g 2, hst214.g 3, hst214.g 4, hst214.g 5, hst214.g 6, hst214.g 7, hst214.g 8⟩ ?_
      refine LT (ptr p 0) 1 rfl rfl rfl (fun u219 hF220 => (x_load rfl rfl (run_loadVar_one ti_26 (hF220.2.2.2.1 _ _ (one_self _ _)) rfl))) ⟨hst214.rle', hst214.g 0, hst214.g 1, hst214.g 2, hst214.g 3, hst214.g 4, hst214.g 5, hst214.g 6, hst214.g 7, hst214.g 8⟩ ?_
      refine LP (ptr p 0) 2 rfl rfl rfl (fun u222 => rfl) ⟨hst214.rle', hst214.g 0, hst214.g 1, hst214.g 2, hst214.g 3, hst214.g 4, hst214.g 5, hst214.g 6, hst214.g 7, hst214.g 8⟩ ?_
      refine LP (ptr p 5) 3 rfl rfl rfl (fun u225 => (by kernel_rfl)) ⟨hst214.rle', hst214.g 0, hst214.g 1, hst214.g 2, hst214.g 3, hst214.g 4, hst214.g 5, hst214.g 6, hst214.g 7, hst214.g 8⟩ ?_
      refine LT v 4 rfl rfl rfl (fun u228 hF229 => (x_load rfl rfl (run_loadVar_one ti_36 (hF229.2.2.2.2.2.2.2.2.1 _ _ (one_self _ _)) rfl))) ⟨hst214.rle', hst214.g 0, hst214.g 1, hst214.g 2, hst214.g 3, hst214.g 4, hst214.g 5, hst214.g 6, hst214.g 7, hst214.g 8⟩ ?_
      refine LT (.agg #[(int k.1), (int k.2)]) 5 rfl rfl rfl (fun u231 hF232 => (x_load rfl rfl (run_loadVar_agg ti_43 (hF232.2.2.1 _ _ (one_self _ _)) (l := [(int k.1), (int k.2)]) rfl rfl))) ⟨hst214.rle', hst214.g 0, hst214.g 1, hst214.g 2, hst214.g 3, hst214.g 4, hst214.g 5, hst214.g 6, hst214.g 7, hst214.g 8⟩ ?_
      refine LP (int 1) 6 rfl rfl rfl (fun u234 => rfl) ⟨hst214.rle', hst214.g 0, hst214.g 1, hst214.g 2, hst214.g 3, hst214.g 4, hst214.g 5, hst214.g 6, hst214.g 7, hst214.g 8⟩ ?_
      refine LP (.slice (some ⟨b177, 0, none⟩) 2 2) 7 rfl rfl rfl (fun u237 => rfl) ⟨hst214.rle', hst214.g 0, hst214.g 1, hst214.g 2, hst214.g 3, hst214.g 4, hst214.g 5, hst214.g 6, hst214.g 7, hst214.g 8⟩ ?_
      refine LA_all [8] (by decide +kernel) (by simp) ?_
      intro i_ hi_
      simp only [List.mem_cons, List.not_mem_nil, or_false] at hi_
      subst hi_
      refine One_call (i := 8) rfl rfl rfl (Want.plain rfl) (x_call (vs := #[(.slice (some ⟨b177, 0, none⟩) 2 2)]) rfl rfl (by kernel_rfl) ent_40) (words_spec (w := w213) (R := hp w213) (xs := [Wd.s ⟨#[119, 97, 114, 109]⟩, Wd.i (min (r.count + 1) 1000000)]) (hT.mono hst214.rle') (Le.refl _) (OwnL.freeze (OwnL.lit (t := tyWd) (xs := [Wd.s ⟨#[119, 97, 114, 109]⟩, Wd.i (min (r.count + 1) 1000000)]) (T := 20) (R := R) (cs := [(.iface 9 (.string ⟨#[119, 97, 114, 109]⟩)), (.iface 3 (int (min (r.count + 1) 1000000)))]) (Encs.cons (show tyWd.rel _ _ [_] from rfl) (Encs.cons (show tyWd.rel _ _ [_] from rfl) Encs.nil)) rfl (Nat.le_of_ble_eq_true rfl)) hst214.rle' (hst214.g 0)) (Oks (Sm2 (Sm_s (by decide)) (Sm_i (by constructor <;> omega)))) (Nat.le_of_ble_eq_true rfl)) ?_
      rintro e244 w242 ⟨rfl, hw245⟩
      have hst243 := hst214.grown hw245
      refine ⟨_, rfl, (fun _ => ⟨hst243.rle', hst243.g 0, hst243.g 1, hst243.g 2, hst243.g 3, hst243.g 4, hst243.g 5, hst243.g 6, hst243.g 7, hst243.g 8⟩), ?_⟩
      refine LP (.agg #[(int k.1), (int k.2), (int 1), (.string (joinW [Wd.s ⟨#[119, 97, 114, 109]⟩, Wd.i (min (r.count + 1) 1000000)]))]) 9 rfl rfl rfl (fun u247 => (by kernel_rfl)) ⟨hst243.rle', hst243.g 0, hst243.g 1, hst243.g 2, hst243.g 3, hst243.g 4, hst243.g 5, hst243.g 6, hst243.g 7, hst243.g 8⟩ ?_
      refine LA_all [10] (by decide +kernel) (by simp) ?_
      intro i_ hi_
      simp only [List.mem_cons, List.not_mem_nil, or_false] at hi_
      subst hi_
      refine One_new hst243 (i := 10) (v := fun b => .slice (some ⟨b, 0, none⟩) 1 1) (ob := .cells #[(int k.1), (int k.2), (int 1), (.string (joinW [Wd.s ⟨#[119, 97, 114, 109]⟩, Wd.i (min (r.count + 1) 1000000)]))] 49 (0, 0)) rfl rfl rfl (Want.plain rfl) (by kernel_rfl) (fun b252 w253 hst254 => ?_)
      refine ⟨(fun _ => ⟨hst254.rle', hst254.g 1, hst254.g 2, hst254.g 3, hst254.g 4, hst254.g 5, hst254.g 6, hst254.g 7, hst254.g 8, hst254.g 9⟩), ?_⟩
      refine LA_all [11] (by decide +kernel) (by simp) ?_
      intro i_ hi_
      simp only [List.mem_cons, List.not_mem_nil, or_false] at hi_
      subst hi_
      refine One_append (j := 11) hst254 (t := 36) (e := 49) (ys := [Dec.mk k 1 (joinW [Wd.s ⟨#[119, 97, 114, 109]⟩, Wd.i (min (r.count + 1) 1000000)])]) (src := [(int k.1), (int k.2), (int 1), (.string (joinW [Wd.s ⟨#[119, 97, 114, 109]⟩, Wd.i (min (r.count + 1) 1000000)]))]) 10 rfl rfl rfl (Want.plain rfl) rfl rfl rfl sl_36 ti_49 rfl rfl rfl hD (src_own (hst254.b 0)) (Encs.one (tyDec_mk _ _ _ _ _)) rfl (by first | omega | (simp only [List.length_append, List.length_cons, List.length_nil]; omega)) (by first | (simp only [maxLen]; omega) | (simp only [List.length_append, List.length_cons, List.length_nil, maxLen]; omega)) (fun v258 c259 w260 ho261 hst262 => ?_)
      refine ⟨(fun _ => ⟨hst262.rle', hst262.g 2, hst262.g 3, hst262.g 4, hst262.g 5, hst262.g 6, hst262.g 7, hst262.g 8, hst262.g 9, hst262.g 10⟩), ?_⟩
      refine LP (ptr p 0) 12 rfl rfl rfl (fun u264 => rfl) ⟨hst262.rle', hst262.g 2, hst262.g 3, hst262.g 4, hst262.g 5, hst262.g 6, hst262.g 7, hst262.g 8, hst262.g 9, hst262.g 10⟩ ?_
      refine LP (ptr p 5) 13 rfl rfl rfl (fun u267 => (by kernel_rfl)) ⟨hst262.rle', hst262.g 2, hst262.g 3, hst262.g 4, hst262.g 5, hst262.g 6, hst262.g 7, hst262.g 8, hst262.g 9, hst262.g 10⟩ ?_
      refine LA_all [14] (by decide +kernel) (by simp) ?_
      intro i_ hi_
      simp only [List.mem_cons, List.not_mem_nil, or_false] at hi_
      subst hi_
      obtain ⟨a270, cap271, e272, hc273⟩ := ho261.value
      subst e272
      obtain ⟨w274, hr276, hst275⟩ := run_storeW (P := Tryd.prog) (b := p) (off := 5) (v := (.slice a270 ((s.decs ++ [Dec.mk k 1 (joinW [Wd.s ⟨#[119, 97, 114, 109]⟩, Wd.i (min (r.count + 1) 1000000)])]).length) cap271)) hst262 9 ti_36 rfl rfl rfl rfl rfl rfl
      change Step _ _ _ _ _ [c259, one b252 (.cells #[(int k.1), (int k.2), (int 1), (.string (joinW [Wd.s ⟨#[119, 97, 114, 109]⟩, Wd.i (min (r.count + 1) 1000000)]))] 49 (0, 0)), one b177 (.cells #[(.iface 9 (.string ⟨#[119, 97, 114, 109]⟩)), (.iface 3 (int (min (r.count + 1) 1000000)))] 20 (0, 0)), one b116 (.cells #[(int k.1), (int k.2)] 43 (0, 0)), one b113 (.cells #[(ptr p 0)] 26 (0, 0)), c56, one b32 (.cells #[(int 1), (int (r.calls + 1)), (int (min (r.count + 1) 1000000)), (int r.failures), (.map (some b27))] 93 (0, 0)), c31, one b1 (.cells #[(int k.1), (int k.2)] 43 (0, 0)), one p (.cells #[(int s.sample), (int s.warm), (int s.hot), (int s.cold), (.map (some bm)), (.slice a270 ((s.decs ++ [Dec.mk k 1 (joinW [Wd.s ⟨#[119, 97, 114, 109]⟩, Wd.i (min (r.count + 1) 1000000)])]).length) cap271)] 67 (0, 0)), cR] at hst275
      refine One_skip (i := 14) rfl rfl (Want.plain rfl) (x_store rfl rfl rfl hr276) (fun h => absurd h (by decide +kernel)) ?_
      refine LA_done (by decide +kernel) ?_
      refine ⟨_, _, res_run (rs := []) (vs := []) Tryd.results60 .nil rfl, ?_⟩
      refine ⟨_, rfl, ?_⟩
      refine L_nil ?_
      refine W_seq ?_
      refine W_region_lit ?_
      refine Lq (.bool true) rfl rfl rfl rfl ?_
      refine L_nil ?_
      refine W_ret ?_
      refine ⟨_, _, res_run (rs := [.tmp 4]) (vs := [(.bool true)]) Tryd.results23 (.cons (.tmp rfl) .nil) rfl, ?_⟩
      have he := back_warm (s := s) hrc (of_decide_eq_false c71) (by simpa using c108) (eq_of_beq c140) (of_decide_eq_true c175)
      rw [he]
      obtain ⟨c', hst', hprof'⟩ := Prof.closeR (s := s.decide k { r with calls := r.calls + 1, count := min (r.count + 1) 1000000 } 1 (joinW [Wd.s ⟨#[119, 97, 114, 109]⟩, Wd.i (min (r.count + 1) 1000000)])) (r := ⟨1, r.calls + 1, min (r.count + 1) 1000000, r.failures, r.exits⟩) (((((hst275.front 10 rfl rfl).front 8 rfl rfl).front 8 rfl rfl).front 8 rfl rfl).front 10 rfl rfl) hm59 hE62 (fun c1 h d => hback _ c1 h d) ho261 (hok.decide k hro.count1 (by decide) (joinW_short (Oks (Sm2 (Sm_s (by decide)) (Sm_i (by constructor <;> omega)))) (Nat.le_of_ble_eq_true rfl)))
      exact ⟨_, _, _, rfl, hst'.keepN 1 rfl, c', rfl, rfl, hprof'⟩
     ·
      have q277 := of_decide_eq_false c175
      refine W_cond_false (by show Value.bool _ = _; exact congrArg Value.bool c175) ?_
      refine W_seq ?_
      refine W_region_draw [] (fun w => Le R (hp w) ∧ Le (one b116 (.cells #[(int k.1), (int k.2)] 43 (0, 0))) (hp w) ∧ Le (one b113 (.cells #[(ptr p 0)] 26 (0, 0))) (hp w) ∧ Le c56 (hp w) ∧ Le (one b32 (.cells #[(int r.tier), (int (r.calls + 1)), (int (min (r.count + 1) 1000000)), (int r.failures), (.map (some b27))] 93 (0, 0))) (hp w) ∧ Le c31 (hp w) ∧ Le (one b1 (.cells #[(int k.1), (int k.2)] 43 (0, 0))) (hp w) ∧ Le (one p (.cells #[(int s.sample), (int s.warm), (int s.hot), (int s.cold), (.map (some bm)), v] 67 (0, 0))) (hp w) ∧ Le cR (hp w) ∧ Le cD (hp w)) hmix (by decide +kernel) (fun _ _ h => h) ?_
      have hst279 := hst120.draws (w119.drawn + 1)
      generalize draws w119 (w119.drawn + 1) = w278 at hst279 ⊢
      refine LP (ptr b32 0) 0 rfl rfl rfl (fun u281 => rfl) hst279.a9 ?_
      refine LP (ptr b32 0) 1 rfl rfl rfl (fun u284 => rfl) hst279.a9 ?_
      refine LP (ptr b32 0) 2 rfl rfl rfl (fun u287 => (by kernel_rfl)) hst279.a9 ?_
      refine LT (int r.tier) 3 rfl rfl rfl (fun u290 hF291 => (x_load rfl rfl (run_loadVar_one ti_3 (hF291.2.2.2.2.1 _ _ (one_self _ _)) rfl))) hst279.a9 ?_
      refine LP (.bool (r.tier == 1)) 4 rfl rfl rfl (fun u293 => (by kernel_rfl)) hst279.a9 ?_
      refine LP (.bool (r.tier == 1)) 5 rfl rfl rfl (fun u296 => rfl) hst279.a9 ?_
      rcases Bool.eq_false_or_eq_true (r.tier == 1) with c299 | c299
      ·
       have q300 := eq_of_beq c299
       refine LP (ptr b32 0) 6 rfl rfl rfl (fun u302 => rfl) hst279.a9 ?_ (hw := (Want.of rfl rfl rfl rfl (by rw [c299]; rfl)))
       refine LP (ptr b32 0) 7 rfl rfl rfl (fun u305 => rfl) hst279.a9 ?_ (hw := (Want.of rfl rfl rfl rfl (by rw [c299]; rfl)))
       refine LP (ptr b32 2) 8 rfl rfl rfl (fun u308 => (by kernel_rfl)) hst279.a9 ?_ (hw := (Want.of rfl rfl rfl rfl (by rw [c299]; rfl)))
       refine LT (int (min (r.count + 1) 1000000)) 9 rfl rfl rfl (fun u311 hF312 => (x_load rfl rfl (run_loadVar_one ti_3 (hF312.2.2.2.2.1 _ _ (one_self _ _)) rfl))) hst279.a9 ?_ (hw := (Want.of rfl rfl rfl rfl (by rw [c299]; rfl)))
       refine LP (ptr p 0) 10 rfl rfl rfl (fun u314 => rfl) hst279.a9 ?_ (hw := (Want.of rfl rfl rfl rfl (by rw [c299]; rfl)))
       refine LP (ptr p 0) 11 rfl rfl rfl (fun u317 => rfl) hst279.a9 ?_ (hw := (Want.of rfl rfl rfl rfl (by rw [c299]; rfl)))
       refine LP (ptr p 2) 12 rfl rfl rfl (fun u320 => (by kernel_rfl)) hst279.a9 ?_ (hw := (Want.of rfl rfl rfl rfl (by rw [c299]; rfl)))
       refine LT (int s.hot) 13 rfl rfl rfl (fun u323 hF324 => (x_load rfl rfl (run_loadVar_one ti_3 (hF324.2.2.2.2.2.2.2.1 _ _ (one_self _ _)) rfl))) hst279.a9 ?_ (hw := (Want.of rfl rfl rfl rfl (by rw [c299]; rfl)))
       refine LP (.bool (decide (min (r.count + 1) 1000000 ≥ s.hot))) 14 rfl rfl rfl (fun u326 => (by kernel_rfl)) hst279.a9 ?_ (hw := (Want.of rfl rfl rfl rfl (by rw [c299]; rfl)))
       refine LP (.bool (decide (min (r.count + 1) 1000000 ≥ s.hot))) 15 rfl rfl rfl (fun u329 => (x_pick rfl rfl (by rw [c299]; rfl))) hst279.a9 ?_
       refine LP (.bool (decide (min (r.count + 1) 1000000 ≥ s.hot))) 16 rfl rfl rfl (fun u332 => rfl) hst279.a9 ?_
       refine LA_done (by decide +kernel) ?_
       rcases Bool.eq_false_or_eq_true (decide (min (r.count + 1) 1000000 ≥ s.hot)) with c334 | c334
       ·
        have q335 := of_decide_eq_true c334
        refine W_cond_true (by show Value.bool _ = _; exact congrArg Value.bool c334) ?_
        refine W_region_lit ?_
        refine Lq (.func (.func 60) #[] #[(ptr b113 0), (ptr b116 0)]) rfl rfl rfl rfl ?_
        refine Lq (.iface 9 (.string ⟨#[104, 111, 116]⟩)) rfl rfl rfl (by kernel_rfl) ?_
        refine Lq (ptr b32 0) rfl rfl rfl rfl ?_
        refine Lq (ptr b32 0) rfl rfl rfl rfl ?_
        refine Lq (ptr b32 2) rfl rfl rfl (by kernel_rfl) ?_
        refine Lq (int (min (r.count + 1) 1000000)) rfl rfl rfl (x_load rfl rfl (run_loadVar_one ti_3 (hst279.b 3) rfl)) ?_
        refine Lq (.iface 3 (int (min (r.count + 1) 1000000))) rfl rfl rfl (by kernel_rfl) ?_
        refine L_new hst279 (v := fun b => .slice (some ⟨b, 0, none⟩) 2 2) (ob := .cells #[(.iface 9 (.string ⟨#[104, 111, 116]⟩)), (.iface 3 (int (min (r.count + 1) 1000000)))] 20 (0, 0)) rfl rfl rfl (by kernel_rfl) (fun b336 w337 hst338 => ?_)
        refine L_call rfl rfl rfl (x_callv (vs := #[(int 2), (.slice (some ⟨b336, 0, none⟩) 2 2), (ptr b113 0), (ptr b116 0)]) rfl rfl (by kernel_rfl) ent_60) ?_ (fun _ _ h => h)
        refine calls_of_W (n := 29) Tryd.func60 rfl Tryd.ntmps60 (Nat.le_of_ble_eq_true rfl) ?_
        refine W_seq ?_
        refine W_region_draw [9] (fun w => Le R (hp w) ∧ Le (one b336 (.cells #[(.iface 9 (.string ⟨#[104, 111, 116]⟩)), (.iface 3 (int (min (r.count + 1) 1000000)))] 20 (0, 0))) (hp w) ∧ Le (one b116 (.cells #[(int k.1), (int k.2)] 43 (0, 0))) (hp w) ∧ Le (one b113 (.cells #[(ptr p 0)] 26 (0, 0))) (hp w) ∧ Le c56 (hp w) ∧ Le (one b32 (.cells #[(int r.tier), (int (r.calls + 1)), (int (min (r.count + 1) 1000000)), (int r.failures), (.map (some b27))] 93 (0, 0))) (hp w) ∧ Le c31 (hp w) ∧ Le (one b1 (.cells #[(int k.1), (int k.2)] 43 (0, 0))) (hp w) ∧ Le (one p (.cells #[(int s.sample), (int s.warm), (int s.hot), (int s.cold), (.map (some bm)), v] 67 (0, 0))) (hp w) ∧ Le cR (hp w) ∧ Le cD (hp w)) hmix (by decide +kernel) (fun _ _ h => h) ?_
        have hst340 := hst338.draws (w337.drawn + 1)
        generalize draws w337 (w337.drawn + 1) = w339 at hst340 ⊢
        refine LT (ptr p 0) 0 rfl rfl rfl (fun u342 hF343 => (x_load rfl rfl (run_loadVar_one ti_26 (hF343.2.2.2.1 _ _ (one_self _ _)) rfl))) ⟨hst340.rle', hst340.g 0, hst340.g 1, hst340.g 2, hst340.g 3, hst340.g 4, hst340.g 5, hst340.g 6, hst340.g 7, hst340.g 8, hst340.g 9⟩ ?_
        refine LP (ptr p 0) 1 rfl rfl rfl (fun u345 => rfl) ⟨hst340.rle', hst340.g 0, hst340.g 1, hst340.g 2, hst340.g 3, hst340.g 4, hst340.g 5, hst340.g 6, hst340.g 7, hst340.g 8, hst340.g 9⟩ ?_
        refine LP (ptr p 4) 2 rfl rfl rfl (fun u348 => (by kernel_rfl)) ⟨hst340.rle', hst340.g 0, hst340.g 1, hst340.g 2, hst340.g 3, hst340.g 4, hst340.g 5, hst340.g 6, hst340.g 7, hst340.g 8, hst340.g 9⟩ ?_
        refine LT (.map (some bm)) 3 rfl rfl rfl (fun u351 hF352 => (x_load rfl rfl (run_loadVar_one ti_65 (hF352.2.2.2.2.2.2.2.2.1 _ _ (one_self _ _)) rfl))) ⟨hst340.rle', hst340.g 0, hst340.g 1, hst340.g 2, hst340.g 3, hst340.g 4, hst340.g 5, hst340.g 6, hst340.g 7, hst340.g 8, hst340.g 9⟩ ?_
        refine LT (.agg #[(int k.1), (int k.2)]) 4 rfl rfl rfl (fun u354 hF355 => (x_load rfl rfl (run_loadVar_agg ti_43 (hF355.2.2.1 _ _ (one_self _ _)) (l := [(int k.1), (int k.2)]) rfl rfl))) ⟨hst340.rle', hst340.g 0, hst340.g 1, hst340.g 2, hst340.g 3, hst340.g 4, hst340.g 5, hst340.g 6, hst340.g 7, hst340.g 8, hst340.g 9⟩ ?_
        refine LT (ptr b32 0) 5 rfl rfl rfl (fun u357 hF358 => x_lookup rfl rfl rfl (by have h_ := MapC.lookupP (w := u357) hm59 hF358.2.2.2.2.1 law43 mt_65 ti_81 k false none rfl; rw [(show AL.get (AL.set m k (some b32)) k = some (some b32) by simp [AL.get_set])] at h_; exact h_)) ⟨hst340.rle', hst340.g 0, hst340.g 1, hst340.g 2, hst340.g 3, hst340.g 4, hst340.g 5, hst340.g 6, hst340.g 7, hst340.g 8, hst340.g 9⟩ ?_
        refine LP (int 2) 6 rfl rfl rfl (fun u360 => rfl) ⟨hst340.rle', hst340.g 0, hst340.g 1, hst340.g 2, hst340.g 3, hst340.g 4, hst340.g 5, hst340.g 6, hst340.g 7, hst340.g 8, hst340.g 9⟩ ?_
        refine LP (ptr b32 0) 7 rfl rfl rfl (fun u363 => rfl) ⟨hst340.rle', hst340.g 0, hst340.g 1, hst340.g 2, hst340.g 3, hst340.g 4, hst340.g 5, hst340.g 6, hst340.g 7, hst340.g 8, hst340.g 9⟩ ?_
        refine LP (ptr b32 0) 8 rfl rfl rfl (fun u366 => (by kernel_rfl)) ⟨hst340.rle', hst340.g 0, hst340.g 1, hst340.g 2, hst340.g 3, hst340.g 4, hst340.g 5, hst340.g 6, hst340.g 7, hst340.g 8, hst340.g 9⟩ ?_
        refine LA_all [9] (by decide +kernel) (by simp) ?_
        intro i_ hi_
        simp only [List.mem_cons, List.not_mem_nil, or_false] at hi_
        subst hi_
        obtain ⟨w369, hr371, hst370⟩ := run_storeW (P := Tryd.prog) (b := b32) (off := 0) (v := (int 2)) hst340 4 ti_3 rfl rfl rfl rfl rfl rfl
        change Step _ _ _ _ _ [one b336 (.cells #[(.iface 9 (.string ⟨#[104, 111, 116]⟩)), (.iface 3 (int (min (r.count + 1) 1000000)))] 20 (0, 0)), one b116 (.cells #[(int k.1), (int k.2)] 43 (0, 0)), one b113 (.cells #[(ptr p 0)] 26 (0, 0)), c56, one b32 (.cells #[(int 2), (int (r.calls + 1)), (int (min (r.count + 1) 1000000)), (int r.failures), (.map (some b27))] 93 (0, 0)), c31, one b1 (.cells #[(int k.1), (int k.2)] 43 (0, 0)), one p (.cells #[(int s.sample), (int s.warm), (int s.hot), (int s.cold), (.map (some bm)), v] 67 (0, 0)), cR, cD] at hst370
        refine One_skip (i := 9) rfl rfl (Want.plain rfl) (x_store rfl rfl rfl hr371) (fun h => absurd h (by decide +kernel)) ?_
        refine LA_done (by decide +kernel) ?_
        refine W_region_draw [14] (fun w => Le R (hp w) ∧ Le (one b336 (.cells #[(.iface 9 (.string ⟨#[104, 111, 116]⟩)), (.iface 3 (int (min (r.count + 1) 1000000)))] 20 (0, 0))) (hp w) ∧ Le (one b116 (.cells #[(int k.1), (int k.2)] 43 (0, 0))) (hp w) ∧ Le (one b113 (.cells #[(ptr p 0)] 26 (0, 0))) (hp w) ∧ Le c56 (hp w) ∧ Le (one b32 (.cells #[(int 2), (int (r.calls + 1)), (int (min (r.count + 1) 1000000)), (int r.failures), (.map (some b27))] 93 (0, 0))) (hp w) ∧ Le c31 (hp w) ∧ Le (one b1 (.cells #[(int k.1), (int k.2)] 43 (0, 0))) (hp w) ∧ Le (one p (.cells #[(int s.sample), (int s.warm), (int s.hot), (int s.cold), (.map (some bm)), v] 67 (0, 0))) (hp w) ∧ Le cR (hp w)) hmix (by decide +kernel) (fun _ _ h => h) ?_
        have hst373 := hst370.draws (w369.drawn + 1)
        generalize draws w369 (w369.drawn + 1) = w372 at hst373 ⊢
        refine LT (ptr p 0) 0 rfl rfl rfl (fun u375 hF376 => (x_load rfl rfl (run_loadVar_one ti_26 (hF376.2.2.2.1 _ _ (one_self _ _)) rfl))) ⟨hst373.rle', hst373.g 0, hst373.g 1, hst373.g 2, hst373.g 3, hst373.g 4, hst373.g 5, hst373.g 6, hst373.g 7, hst373.g 8⟩ ?_
        refine LT (ptr p 0) 1 rfl rfl rfl (fun u378 hF379 => (x_load rfl rfl (run_loadVar_one ti_26 (hF379.2.2.2.1 _ _ (one_self _ _)) rfl))) ⟨hst373.rle', hst373.g 0, hst373.g 1, hst373.g 2, hst373.g 3, hst373.g 4, hst373.g 5, hst373.g 6, hst373.g 7, hst373.g 8⟩ ?_
        refine LP (ptr p 0) 2 rfl rfl rfl (fun u381 => rfl) ⟨hst373.rle', hst373.g 0, hst373.g 1, hst373.g 2, hst373.g 3, hst373.g 4, hst373.g 5, hst373.g 6, hst373.g 7, hst373.g 8⟩ ?_
        refine LP (ptr p 5) 3 rfl rfl rfl (fun u384 => (by kernel_rfl)) ⟨hst373.rle', hst373.g 0, hst373.g 1, hst373.g 2, hst373.g 3, hst373.g 4, hst373.g 5, hst373.g 6, hst373.g 7, hst373.g 8⟩ ?_
        refine LT v 4 rfl rfl rfl (fun u387 hF388 => (x_load rfl rfl (run_loadVar_one ti_36 (hF388.2.2.2.2.2.2.2.2.1 _ _ (one_self _ _)) rfl))) ⟨hst373.rle', hst373.g 0, hst373.g 1, hst373.g 2, hst373.g 3, hst373.g 4, hst373.g 5, hst373.g 6, hst373.g 7, hst373.g 8⟩ ?_
        refine LT (.agg #[(int k.1), (int k.2)]) 5 rfl rfl rfl (fun u390 hF391 => (x_load rfl rfl (run_loadVar_agg ti_43 (hF391.2.2.1 _ _ (one_self _ _)) (l := [(int k.1), (int k.2)]) rfl rfl))) ⟨hst373.rle', hst373.g 0, hst373.g 1, hst373.g 2, hst373.g 3, hst373.g 4, hst373.g 5, hst373.g 6, hst373.g 7, hst373.g 8⟩ ?_
        refine LP (int 2) 6 rfl rfl rfl (fun u393 => rfl) ⟨hst373.rle', hst373.g 0, hst373.g 1, hst373.g 2, hst373.g 3, hst373.g 4, hst373.g 5, hst373.g 6, hst373.g 7, hst373.g 8⟩ ?_
        refine LP (.slice (some ⟨b336, 0, none⟩) 2 2) 7 rfl rfl rfl (fun u396 => rfl) ⟨hst373.rle', hst373.g 0, hst373.g 1, hst373.g 2, hst373.g 3, hst373.g 4, hst373.g 5, hst373.g 6, hst373.g 7, hst373.g 8⟩ ?_
        refine LA_all [8] (by decide +kernel) (by simp) ?_
        intro i_ hi_
        simp only [List.mem_cons, List.not_mem_nil, or_false] at hi_
        subst hi_
        refine One_call (i := 8) rfl rfl rfl (Want.plain rfl) (x_call (vs := #[(.slice (some ⟨b336, 0, none⟩) 2 2)]) rfl rfl (by kernel_rfl) ent_40) (words_spec (w := w372) (R := hp w372) (xs := [Wd.s ⟨#[104, 111, 116]⟩, Wd.i (min (r.count + 1) 1000000)]) (hT.mono hst373.rle') (Le.refl _) (OwnL.freeze (OwnL.lit (t := tyWd) (xs := [Wd.s ⟨#[104, 111, 116]⟩, Wd.i (min (r.count + 1) 1000000)]) (T := 20) (R := R) (cs := [(.iface 9 (.string ⟨#[104, 111, 116]⟩)), (.iface 3 (int (min (r.count + 1) 1000000)))]) (Encs.cons (show tyWd.rel _ _ [_] from rfl) (Encs.cons (show tyWd.rel _ _ [_] from rfl) Encs.nil)) rfl (Nat.le_of_ble_eq_true rfl)) hst373.rle' (hst373.g 0)) (Oks (Sm2 (Sm_s (by decide)) (Sm_i (by constructor <;> omega)))) (Nat.le_of_ble_eq_true rfl)) ?_
        rintro e403 w401 ⟨rfl, hw404⟩
        have hst402 := hst373.grown hw404
        refine ⟨_, rfl, (fun _ => ⟨hst402.rle', hst402.g 0, hst402.g 1, hst402.g 2, hst402.g 3, hst402.g 4, hst402.g 5, hst402.g 6, hst402.g 7, hst402.g 8⟩), ?_⟩
        refine LP (.agg #[(int k.1), (int k.2), (int 2), (.string (joinW [Wd.s ⟨#[104, 111, 116]⟩, Wd.i (min (r.count + 1) 1000000)]))]) 9 rfl rfl rfl (fun u406 => (by kernel_rfl)) ⟨hst402.rle', hst402.g 0, hst402.g 1, hst402.g 2, hst402.g 3, hst402.g 4, hst402.g 5, hst402.g 6, hst402.g 7, hst402.g 8⟩ ?_
        refine LA_all [10] (by decide +kernel) (by simp) ?_
        intro i_ hi_
        simp only [List.mem_cons, List.not_mem_nil, or_false] at hi_
        subst hi_
        refine One_new hst402 (i := 10) (v := fun b => .slice (some ⟨b, 0, none⟩) 1 1) (ob := .cells #[(int k.1), (int k.2), (int 2), (.string (joinW [Wd.s ⟨#[104, 111, 116]⟩, Wd.i (min (r.count + 1) 1000000)]))] 49 (0, 0)) rfl rfl rfl (Want.plain rfl) (by kernel_rfl) (fun b411 w412 hst413 => ?_)
        refine ⟨(fun _ => ⟨hst413.rle', hst413.g 1, hst413.g 2, hst413.g 3, hst413.g 4, hst413.g 5, hst413.g 6, hst413.g 7, hst413.g 8, hst413.g 9⟩), ?_⟩
        refine LA_all [11] (by decide +kernel) (by simp) ?_
        intro i_ hi_
        simp only [List.mem_cons, List.not_mem_nil, or_false] at hi_
        subst hi_
        refine One_append (j := 11) hst413 (t := 36) (e := 49) (ys := [Dec.mk k 2 (joinW [Wd.s ⟨#[104, 111, 116]⟩, Wd.i (min (r.count + 1) 1000000)])]) (src := [(int k.1), (int k.2), (int 2), (.string (joinW [Wd.s ⟨#[104, 111, 116]⟩, Wd.i (min (r.count + 1) 1000000)]))]) 10 rfl rfl rfl (Want.plain rfl) rfl rfl rfl sl_36 ti_49 rfl rfl rfl hD (src_own (hst413.b 0)) (Encs.one (tyDec_mk _ _ _ _ _)) rfl (by first | omega | (simp only [List.length_append, List.length_cons, List.length_nil]; omega)) (by first | (simp only [maxLen]; omega) | (simp only [List.length_append, List.length_cons, List.length_nil, maxLen]; omega)) (fun v417 c418 w419 ho420 hst421 => ?_)
        refine ⟨(fun _ => ⟨hst421.rle', hst421.g 2, hst421.g 3, hst421.g 4, hst421.g 5, hst421.g 6, hst421.g 7, hst421.g 8, hst421.g 9, hst421.g 10⟩), ?_⟩
        refine LP (ptr p 0) 12 rfl rfl rfl (fun u423 => rfl) ⟨hst421.rle', hst421.g 2, hst421.g 3, hst421.g 4, hst421.g 5, hst421.g 6, hst421.g 7, hst421.g 8, hst421.g 9, hst421.g 10⟩ ?_
        refine LP (ptr p 5) 13 rfl rfl rfl (fun u426 => (by kernel_rfl)) ⟨hst421.rle', hst421.g 2, hst421.g 3, hst421.g 4, hst421.g 5, hst421.g 6, hst421.g 7, hst421.g 8, hst421.g 9, hst421.g 10⟩ ?_
        refine LA_all [14] (by decide +kernel) (by simp) ?_
        intro i_ hi_
        simp only [List.mem_cons, List.not_mem_nil, or_false] at hi_
        subst hi_
        obtain ⟨a429, cap430, e431, hc432⟩ := ho420.value
        subst e431
        obtain ⟨w433, hr435, hst434⟩ := run_storeW (P := Tryd.prog) (b := p) (off := 5) (v := (.slice a429 ((s.decs ++ [Dec.mk k 2 (joinW [Wd.s ⟨#[104, 111, 116]⟩, Wd.i (min (r.count + 1) 1000000)])]).length) cap430)) hst421 9 ti_36 rfl rfl rfl rfl rfl rfl
        change Step _ _ _ _ _ [c418, one b411 (.cells #[(int k.1), (int k.2), (int 2), (.string (joinW [Wd.s ⟨#[104, 111, 116]⟩, Wd.i (min (r.count + 1) 1000000)]))] 49 (0, 0)), one b336 (.cells #[(.iface 9 (.string ⟨#[104, 111, 116]⟩)), (.iface 3 (int (min (r.count + 1) 1000000)))] 20 (0, 0)), one b116 (.cells #[(int k.1), (int k.2)] 43 (0, 0)), one b113 (.cells #[(ptr p 0)] 26 (0, 0)), c56, one b32 (.cells #[(int 2), (int (r.calls + 1)), (int (min (r.count + 1) 1000000)), (int r.failures), (.map (some b27))] 93 (0, 0)), c31, one b1 (.cells #[(int k.1), (int k.2)] 43 (0, 0)), one p (.cells #[(int s.sample), (int s.warm), (int s.hot), (int s.cold), (.map (some bm)), (.slice a429 ((s.decs ++ [Dec.mk k 2 (joinW [Wd.s ⟨#[104, 111, 116]⟩, Wd.i (min (r.count + 1) 1000000)])]).length) cap430)] 67 (0, 0)), cR] at hst434
        refine One_skip (i := 14) rfl rfl (Want.plain rfl) (x_store rfl rfl rfl hr435) (fun h => absurd h (by decide +kernel)) ?_
        refine LA_done (by decide +kernel) ?_
        refine ⟨_, _, res_run (rs := []) (vs := []) Tryd.results60 .nil rfl, ?_⟩
        refine ⟨_, rfl, ?_⟩
        refine L_nil ?_
        refine W_seq ?_
        refine W_region_lit ?_
        refine Lq (.bool true) rfl rfl rfl rfl ?_
        refine L_nil ?_
        refine W_ret ?_
        refine ⟨_, _, res_run (rs := [.tmp 4]) (vs := [(.bool true)]) Tryd.results23 (.cons (.tmp rfl) .nil) rfl, ?_⟩
        have he := back_hot (s := s) hrc (of_decide_eq_false c71) (by simpa using c108) (eq_of_beq c299) (of_decide_eq_true c334)
        rw [he]
        obtain ⟨c', hst', hprof'⟩ := Prof.closeR (s := s.decide k { r with calls := r.calls + 1, count := min (r.count + 1) 1000000 } 2 (joinW [Wd.s ⟨#[104, 111, 116]⟩, Wd.i (min (r.count + 1) 1000000)])) (r := ⟨2, r.calls + 1, min (r.count + 1) 1000000, r.failures, r.exits⟩) (((((hst434.front 10 rfl rfl).front 8 rfl rfl).front 8 rfl rfl).front 8 rfl rfl).front 10 rfl rfl) hm59 hE62 (fun c1 h d => hback _ c1 h d) ho420 (hok.decide k hro.count1 (by decide) (joinW_short (Oks (Sm2 (Sm_s (by decide)) (Sm_i (by constructor <;> omega)))) (Nat.le_of_ble_eq_true rfl)))
        exact ⟨_, _, _, rfl, hst'.keepN 1 rfl, c', rfl, rfl, hprof'⟩
       ·
        have q436 := of_decide_eq_false c334
        refine W_cond_false (by show Value.bool _ = _; exact congrArg Value.bool c334) ?_
        refine W_seq ?_
        refine W_region_lit ?_
        refine Lq (.bool false) rfl rfl rfl rfl ?_
        refine L_nil ?_
        refine W_ret ?_
        refine ⟨_, _, res_run (rs := [.tmp 4]) (vs := [(.bool false)]) Tryd.results23 (.cons (.tmp rfl) .nil) rfl, ?_⟩
        have he := back_no (s := s) hrc (of_decide_eq_false c71) (by simpa using c108) (fun h => (of_decide_eq_false c175) h.2) (fun h => (of_decide_eq_false c334) h.2)
        rw [he]
        obtain ⟨c', hst', hprof'⟩ := Prof.closeR (s := s.put k { r with calls := r.calls + 1, count := min (r.count + 1) 1000000 }) (r := ⟨r.tier, r.calls + 1, min (r.count + 1) 1000000, r.failures, r.exits⟩) ((((((hst279.front 8 rfl rfl).front 8 rfl rfl).front 6 rfl rfl).front 6 rfl rfl).front 6 rfl rfl).front 8 rfl rfl) hm59 hE62 (fun c1 h d => hback _ c1 h d) hD (hok.put k hro.count1)
        exact ⟨_, _, _, rfl, hst'.keepN 1 rfl, c', rfl, rfl, hprof'⟩
      ·
       have q437 := ne_of_beq_false c299
       refine LV 6 rfl rfl rfl hst279.a9 ?_ (hw := (Want.of rfl rfl rfl rfl (by rw [c299]; rfl)))
       refine LV 7 rfl rfl rfl hst279.a9 ?_ (hw := (Want.of rfl rfl rfl rfl (by rw [c299]; rfl)))
       refine LV 8 rfl rfl rfl hst279.a9 ?_ (hw := (Want.of rfl rfl rfl rfl (by rw [c299]; rfl)))
       refine LV 9 rfl rfl rfl hst279.a9 ?_ (hw := (Want.of rfl rfl rfl rfl (by rw [c299]; rfl)))
       refine LV 10 rfl rfl rfl hst279.a9 ?_ (hw := (Want.of rfl rfl rfl rfl (by rw [c299]; rfl)))
       refine LV 11 rfl rfl rfl hst279.a9 ?_ (hw := (Want.of rfl rfl rfl rfl (by rw [c299]; rfl)))
       refine LV 12 rfl rfl rfl hst279.a9 ?_ (hw := (Want.of rfl rfl rfl rfl (by rw [c299]; rfl)))
       refine LV 13 rfl rfl rfl hst279.a9 ?_ (hw := (Want.of rfl rfl rfl rfl (by rw [c299]; rfl)))
       refine LV 14 rfl rfl rfl hst279.a9 ?_ (hw := (Want.of rfl rfl rfl rfl (by rw [c299]; rfl)))
       refine LP (.bool false) 15 rfl rfl rfl (fun u448 => (x_pick rfl rfl (by rw [c299]; rfl))) hst279.a9 ?_
       refine LP (.bool false) 16 rfl rfl rfl (fun u451 => rfl) hst279.a9 ?_
       refine LA_done (by decide +kernel) ?_
       refine W_cond_false (by show Value.bool _ = _; exact congrArg Value.bool rfl) ?_
       refine W_seq ?_
       refine W_region_lit ?_
       refine Lq (.bool false) rfl rfl rfl rfl ?_
       refine L_nil ?_
       refine W_ret ?_
       refine ⟨_, _, res_run (rs := [.tmp 4]) (vs := [(.bool false)]) Tryd.results23 (.cons (.tmp rfl) .nil) rfl, ?_⟩
       have he := back_no (s := s) hrc (of_decide_eq_false c71) (by simpa using c108) (fun h => (of_decide_eq_false c175) h.2) (fun h => (ne_of_beq_false c299) h.1)
       rw [he]
       obtain ⟨c', hst', hprof'⟩ := Prof.closeR (s := s.put k { r with calls := r.calls + 1, count := min (r.count + 1) 1000000 }) (r := ⟨r.tier, r.calls + 1, min (r.count + 1) 1000000, r.failures, r.exits⟩) ((((((hst279.front 8 rfl rfl).front 8 rfl rfl).front 6 rfl rfl).front 6 rfl rfl).front 6 rfl rfl).front 8 rfl rfl) hm59 hE62 (fun c1 h d => hback _ c1 h d) hD (hok.put k hro.count1)
       exact ⟨_, _, _, rfl, hst'.keepN 1 rfl, c', rfl, rfl, hprof'⟩
    ·
     have q453 := ne_of_beq_false c140
     refine LV 6 rfl rfl rfl hst120.a9 ?_ (hw := (Want.of rfl rfl rfl rfl (by rw [c140]; rfl)))
     refine LV 7 rfl rfl rfl hst120.a9 ?_ (hw := (Want.of rfl rfl rfl rfl (by rw [c140]; rfl)))
     refine LV 8 rfl rfl rfl hst120.a9 ?_ (hw := (Want.of rfl rfl rfl rfl (by rw [c140]; rfl)))
     refine LV 9 rfl rfl rfl hst120.a9 ?_ (hw := (Want.of rfl rfl rfl rfl (by rw [c140]; rfl)))
     refine LV 10 rfl rfl rfl hst120.a9 ?_ (hw := (Want.of rfl rfl rfl rfl (by rw [c140]; rfl)))
     refine LV 11 rfl rfl rfl hst120.a9 ?_ (hw := (Want.of rfl rfl rfl rfl (by rw [c140]; rfl)))
     refine LV 12 rfl rfl rfl hst120.a9 ?_ (hw := (Want.of rfl rfl rfl rfl (by rw [c140]; rfl)))
     refine LV 13 rfl rfl rfl hst120.a9 ?_ (hw := (Want.of rfl rfl rfl rfl (by rw [c140]; rfl)))
     refine LV 14 rfl rfl rfl hst120.a9 ?_ (hw := (Want.of rfl rfl rfl rfl (by rw [c140]; rfl)))
     refine LP (.bool false) 15 rfl rfl rfl (fun u464 => (x_pick rfl rfl (by rw [c140]; rfl))) hst120.a9 ?_
     refine LP (.bool false) 16 rfl rfl rfl (fun u467 => rfl) hst120.a9 ?_
     refine LA_done (by decide +kernel) ?_
     refine W_cond_false (by show Value.bool _ = _; exact congrArg Value.bool rfl) ?_
     refine W_seq ?_
     refine W_region_draw [] (fun w => Le R (hp w) ∧ Le (one b116 (.cells #[(int k.1), (int k.2)] 43 (0, 0))) (hp w) ∧ Le (one b113 (.cells #[(ptr p 0)] 26 (0, 0))) (hp w) ∧ Le c56 (hp w) ∧ Le (one b32 (.cells #[(int r.tier), (int (r.calls + 1)), (int (min (r.count + 1) 1000000)), (int r.failures), (.map (some b27))] 93 (0, 0))) (hp w) ∧ Le c31 (hp w) ∧ Le (one b1 (.cells #[(int k.1), (int k.2)] 43 (0, 0))) (hp w) ∧ Le (one p (.cells #[(int s.sample), (int s.warm), (int s.hot), (int s.cold), (.map (some bm)), v] 67 (0, 0))) (hp w) ∧ Le cR (hp w) ∧ Le cD (hp w)) hmix (by decide +kernel) (fun _ _ h => h) ?_
     have hst470 := hst120.draws (w119.drawn + 1)
     generalize draws w119 (w119.drawn + 1) = w469 at hst470 ⊢
     refine LP (ptr b32 0) 0 rfl rfl rfl (fun u472 => rfl) hst470.a9 ?_
     refine LP (ptr b32 0) 1 rfl rfl rfl (fun u475 => rfl) hst470.a9 ?_
     refine LP (ptr b32 0) 2 rfl rfl rfl (fun u478 => (by kernel_rfl)) hst470.a9 ?_
     refine LT (int r.tier) 3 rfl rfl rfl (fun u481 hF482 => (x_load rfl rfl (run_loadVar_one ti_3 (hF482.2.2.2.2.1 _ _ (one_self _ _)) rfl))) hst470.a9 ?_
     refine LP (.bool (r.tier == 1)) 4 rfl rfl rfl (fun u484 => (by kernel_rfl)) hst470.a9 ?_
     refine LP (.bool (r.tier == 1)) 5 rfl rfl rfl (fun u487 => rfl) hst470.a9 ?_
     rcases Bool.eq_false_or_eq_true (r.tier == 1) with c490 | c490
     ·
      have q491 := eq_of_beq c490
      refine LP (ptr b32 0) 6 rfl rfl rfl (fun u493 => rfl) hst470.a9 ?_ (hw := (Want.of rfl rfl rfl rfl (by rw [c490]; rfl)))
      refine LP (ptr b32 0) 7 rfl rfl rfl (fun u496 => rfl) hst470.a9 ?_ (hw := (Want.of rfl rfl rfl rfl (by rw [c490]; rfl)))
      refine LP (ptr b32 2) 8 rfl rfl rfl (fun u499 => (by kernel_rfl)) hst470.a9 ?_ (hw := (Want.of rfl rfl rfl rfl (by rw [c490]; rfl)))
      refine LT (int (min (r.count + 1) 1000000)) 9 rfl rfl rfl (fun u502 hF503 => (x_load rfl rfl (run_loadVar_one ti_3 (hF503.2.2.2.2.1 _ _ (one_self _ _)) rfl))) hst470.a9 ?_ (hw := (Want.of rfl rfl rfl rfl (by rw [c490]; rfl)))
      refine LP (ptr p 0) 10 rfl rfl rfl (fun u505 => rfl) hst470.a9 ?_ (hw := (Want.of rfl rfl rfl rfl (by rw [c490]; rfl)))
      refine LP (ptr p 0) 11 rfl rfl rfl (fun u508 => rfl) hst470.a9 ?_ (hw := (Want.of rfl rfl rfl rfl (by rw [c490]; rfl)))
      refine LP (ptr p 2) 12 rfl rfl rfl (fun u511 => (by kernel_rfl)) hst470.a9 ?_ (hw := (Want.of rfl rfl rfl rfl (by rw [c490]; rfl)))
      refine LT (int s.hot) 13 rfl rfl rfl (fun u514 hF515 => (x_load rfl rfl (run_loadVar_one ti_3 (hF515.2.2.2.2.2.2.2.1 _ _ (one_self _ _)) rfl))) hst470.a9 ?_ (hw := (Want.of rfl rfl rfl rfl (by rw [c490]; rfl)))
      refine LP (.bool (decide (min (r.count + 1) 1000000 ≥ s.hot))) 14 rfl rfl rfl (fun u517 => (by kernel_rfl)) hst470.a9 ?_ (hw := (Want.of rfl rfl rfl rfl (by rw [c490]; rfl)))
      refine LP (.bool (decide (min (r.count + 1) 1000000 ≥ s.hot))) 15 rfl rfl rfl (fun u520 => (x_pick rfl rfl (by rw [c490]; rfl))) hst470.a9 ?_
      refine LP (.bool (decide (min (r.count + 1) 1000000 ≥ s.hot))) 16 rfl rfl rfl (fun u523 => rfl) hst470.a9 ?_
      refine LA_done (by decide +kernel) ?_
      rcases Bool.eq_false_or_eq_true (decide (min (r.count + 1) 1000000 ≥ s.hot)) with c525 | c525
      ·
       have q526 := of_decide_eq_true c525
       refine W_cond_true (by show Value.bool _ = _; exact congrArg Value.bool c525) ?_
       refine W_region_lit ?_
       refine Lq (.func (.func 60) #[] #[(ptr b113 0), (ptr b116 0)]) rfl rfl rfl rfl ?_
       refine Lq (.iface 9 (.string ⟨#[104, 111, 116]⟩)) rfl rfl rfl (by kernel_rfl) ?_
       refine Lq (ptr b32 0) rfl rfl rfl rfl ?_
       refine Lq (ptr b32 0) rfl rfl rfl rfl ?_
       refine Lq (ptr b32 2) rfl rfl rfl (by kernel_rfl) ?_
       refine Lq (int (min (r.count + 1) 1000000)) rfl rfl rfl (x_load rfl rfl (run_loadVar_one ti_3 (hst470.b 3) rfl)) ?_
       refine Lq (.iface 3 (int (min (r.count + 1) 1000000))) rfl rfl rfl (by kernel_rfl) ?_
       refine L_new hst470 (v := fun b => .slice (some ⟨b, 0, none⟩) 2 2) (ob := .cells #[(.iface 9 (.string ⟨#[104, 111, 116]⟩)), (.iface 3 (int (min (r.count + 1) 1000000)))] 20 (0, 0)) rfl rfl rfl (by kernel_rfl) (fun b527 w528 hst529 => ?_)
       refine L_call rfl rfl rfl (x_callv (vs := #[(int 2), (.slice (some ⟨b527, 0, none⟩) 2 2), (ptr b113 0), (ptr b116 0)]) rfl rfl (by kernel_rfl) ent_60) ?_ (fun _ _ h => h)
       refine calls_of_W (n := 29) Tryd.func60 rfl Tryd.ntmps60 (Nat.le_of_ble_eq_true rfl) ?_
       refine W_seq ?_
       refine W_region_draw [9] (fun w => Le R (hp w) ∧ Le (one b527 (.cells #[(.iface 9 (.string ⟨#[104, 111, 116]⟩)), (.iface 3 (int (min (r.count + 1) 1000000)))] 20 (0, 0))) (hp w) ∧ Le (one b116 (.cells #[(int k.1), (int k.2)] 43 (0, 0))) (hp w) ∧ Le (one b113 (.cells #[(ptr p 0)] 26 (0, 0))) (hp w) ∧ Le c56 (hp w) ∧ Le (one b32 (.cells #[(int r.tier), (int (r.calls + 1)), (int (min (r.count + 1) 1000000)), (int r.failures), (.map (some b27))] 93 (0, 0))) (hp w) ∧ Le c31 (hp w) ∧ Le (one b1 (.cells #[(int k.1), (int k.2)] 43 (0, 0))) (hp w) ∧ Le (one p (.cells #[(int s.sample), (int s.warm), (int s.hot), (int s.cold), (.map (some bm)), v] 67 (0, 0))) (hp w) ∧ Le cR (hp w) ∧ Le cD (hp w)) hmix (by decide +kernel) (fun _ _ h => h) ?_
       have hst531 := hst529.draws (w528.drawn + 1)
       generalize draws w528 (w528.drawn + 1) = w530 at hst531 ⊢
       refine LT (ptr p 0) 0 rfl rfl rfl (fun u533 hF534 => (x_load rfl rfl (run_loadVar_one ti_26 (hF534.2.2.2.1 _ _ (one_self _ _)) rfl))) ⟨hst531.rle', hst531.g 0, hst531.g 1, hst531.g 2, hst531.g 3, hst531.g 4, hst531.g 5, hst531.g 6, hst531.g 7, hst531.g 8, hst531.g 9⟩ ?_
       refine LP (ptr p 0) 1 rfl rfl rfl (fun u536 => rfl) ⟨hst531.rle', hst531.g 0, hst531.g 1, hst531.g 2, hst531.g 3, hst531.g 4, hst531.g 5, hst531.g 6, hst531.g 7, hst531.g 8, hst531.g 9⟩ ?_
       refine LP (ptr p 4) 2 rfl rfl rfl (fun u539 => (by kernel_rfl)) ⟨hst531.rle', hst531.g 0, hst531.g 1, hst531.g 2, hst531.g 3, hst531.g 4, hst531.g 5, hst531.g 6, hst531.g 7, hst531.g 8, hst531.g 9⟩ ?_
       refine LT (.map (some bm)) 3 rfl rfl rfl (fun u542 hF543 => (x_load rfl rfl (run_loadVar_one ti_65 (hF543.2.2.2.2.2.2.2.2.1 _ _ (one_self _ _)) rfl))) ⟨hst531.rle', hst531.g 0, hst531.g 1, hst531.g 2, hst531.g 3, hst531.g 4, hst531.g 5, hst531.g 6, hst531.g 7, hst531.g 8, hst531.g 9⟩ ?_
       refine LT (.agg #[(int k.1), (int k.2)]) 4 rfl rfl rfl (fun u545 hF546 => (x_load rfl rfl (run_loadVar_agg ti_43 (hF546.2.2.1 _ _ (one_self _ _)) (l := [(int k.1), (int k.2)]) rfl rfl))) ⟨hst531.rle', hst531.g 0, hst531.g 1, hst531.g 2, hst531.g 3, hst531.g 4, hst531.g 5, hst531.g 6, hst531.g 7, hst531.g 8, hst531.g 9⟩ ?_
       refine LT (ptr b32 0) 5 rfl rfl rfl (fun u548 hF549 => x_lookup rfl rfl rfl (by have h_ := MapC.lookupP (w := u548) hm59 hF549.2.2.2.2.1 law43 mt_65 ti_81 k false none rfl; rw [(show AL.get (AL.set m k (some b32)) k = some (some b32) by simp [AL.get_set])] at h_; exact h_)) ⟨hst531.rle', hst531.g 0, hst531.g 1, hst531.g 2, hst531.g 3, hst531.g 4, hst531.g 5, hst531.g 6, hst531.g 7, hst531.g 8, hst531.g 9⟩ ?_
       refine LP (int 2) 6 rfl rfl rfl (fun u551 => rfl) ⟨hst531.rle', hst531.g 0, hst531.g 1, hst531.g 2, hst531.g 3, hst531.g 4, hst531.g 5, hst531.g 6, hst531.g 7, hst531.g 8, hst531.g 9⟩ ?_
       refine LP (ptr b32 0) 7 rfl rfl rfl (fun u554 => rfl) ⟨hst531.rle', hst531.g 0, hst531.g 1, hst531.g 2, hst531.g 3, hst531.g 4, hst531.g 5, hst531.g 6, hst531.g 7, hst531.g 8, hst531.g 9⟩ ?_
       refine LP (ptr b32 0) 8 rfl rfl rfl (fun u557 => (by kernel_rfl)) ⟨hst531.rle', hst531.g 0, hst531.g 1, hst531.g 2, hst531.g 3, hst531.g 4, hst531.g 5, hst531.g 6, hst531.g 7, hst531.g 8, hst531.g 9⟩ ?_
       refine LA_all [9] (by decide +kernel) (by simp) ?_
       intro i_ hi_
       simp only [List.mem_cons, List.not_mem_nil, or_false] at hi_
       subst hi_
       obtain ⟨w560, hr562, hst561⟩ := run_storeW (P := Tryd.prog) (b := b32) (off := 0) (v := (int 2)) hst531 4 ti_3 rfl rfl rfl rfl rfl rfl
       change Step _ _ _ _ _ [one b527 (.cells #[(.iface 9 (.string ⟨#[104, 111, 116]⟩)), (.iface 3 (int (min (r.count + 1) 1000000)))] 20 (0, 0)), one b116 (.cells #[(int k.1), (int k.2)] 43 (0, 0)), one b113 (.cells #[(ptr p 0)] 26 (0, 0)), c56, one b32 (.cells #[(int 2), (int (r.calls + 1)), (int (min (r.count + 1) 1000000)), (int r.failures), (.map (some b27))] 93 (0, 0)), c31, one b1 (.cells #[(int k.1), (int k.2)] 43 (0, 0)), one p (.cells #[(int s.sample), (int s.warm), (int s.hot), (int s.cold), (.map (some bm)), v] 67 (0, 0)), cR, cD] at hst561
       refine One_skip (i := 9) rfl rfl (Want.plain rfl) (x_store rfl rfl rfl hr562) (fun h => absurd h (by decide +kernel)) ?_
       refine LA_done (by decide +kernel) ?_
       refine W_region_draw [14] (fun w => Le R (hp w) ∧ Le (one b527 (.cells #[(.iface 9 (.string ⟨#[104, 111, 116]⟩)), (.iface 3 (int (min (r.count + 1) 1000000)))] 20 (0, 0))) (hp w) ∧ Le (one b116 (.cells #[(int k.1), (int k.2)] 43 (0, 0))) (hp w) ∧ Le (one b113 (.cells #[(ptr p 0)] 26 (0, 0))) (hp w) ∧ Le c56 (hp w) ∧ Le (one b32 (.cells #[(int 2), (int (r.calls + 1)), (int (min (r.count + 1) 1000000)), (int r.failures), (.map (some b27))] 93 (0, 0))) (hp w) ∧ Le c31 (hp w) ∧ Le (one b1 (.cells #[(int k.1), (int k.2)] 43 (0, 0))) (hp w) ∧ Le (one p (.cells #[(int s.sample), (int s.warm), (int s.hot), (int s.cold), (.map (some bm)), v] 67 (0, 0))) (hp w) ∧ Le cR (hp w)) hmix (by decide +kernel) (fun _ _ h => h) ?_
       have hst564 := hst561.draws (w560.drawn + 1)
       generalize draws w560 (w560.drawn + 1) = w563 at hst564 ⊢
       refine LT (ptr p 0) 0 rfl rfl rfl (fun u566 hF567 => (x_load rfl rfl (run_loadVar_one ti_26 (hF567.2.2.2.1 _ _ (one_self _ _)) rfl))) ⟨hst564.rle', hst564.g 0, hst564.g 1, hst564.g 2, hst564.g 3, hst564.g 4, hst564.g 5, hst564.g 6, hst564.g 7, hst564.g 8⟩ ?_
       refine LT (ptr p 0) 1 rfl rfl rfl (fun u569 hF570 => (x_load rfl rfl (run_loadVar_one ti_26 (hF570.2.2.2.1 _ _ (one_self _ _)) rfl))) ⟨hst564.rle', hst564.g 0, hst564.g 1, hst564.g 2, hst564.g 3, hst564.g 4, hst564.g 5, hst564.g 6, hst564.g 7, hst564.g 8⟩ ?_
       refine LP (ptr p 0) 2 rfl rfl rfl (fun u572 => rfl) ⟨hst564.rle', hst564.g 0, hst564.g 1, hst564.g 2, hst564.g 3, hst564.g 4, hst564.g 5, hst564.g 6, hst564.g 7, hst564.g 8⟩ ?_
       refine LP (ptr p 5) 3 rfl rfl rfl (fun u575 => (by kernel_rfl)) ⟨hst564.rle', hst564.g 0, hst564.g 1, hst564.g 2, hst564.g 3, hst564.g 4, hst564.g 5, hst564.g 6, hst564.g 7, hst564.g 8⟩ ?_
       refine LT v 4 rfl rfl rfl (fun u578 hF579 => (x_load rfl rfl (run_loadVar_one ti_36 (hF579.2.2.2.2.2.2.2.2.1 _ _ (one_self _ _)) rfl))) ⟨hst564.rle', hst564.g 0, hst564.g 1, hst564.g 2, hst564.g 3, hst564.g 4, hst564.g 5, hst564.g 6, hst564.g 7, hst564.g 8⟩ ?_
       refine LT (.agg #[(int k.1), (int k.2)]) 5 rfl rfl rfl (fun u581 hF582 => (x_load rfl rfl (run_loadVar_agg ti_43 (hF582.2.2.1 _ _ (one_self _ _)) (l := [(int k.1), (int k.2)]) rfl rfl))) ⟨hst564.rle', hst564.g 0, hst564.g 1, hst564.g 2, hst564.g 3, hst564.g 4, hst564.g 5, hst564.g 6, hst564.g 7, hst564.g 8⟩ ?_
       refine LP (int 2) 6 rfl rfl rfl (fun u584 => rfl) ⟨hst564.rle', hst564.g 0, hst564.g 1, hst564.g 2, hst564.g 3, hst564.g 4, hst564.g 5, hst564.g 6, hst564.g 7, hst564.g 8⟩ ?_
       refine LP (.slice (some ⟨b527, 0, none⟩) 2 2) 7 rfl rfl rfl (fun u587 => rfl) ⟨hst564.rle', hst564.g 0, hst564.g 1, hst564.g 2, hst564.g 3, hst564.g 4, hst564.g 5, hst564.g 6, hst564.g 7, hst564.g 8⟩ ?_
       refine LA_all [8] (by decide +kernel) (by simp) ?_
       intro i_ hi_
       simp only [List.mem_cons, List.not_mem_nil, or_false] at hi_
       subst hi_
       refine One_call (i := 8) rfl rfl rfl (Want.plain rfl) (x_call (vs := #[(.slice (some ⟨b527, 0, none⟩) 2 2)]) rfl rfl (by kernel_rfl) ent_40) (words_spec (w := w563) (R := hp w563) (xs := [Wd.s ⟨#[104, 111, 116]⟩, Wd.i (min (r.count + 1) 1000000)]) (hT.mono hst564.rle') (Le.refl _) (OwnL.freeze (OwnL.lit (t := tyWd) (xs := [Wd.s ⟨#[104, 111, 116]⟩, Wd.i (min (r.count + 1) 1000000)]) (T := 20) (R := R) (cs := [(.iface 9 (.string ⟨#[104, 111, 116]⟩)), (.iface 3 (int (min (r.count + 1) 1000000)))]) (Encs.cons (show tyWd.rel _ _ [_] from rfl) (Encs.cons (show tyWd.rel _ _ [_] from rfl) Encs.nil)) rfl (Nat.le_of_ble_eq_true rfl)) hst564.rle' (hst564.g 0)) (Oks (Sm2 (Sm_s (by decide)) (Sm_i (by constructor <;> omega)))) (Nat.le_of_ble_eq_true rfl)) ?_
       rintro e594 w592 ⟨rfl, hw595⟩
       have hst593 := hst564.grown hw595
       refine ⟨_, rfl, (fun _ => ⟨hst593.rle', hst593.g 0, hst593.g 1, hst593.g 2, hst593.g 3, hst593.g 4, hst593.g 5, hst593.g 6, hst593.g 7, hst593.g 8⟩), ?_⟩
       refine LP (.agg #[(int k.1), (int k.2), (int 2), (.string (joinW [Wd.s ⟨#[104, 111, 116]⟩, Wd.i (min (r.count + 1) 1000000)]))]) 9 rfl rfl rfl (fun u597 => (by kernel_rfl)) ⟨hst593.rle', hst593.g 0, hst593.g 1, hst593.g 2, hst593.g 3, hst593.g 4, hst593.g 5, hst593.g 6, hst593.g 7, hst593.g 8⟩ ?_
       refine LA_all [10] (by decide +kernel) (by simp) ?_
       intro i_ hi_
       simp only [List.mem_cons, List.not_mem_nil, or_false] at hi_
       subst hi_
       refine One_new hst593 (i := 10) (v := fun b => .slice (some ⟨b, 0, none⟩) 1 1) (ob := .cells #[(int k.1), (int k.2), (int 2), (.string (joinW [Wd.s ⟨#[104, 111, 116]⟩, Wd.i (min (r.count + 1) 1000000)]))] 49 (0, 0)) rfl rfl rfl (Want.plain rfl) (by kernel_rfl) (fun b602 w603 hst604 => ?_)
       refine ⟨(fun _ => ⟨hst604.rle', hst604.g 1, hst604.g 2, hst604.g 3, hst604.g 4, hst604.g 5, hst604.g 6, hst604.g 7, hst604.g 8, hst604.g 9⟩), ?_⟩
       refine LA_all [11] (by decide +kernel) (by simp) ?_
       intro i_ hi_
       simp only [List.mem_cons, List.not_mem_nil, or_false] at hi_
       subst hi_
       refine One_append (j := 11) hst604 (t := 36) (e := 49) (ys := [Dec.mk k 2 (joinW [Wd.s ⟨#[104, 111, 116]⟩, Wd.i (min (r.count + 1) 1000000)])]) (src := [(int k.1), (int k.2), (int 2), (.string (joinW [Wd.s ⟨#[104, 111, 116]⟩, Wd.i (min (r.count + 1) 1000000)]))]) 10 rfl rfl rfl (Want.plain rfl) rfl rfl rfl sl_36 ti_49 rfl rfl rfl hD (src_own (hst604.b 0)) (Encs.one (tyDec_mk _ _ _ _ _)) rfl (by first | omega | (simp only [List.length_append, List.length_cons, List.length_nil]; omega)) (by first | (simp only [maxLen]; omega) | (simp only [List.length_append, List.length_cons, List.length_nil, maxLen]; omega)) (fun v608 c609 w610 ho611 hst612 => ?_)
       refine ⟨(fun _ => ⟨hst612.rle', hst612.g 2, hst612.g 3, hst612.g 4, hst612.g 5, hst612.g 6, hst612.g 7, hst612.g 8, hst612.g 9, hst612.g 10⟩), ?_⟩
       refine LP (ptr p 0) 12 rfl rfl rfl (fun u614 => rfl) ⟨hst612.rle', hst612.g 2, hst612.g 3, hst612.g 4, hst612.g 5, hst612.g 6, hst612.g 7, hst612.g 8, hst612.g 9, hst612.g 10⟩ ?_
       refine LP (ptr p 5) 13 rfl rfl rfl (fun u617 => (by kernel_rfl)) ⟨hst612.rle', hst612.g 2, hst612.g 3, hst612.g 4, hst612.g 5, hst612.g 6, hst612.g 7, hst612.g 8, hst612.g 9, hst612.g 10⟩ ?_
       refine LA_all [14] (by decide +kernel) (by simp) ?_
       intro i_ hi_
       simp only [List.mem_cons, List.not_mem_nil, or_false] at hi_
       subst hi_
       obtain ⟨a620, cap621, e622, hc623⟩ := ho611.value
       subst e622
       obtain ⟨w624, hr626, hst625⟩ := run_storeW (P := Tryd.prog) (b := p) (off := 5) (v := (.slice a620 ((s.decs ++ [Dec.mk k 2 (joinW [Wd.s ⟨#[104, 111, 116]⟩, Wd.i (min (r.count + 1) 1000000)])]).length) cap621)) hst612 9 ti_36 rfl rfl rfl rfl rfl rfl
       change Step _ _ _ _ _ [c609, one b602 (.cells #[(int k.1), (int k.2), (int 2), (.string (joinW [Wd.s ⟨#[104, 111, 116]⟩, Wd.i (min (r.count + 1) 1000000)]))] 49 (0, 0)), one b527 (.cells #[(.iface 9 (.string ⟨#[104, 111, 116]⟩)), (.iface 3 (int (min (r.count + 1) 1000000)))] 20 (0, 0)), one b116 (.cells #[(int k.1), (int k.2)] 43 (0, 0)), one b113 (.cells #[(ptr p 0)] 26 (0, 0)), c56, one b32 (.cells #[(int 2), (int (r.calls + 1)), (int (min (r.count + 1) 1000000)), (int r.failures), (.map (some b27))] 93 (0, 0)), c31, one b1 (.cells #[(int k.1), (int k.2)] 43 (0, 0)), one p (.cells #[(int s.sample), (int s.warm), (int s.hot), (int s.cold), (.map (some bm)), (.slice a620 ((s.decs ++ [Dec.mk k 2 (joinW [Wd.s ⟨#[104, 111, 116]⟩, Wd.i (min (r.count + 1) 1000000)])]).length) cap621)] 67 (0, 0)), cR] at hst625
       refine One_skip (i := 14) rfl rfl (Want.plain rfl) (x_store rfl rfl rfl hr626) (fun h => absurd h (by decide +kernel)) ?_
       refine LA_done (by decide +kernel) ?_
       refine ⟨_, _, res_run (rs := []) (vs := []) Tryd.results60 .nil rfl, ?_⟩
       refine ⟨_, rfl, ?_⟩
       refine L_nil ?_
       refine W_seq ?_
       refine W_region_lit ?_
       refine Lq (.bool true) rfl rfl rfl rfl ?_
       refine L_nil ?_
       refine W_ret ?_
       refine ⟨_, _, res_run (rs := [.tmp 4]) (vs := [(.bool true)]) Tryd.results23 (.cons (.tmp rfl) .nil) rfl, ?_⟩
       have he := back_hot (s := s) hrc (of_decide_eq_false c71) (by simpa using c108) (eq_of_beq c490) (of_decide_eq_true c525)
       rw [he]
       obtain ⟨c', hst', hprof'⟩ := Prof.closeR (s := s.decide k { r with calls := r.calls + 1, count := min (r.count + 1) 1000000 } 2 (joinW [Wd.s ⟨#[104, 111, 116]⟩, Wd.i (min (r.count + 1) 1000000)])) (r := ⟨2, r.calls + 1, min (r.count + 1) 1000000, r.failures, r.exits⟩) (((((hst625.front 10 rfl rfl).front 8 rfl rfl).front 8 rfl rfl).front 8 rfl rfl).front 10 rfl rfl) hm59 hE62 (fun c1 h d => hback _ c1 h d) ho611 (hok.decide k hro.count1 (by decide) (joinW_short (Oks (Sm2 (Sm_s (by decide)) (Sm_i (by constructor <;> omega)))) (Nat.le_of_ble_eq_true rfl)))
       exact ⟨_, _, _, rfl, hst'.keepN 1 rfl, c', rfl, rfl, hprof'⟩
      ·
       have q627 := of_decide_eq_false c525
       refine W_cond_false (by show Value.bool _ = _; exact congrArg Value.bool c525) ?_
       refine W_seq ?_
       refine W_region_lit ?_
       refine Lq (.bool false) rfl rfl rfl rfl ?_
       refine L_nil ?_
       refine W_ret ?_
       refine ⟨_, _, res_run (rs := [.tmp 4]) (vs := [(.bool false)]) Tryd.results23 (.cons (.tmp rfl) .nil) rfl, ?_⟩
       have he := back_no (s := s) hrc (of_decide_eq_false c71) (by simpa using c108) (fun h => (ne_of_beq_false c140) h.1) (fun h => (of_decide_eq_false c525) h.2)
       rw [he]
       obtain ⟨c', hst', hprof'⟩ := Prof.closeR (s := s.put k { r with calls := r.calls + 1, count := min (r.count + 1) 1000000 }) (r := ⟨r.tier, r.calls + 1, min (r.count + 1) 1000000, r.failures, r.exits⟩) ((((((hst470.front 8 rfl rfl).front 8 rfl rfl).front 6 rfl rfl).front 6 rfl rfl).front 6 rfl rfl).front 8 rfl rfl) hm59 hE62 (fun c1 h d => hback _ c1 h d) hD (hok.put k hro.count1)
       exact ⟨_, _, _, rfl, hst'.keepN 1 rfl, c', rfl, rfl, hprof'⟩
     ·
      have q628 := ne_of_beq_false c490
      refine LV 6 rfl rfl rfl hst470.a9 ?_ (hw := (Want.of rfl rfl rfl rfl (by rw [c490]; rfl)))
      refine LV 7 rfl rfl rfl hst470.a9 ?_ (hw := (Want.of rfl rfl rfl rfl (by rw [c490]; rfl)))
      refine LV 8 rfl rfl rfl hst470.a9 ?_ (hw := (Want.of rfl rfl rfl rfl (by rw [c490]; rfl)))
      refine LV 9 rfl rfl rfl hst470.a9 ?_ (hw := (Want.of rfl rfl rfl rfl (by rw [c490]; rfl)))
      refine LV 10 rfl rfl rfl hst470.a9 ?_ (hw := (Want.of rfl rfl rfl rfl (by rw [c490]; rfl)))
      refine LV 11 rfl rfl rfl hst470.a9 ?_ (hw := (Want.of rfl rfl rfl rfl (by rw [c490]; rfl)))
      refine LV 12 rfl rfl rfl hst470.a9 ?_ (hw := (Want.of rfl rfl rfl rfl (by rw [c490]; rfl)))
      refine LV 13 rfl rfl rfl hst470.a9 ?_ (hw := (Want.of rfl rfl rfl rfl (by rw [c490]; rfl)))
      refine LV 14 rfl rfl rfl hst470.a9 ?_ (hw := (Want.of rfl rfl rfl rfl (by rw [c490]; rfl)))
      refine LP (.bool false) 15 rfl rfl rfl (fun u639 => (x_pick rfl rfl (by rw [c490]; rfl))) hst470.a9 ?_
      refine LP (.bool false) 16 rfl rfl rfl (fun u642 => rfl) hst470.a9 ?_
      refine LA_done (by decide +kernel) ?_
      refine W_cond_false (by show Value.bool _ = _; exact congrArg Value.bool rfl) ?_
      refine W_seq ?_
      refine W_region_lit ?_
      refine Lq (.bool false) rfl rfl rfl rfl ?_
      refine L_nil ?_
      refine W_ret ?_
      refine ⟨_, _, res_run (rs := [.tmp 4]) (vs := [(.bool false)]) Tryd.results23 (.cons (.tmp rfl) .nil) rfl, ?_⟩
      have he := back_no (s := s) hrc (of_decide_eq_false c71) (by simpa using c108) (fun h => (ne_of_beq_false c140) h.1) (fun h => (ne_of_beq_false c490) h.1)
      rw [he]
      obtain ⟨c', hst', hprof'⟩ := Prof.closeR (s := s.put k { r with calls := r.calls + 1, count := min (r.count + 1) 1000000 }) (r := ⟨r.tier, r.calls + 1, min (r.count + 1) 1000000, r.failures, r.exits⟩) ((((((hst470.front 8 rfl rfl).front 8 rfl rfl).front 6 rfl rfl).front 6 rfl rfl).front 6 rfl rfl).front 8 rfl rfl) hm59 hE62 (fun c1 h d => hback _ c1 h d) hD (hok.put k hro.count1)
      exact ⟨_, _, _, rfl, hst'.keepN 1 rfl, c', rfl, rfl, hprof'⟩
 ·
  obtain ⟨be, cE, rfl, hd4, hE⟩ := hrec
  subst hc
  have hst644 := ((hst3.front 3 rfl rfl).split hdj).split hd4
  have hro := hok.recs k r hgr
  obtain ⟨hr645, hr646⟩ := hro.tier
  obtain ⟨hr647, hr648⟩ := hro.calls
  obtain ⟨hr649, hr650⟩ := hro.count
  obtain ⟨hr651, hr652⟩ := hro.failures
  have hrc := PS.rc_some hgr
  refine W_region_draw [] (fun w => Le R (hp w) ∧ Le (one a (.cells #[(int r.tier), (int r.calls), (int r.count), (int r.failures), (.map (some be))] 93 (0, 0))) (hp w) ∧ Le cE (hp w) ∧ Le c2 (hp w) ∧ Le (one b1 (.cells #[(int k.1), (int k.2)] 43 (0, 0))) (hp w) ∧ Le (one p (.cells #[(int s.sample), (int s.warm), (int s.hot), (int s.cold), (.map (some bm)), v] 67 (0, 0))) (hp w) ∧ Le cM (hp w) ∧ Le cD (hp w)) hmix (by decide +kernel) (fun _ _ h => h) ?_
  have hst654 := hst644.draws (w2.drawn + 1)
  generalize draws w2 (w2.drawn + 1) = w653 at hst654 ⊢
  refine LP (ptr p 0) 0 rfl rfl rfl (fun u656 => rfl) hst654.a7 ?_
  refine LP (ptr p 0) 1 rfl rfl rfl (fun u659 => rfl) hst654.a7 ?_
  refine LP (ptr p 4) 2 rfl rfl rfl (fun u662 => (by kernel_rfl)) hst654.a7 ?_
  refine LT (.map (some bm)) 3 rfl rfl rfl (fun u665 hF666 => (x_load rfl rfl (run_loadVar_one ti_65 (hF666.2.2.2.2.2.1 _ _ (one_self _ _)) rfl))) hst654.a7 ?_
  refine LT (.agg #[(int k.1), (int k.2)]) 4 rfl rfl rfl (fun u668 hF669 => (x_load rfl rfl (run_loadVar_agg ti_43 (hF669.2.2.2.2.1 _ _ (one_self _ _)) (l := [(int k.1), (int k.2)]) rfl rfl))) hst654.a7 ?_
  refine LT (ptr a 0) 5 rfl rfl rfl (fun u671 hF672 => x_lookup rfl rfl rfl (by have h_ := MapC.lookupP (w := u671) hM hF672.2.2.2.2.2.2.1 law43 mt_65 ti_81 k false none rfl; rw [hg] at h_; exact h_)) hst654.a7 ?_
  refine LP (ptr a 0) 6 rfl rfl rfl (fun u674 => rfl) hst654.a7 ?_
  refine LA_done (by decide +kernel) ?_
  refine W_seq ?_
  refine W_seq ?_
  refine W_region_lit ?_
  refine Lq (ptr a 0) rfl rfl rfl rfl ?_
  refine Lq (.bool false) rfl rfl rfl (by kernel_rfl) ?_
  refine L_nil ?_
  refine W_cond_false (by show Value.bool _ = _; exact congrArg Value.bool rfl) ?_
  refine W_skip ?_
  refine W_seq ?_
  refine W_seq ?_
  refine W_region_lit ?_
  refine Lq (ptr a 0) rfl rfl rfl rfl ?_
  refine Lq (ptr a 0) rfl rfl rfl rfl ?_
  refine Lq (ptr a 0) rfl rfl rfl (by kernel_rfl) ?_
  refine Lq (int r.tier) rfl rfl rfl (x_load rfl rfl (run_loadVar_one ti_3 (hst654.b 0) rfl)) ?_
  refine Lq (.bool (decide (r.tier < 0))) rfl rfl rfl (by kernel_rfl) ?_
  refine L_nil ?_
  rcases Bool.eq_false_or_eq_true (decide (r.tier < 0)) with c676 | c676
  ·
   have q677 := of_decide_eq_true c676
   refine W_cond_true (by show Value.bool _ = _; exact congrArg Value.bool c676) ?_
   refine W_seq ?_
   refine W_region_lit ?_
   refine Lq (.bool false) rfl rfl rfl rfl ?_
   refine L_nil ?_
   refine W_ret ?_
   refine ⟨_, _, res_run (rs := [.tmp 4]) (vs := [(.bool false)]) Tryd.results23 (.cons (.tmp rfl) .nil) rfl, ?_⟩
   have he := back_neg (s := s) hrc (of_decide_eq_true c676)
   rw [he]
   obtain ⟨c', hst', hprof'⟩ := Prof.closeR (s := s.put k r) (r := ⟨r.tier, r.calls, r.count, r.failures, r.exits⟩) ((((((hst654.front 6 rfl rfl).front 3 rfl rfl).front 3 rfl rfl).front 3 rfl rfl).front 6 rfl rfl).front 6 rfl rfl) hM hE (fun c1 h d => hback _ c1 h d) hD (hok.put k (hro.mono (Nat.le_succ _)))
   exact ⟨_, _, _, rfl, hst'.keepN 1 rfl, c', rfl, rfl, hprof'⟩
  ·
   have q678 := of_decide_eq_false c676
   refine W_cond_false (by show Value.bool _ = _; exact congrArg Value.bool c676) ?_
   refine W_skip ?_
   refine W_seq ?_
   refine W_region_lit ?_
   refine Lq (ptr a 0) rfl rfl rfl rfl ?_
   refine Lq (ptr a 0) rfl rfl rfl rfl ?_
   refine Lq (ptr a 1) rfl rfl rfl (by kernel_rfl) ?_
   refine Lq (int r.calls) rfl rfl rfl (x_load rfl rfl (run_loadVar_one ti_3 (hst654.b 0) rfl)) ?_
   refine Lq (int (r.calls + 1)) rfl rfl rfl (x_add rfl rfl rfl (by constructor <;> omega)) ?_
   refine Lq (ptr a 0) rfl rfl rfl rfl ?_
   refine Lq (ptr a 1) rfl rfl rfl (by kernel_rfl) ?_
   refine L_store hst654 0 ti_3 rfl rfl rfl rfl rfl rfl rfl rfl rfl rfl rfl (fun w679 hst680 => ?_)
   change Step _ _ _ _ _ [one a (.cells #[(int r.tier), (int (r.calls + 1)), (int r.count), (int r.failures), (.map (some be))] 93 (0, 0)), cE, c2, one b1 (.cells #[(int k.1), (int k.2)] 43 (0, 0)), one p (.cells #[(int s.sample), (int s.warm), (int s.hot), (int s.cold), (.map (some bm)), v] 67 (0, 0)), cM, cD] at hst680
   refine L_nil ?_
   refine W_seq ?_
   refine W_seq ?_
   refine W_region_draw [] (fun w => Le R (hp w) ∧ Le (one a (.cells #[(int r.tier), (int (r.calls + 1)), (int r.count), (int r.failures), (.map (some be))] 93 (0, 0))) (hp w) ∧ Le cE (hp w) ∧ Le c2 (hp w) ∧ Le (one b1 (.cells #[(int k.1), (int k.2)] 43 (0, 0))) (hp w) ∧ Le (one p (.cells #[(int s.sample), (int s.warm), (int s.hot), (int s.cold), (.map (some bm)), v] 67 (0, 0))) (hp w) ∧ Le cM (hp w) ∧ Le cD (hp w)) hmix (by decide +kernel) (fun _ _ h => h) ?_
   have hst682 := hst680.draws (w679.drawn + 1)
   generalize draws w679 (w679.drawn + 1) = w681 at hst682 ⊢
   refine LP (ptr a 0) 0 rfl rfl rfl (fun u684 => rfl) hst682.a7 ?_
   refine LP (ptr a 0) 1 rfl rfl rfl (fun u687 => rfl) hst682.a7 ?_
   refine LP (ptr a 1) 2 rfl rfl rfl (fun u690 => (by kernel_rfl)) hst682.a7 ?_
   refine LT (int (r.calls + 1)) 3 rfl rfl rfl (fun u693 hF694 => (x_load rfl rfl (run_loadVar_one ti_3 (hF694.2.1 _ _ (one_self _ _)) rfl))) hst682.a7 ?_
   refine LP (ptr p 0) 4 rfl rfl rfl (fun u696 => rfl) hst682.a7 ?_
   refine LP (ptr p 0) 5 rfl rfl rfl (fun u699 => rfl) hst682.a7 ?_
   refine LP (ptr p 0) 6 rfl rfl rfl (fun u702 => (by kernel_rfl)) hst682.a7 ?_
   refine LT (int s.sample) 7 rfl rfl rfl (fun u705 hF706 => (x_load rfl rfl (run_loadVar_one ti_3 (hF706.2.2.2.2.2.1 _ _ (one_self _ _)) rfl))) hst682.a7 ?_
   refine LP (int (Int.tmod (r.calls + 1) s.sample)) 8 rfl rfl rfl (fun u708 => (x_rem rfl rfl rfl (by omega))) hst682.a7 ?_
   refine LP (.bool ((Int.tmod (r.calls + 1) s.sample) != 0)) 9 rfl rfl rfl (fun u711 => (by kernel_rfl)) hst682.a7 ?_
   refine LA_done (by decide +kernel) ?_
   rcases Bool.eq_false_or_eq_true ((Int.tmod (r.calls + 1) s.sample) != 0) with c713 | c713
   ·
    have q714 : ¬ Int.tmod (r.calls + 1) s.sample = 0 := by simpa using c713
    refine W_cond_true (by show Value.bool _ = _; exact congrArg Value.bool c713) ?_
    refine W_seq ?_
    refine W_region_lit ?_
    refine Lq (.bool false) rfl rfl rfl rfl ?_
    refine L_nil ?_
    refine W_ret ?_
    refine ⟨_, _, res_run (rs := [.tmp 4]) (vs := [(.bool false)]) Tryd.results23 (.cons (.tmp rfl) .nil) rfl, ?_⟩
    have he := back_skip (s := s) hrc (of_decide_eq_false c676) (by simpa using c713)
    rw [he]
    obtain ⟨c', hst', hprof'⟩ := Prof.closeR (s := s.put k { r with calls := r.calls + 1 }) (r := ⟨r.tier, r.calls + 1, r.count, r.failures, r.exits⟩) ((((((hst682.front 6 rfl rfl).front 3 rfl rfl).front 3 rfl rfl).front 3 rfl rfl).front 6 rfl rfl).front 6 rfl rfl) hM hE (fun c1 h d => hback _ c1 h d) hD (hok.put k hro.calls1)
    exact ⟨_, _, _, rfl, hst'.keepN 1 rfl, c', rfl, rfl, hprof'⟩
   ·
    have q715 : Int.tmod (r.calls + 1) s.sample = 0 := by simpa using c713
    refine W_cond_false (by show Value.bool _ = _; exact congrArg Value.bool c713) ?_
    refine W_skip ?_
    refine W_seq ?_
    refine W_region_lit ?_
    refine Lq (ptr a 0) rfl rfl rfl rfl ?_
    refine Lq (ptr a 0) rfl rfl rfl rfl ?_
    refine Lq (ptr a 0) rfl rfl rfl rfl ?_
    refine Lq (ptr a 2) rfl rfl rfl (by kernel_rfl) ?_
    refine Lq (int r.count) rfl rfl rfl (x_load rfl rfl (run_loadVar_one ti_3 (hst682.b 0) rfl)) ?_
    refine Lq (int (r.count + 1)) rfl rfl rfl (x_add rfl rfl rfl (by constructor <;> omega)) ?_
    refine Lq (int (min (r.count + 1) 1000000)) rfl rfl rfl (x_min rfl rfl rfl) ?_
    refine Lq (ptr a 0) rfl rfl rfl rfl ?_
    refine Lq (ptr a 2) rfl rfl rfl (by kernel_rfl) ?_
    refine L_store hst682 0 ti_3 rfl rfl rfl rfl rfl rfl rfl rfl rfl rfl rfl (fun w716 hst717 => ?_)
    change Step _ _ _ _ _ [one a (.cells #[(int r.tier), (int (r.calls + 1)), (int (min (r.count + 1) 1000000)), (int r.failures), (.map (some be))] 93 (0, 0)), cE, c2, one b1 (.cells #[(int k.1), (int k.2)] 43 (0, 0)), one p (.cells #[(int s.sample), (int s.warm), (int s.hot), (int s.cold), (.map (some bm)), v] 67 (0, 0)), cM, cD] at hst717
    refine L_nil ?_
    refine W_seq ?_
    refine W_region_lit ?_
    refine Lq (ptr p 0) rfl rfl rfl rfl ?_
    refine Lq (.agg #[(int k.1), (int k.2)]) rfl rfl rfl (x_load rfl rfl (run_loadVar_agg ti_43 (hst717.b 3) (l := [(int k.1), (int k.2)]) rfl rfl)) ?_
    refine L_call rfl rfl rfl (x_call (vs := #[(ptr p 0), (.agg #[(int k.1), (int k.2)])]) rfl rfl (by kernel_rfl) ent_47) ?_ (fun _ _ h => h)
    refine calls_of_W (n := 6) Tryd.func47 rfl Tryd.ntmps47 (Nat.le_of_ble_eq_true rfl) ?_
    refine W_seq ?_
    refine W_region_lit ?_
    refine L_new hst717 (v := fun b => ptr b 0) (ob := .cells #[(ptr p 0)] 26 (0, 0)) rfl rfl rfl (by kernel_rfl) (fun b718 w719 hst720 => ?_)
    refine L_new hst720 (v := fun b => ptr b 0) (ob := .cells #[(int k.1), (int k.2)] 43 (0, 0)) rfl rfl rfl (by kernel_rfl) (fun b721 w722 hst723 => ?_)
    refine Lq .nilFunc rfl rfl rfl rfl ?_
    refine L_nil ?_
    refine W_seq ?_
    refine W_region_lit ?_
    refine Lq (.func (.func 60) #[] #[(ptr b718 0), (ptr b721 0)]) rfl rfl rfl (by kernel_rfl) ?_
    refine Lq (.func (.func 60) #[] #[(ptr b718 0), (ptr b721 0)]) rfl rfl rfl rfl ?_
    refine L_nil ?_
    refine W_ret ?_
    refine ⟨_, _, res_run (rs := [.tmp 4]) (vs := [(.func (.func 60) #[] #[(ptr b718 0), (ptr b721 0)])]) Tryd.results47 (.cons (.tmp rfl) .nil) rfl, ?_⟩
    refine ⟨_, rfl, ?_⟩
    refine Lq (.func (.func 60) #[] #[(ptr b718 0), (ptr b721 0)]) rfl rfl rfl rfl ?_
    refine L_nil ?_
    refine W_seq ?_
    refine W_block ?_
    refine W_seq ?_
    refine W_region_draw [] (fun w => Le R (hp w) ∧ Le (one b721 (.cells #[(int k.1), (int k.2)] 43 (0, 0))) (hp w) ∧ Le (one b718 (.cells #[(ptr p 0)] 26 (0, 0))) (hp w) ∧ Le (one a (.cells #[(int r.tier), (int (r.calls + 1)), (int (min (r.count + 1) 1000000)), (int r.failures), (.map (some be))] 93 (0, 0))) (hp w) ∧ Le cE (hp w) ∧ Le c2 (hp w) ∧ Le (one b1 (.cells #[(int k.1), (int k.2)] 43 (0, 0))) (hp w) ∧ Le (one p (.cells #[(int s.sample), (int s.warm), (int s.hot), (int s.cold), (.map (some bm)), v] 67 (0, 0))) (hp w) ∧ Le cM (hp w) ∧ Le cD (hp w)) hmix (by decide +kernel) (fun _ _ h => h) ?_
    have hst725 := hst723.draws (w722.drawn + 1)
    generalize draws w722 (w722.drawn + 1) = w724 at hst725 ⊢
    refine LP (ptr a 0) 0 rfl rfl rfl (fun u727 => rfl) hst725.a9 ?_
    refine LP (ptr a 0) 1 rfl rfl rfl (fun u730 => rfl) hst725.a9 ?_
    refine LP (ptr a 0) 2 rfl rfl rfl (fun u733 => (by kernel_rfl)) hst725.a9 ?_
    refine LT (int r.tier) 3 rfl rfl rfl (fun u736 hF737 => (x_load rfl rfl (run_loadVar_one ti_3 (hF737.2.2.2.1 _ _ (one_self _ _)) rfl))) hst725.a9 ?_
    refine LP (.bool (r.tier == 0)) 4 rfl rfl rfl (fun u739 => (by kernel_rfl)) hst725.a9 ?_
    refine LP (.bool (r.tier == 0)) 5 rfl rfl rfl (fun u742 => rfl) hst725.a9 ?_
    rcases Bool.eq_false_or_eq_true (r.tier == 0) with c745 | c745
    ·
     have q746 := eq_of_beq c745
     refine LP (ptr a 0) 6 rfl rfl rfl (fun u748 => rfl) hst725.a9 ?_ (hw := (Want.of rfl rfl rfl rfl (by rw [c745]; rfl)))
     refine LP (ptr a 0) 7 rfl rfl rfl (fun u751 => rfl) hst725.a9 ?_ (hw := (Want.of rfl rfl rfl rfl (by rw [c745]; rfl)))
     refine LP (ptr a 2) 8 rfl rfl rfl (fun u754 => (by kernel_rfl)) hst725.a9 ?_ (hw := (Want.of rfl rfl rfl rfl (by rw [c745]; rfl)))
     refine LT (int (min (r.count + 1) 1000000)) 9 rfl rfl rfl (fun u757 hF758 => (x_load rfl rfl (run_loadVar_one ti_3 (hF758.2.2.2.1 _ _ (one_self _ _)) rfl))) hst725.a9 ?_ (hw := (Want.of rfl rfl rfl rfl (by rw [c745]; rfl)))
     refine LP (ptr p 0) 10 rfl rfl rfl (fun u760 => rfl) hst725.a9 ?_ (hw := (Want.of rfl rfl rfl rfl (by rw [c745]; rfl)))
     refine LP (ptr p 0) 11 rfl rfl rfl (fun u763 => rfl) hst725.a9 ?_ (hw := (Want.of rfl rfl rfl rfl (by rw [c745]; rfl)))
     refine LP (ptr p 1) 12 rfl rfl rfl (fun u766 => (by kernel_rfl)) hst725.a9 ?_ (hw := (Want.of rfl rfl rfl rfl (by rw [c745]; rfl)))
     refine LT (int s.warm) 13 rfl rfl rfl (fun u769 hF770 => (x_load rfl rfl (run_loadVar_one ti_3 (hF770.2.2.2.2.2.2.2.1 _ _ (one_self _ _)) rfl))) hst725.a9 ?_ (hw := (Want.of rfl rfl rfl rfl (by rw [c745]; rfl)))
     refine LP (.bool (decide (min (r.count + 1) 1000000 ≥ s.warm))) 14 rfl rfl rfl (fun u772 => (by kernel_rfl)) hst725.a9 ?_ (hw := (Want.of rfl rfl rfl rfl (by rw [c745]; rfl)))
     refine LP (.bool (decide (min (r.count + 1) 1000000 ≥ s.warm))) 15 rfl rfl rfl (fun u775 => (x_pick rfl rfl (by rw [c745]; rfl))) hst725.a9 ?_
     refine LP (.bool (decide (min (r.count + 1) 1000000 ≥ s.warm))) 16 rfl rfl rfl (fun u778 => rfl) hst725.a9 ?_
     refine LA_done (by decide +kernel) ?_
     rcases Bool.eq_false_or_eq_true (decide (min (r.count + 1) 1000000 ≥ s.warm)) with c780 | c780
     ·
      have q781 := of_decide_eq_true c780
      refine W_cond_true (by show Value.bool _ = _; exact congrArg Value.bool c780) ?_
      refine W_region_lit ?_
      refine Lq (.func (.func 60) #[] #[(ptr b718 0), (ptr b721 0)]) rfl rfl rfl rfl ?_
      refine Lq (.iface 9 (.string ⟨#[119, 97, 114, 109]⟩)) rfl rfl rfl (by kernel_rfl) ?_
      refine Lq (ptr a 0) rfl rfl rfl rfl ?_
      refine Lq (ptr a 0) rfl rfl rfl rfl ?_
      refine Lq (ptr a 2) rfl rfl rfl (by kernel_rfl) ?_
      refine Lq (int (min (r.count + 1) 1000000)) rfl rfl rfl (x_load rfl rfl (run_loadVar_one ti_3 (hst725.b 2) rfl)) ?_
      refine Lq (.iface 3 (int (min (r.count + 1) 1000000))) rfl rfl rfl (by kernel_rfl) ?_
      refine L_new hst725 (v := fun b => .slice (some ⟨b, 0, none⟩) 2 2) (ob := .cells #[(.iface 9 (.string ⟨#[119, 97, 114, 109]⟩)), (.iface 3 (int (min (r.count + 1) 1000000)))] 20 (0, 0)) rfl rfl rfl (by kernel_rfl) (fun b782 w783 hst784 => ?_)
      refine L_call rfl rfl rfl (x_callv (vs := #[(int 1), (.slice (some ⟨b782, 0, none⟩) 2 2), (ptr b718 0), (ptr b721 0)]) rfl rfl (by kernel_rfl) ent_60) ?_ (fun _ _ h => h)
      refine calls_of_W (n := 29) Tryd.func60 rfl Tryd.ntmps60 (Nat.le_of_ble_eq_true rfl) ?_
      refine W_seq ?_
      refine W_region_draw [9] (fun w => Le R (hp w) ∧ Le (one b782 (.cells #[(.iface 9 (.string ⟨#[119, 97, 114, 109]⟩)), (.iface 3 (int (min (r.count + 1) 1000000)))] 20 (0, 0))) (hp w) ∧ Le (one b721 (.cells #[(int k.1), (int k.2)] 43 (0, 0))) (hp w) ∧ Le (one b718 (.cells #[(ptr p 0)] 26 (0, 0))) (hp w) ∧ Le (one a (.cells #[(int r.tier), (int (r.calls + 1)), (int (min (r.count + 1) 1000000)), (int r.failures), (.map (some be))] 93 (0, 0))) (hp w) ∧ Le cE (hp w) ∧ Le c2 (hp w) ∧ Le (one b1 (.cells #[(int k.1), (int k.2)] 43 (0, 0))) (hp w) ∧ Le (one p (.cells #[(int s.sample), (int s.warm), (int s.hot), (int s.cold), (.map (some bm)), v] 67 (0, 0))) (hp w) ∧ Le cM (hp w) ∧ Le cD (hp w)) hmix (by decide +kernel) (fun _ _ h => h) ?_
      have hst786 := hst784.draws (w783.drawn + 1)
      generalize draws w783 (w783.drawn + 1) = w785 at hst786 ⊢
      refine LT (ptr p 0) 0 rfl rfl rfl (fun u788 hF789 => (x_load rfl rfl (run_loadVar_one ti_26 (hF789.2.2.2.1 _ _ (one_self _ _)) rfl))) ⟨hst786.rle', hst786.g 0, hst786.g 1, hst786.g 2, hst786.g 3, hst786.g 4, hst786.g 5, hst786.g 6, hst786.g 7, hst786.g 8, hst786.g 9⟩ ?_
      refine LP (ptr p 0) 1 rfl rfl rfl (fun u791 => rfl) ⟨hst786.rle', hst786.g 0, hst786.g 1, hst786.g 2, hst786.g 3, hst786.g 4, hst786.g 5, hst786.g 6, hst786.g 7, hst786.g 8, hst786.g 9⟩ ?_
      refine LP (ptr p 4) 2 rfl rfl rfl (fun u794 => (by kernel_rfl)) ⟨hst786.rle', hst786.g 0, hst786.g 1, hst786.g 2, hst786.g 3, hst786.g 4, hst786.g 5, hst786.g 6, hst786.g 7, hst786.g 8, hst786.g 9⟩ ?_
      refine LT (.map (some bm)) 3 rfl rfl rfl (fun u797 hF798 => (x_load rfl rfl (run_loadVar_one ti_65 (hF798.2.2.2.2.2.2.2.2.1 _ _ (one_self _ _)) rfl))) ⟨hst786.rle', hst786.g 0, hst786.g 1, hst786.g 2, hst786.g 3, hst786.g 4, hst786.g 5, hst786.g 6, hst786.g 7, hst786.g 8, hst786.g 9⟩ ?_
      refine LT (.agg #[(int k.1), (int k.2)]) 4 rfl rfl rfl (fun u800 hF801 => (x_load rfl rfl (run_loadVar_agg ti_43 (hF801.2.2.1 _ _ (one_self _ _)) (l := [(int k.1), (int k.2)]) rfl rfl))) ⟨hst786.rle', hst786.g 0, hst786.g 1, hst786.g 2, hst786.g 3, hst786.g 4, hst786.g 5, hst786.g 6, hst786.g 7, hst786.g 8, hst786.g 9⟩ ?_
      refine LT (ptr a 0) 5 rfl rfl rfl (fun u803 hF804 => x_lookup rfl rfl rfl (by have h_ := MapC.lookupP (w := u803) hM hF804.2.2.2.2.2.2.2.2.2.1 law43 mt_65 ti_81 k false none rfl; rw [hg] at h_; exact h_)) ⟨hst786.rle', hst786.g 0, hst786.g 1, hst786.g 2, hst786.g 3, hst786.g 4, hst786.g 5, hst786.g 6, hst786.g 7, hst786.g 8, hst786.g 9⟩ ?_
      refine LP (int 1) 6 rfl rfl rfl (fun u806 => rfl) ⟨hst786.rle', hst786.g 0, hst786.g 1, hst786.g 2, hst786.g 3, hst786.g 4, hst786.g 5, hst786.g 6, hst786.g 7, hst786.g 8, hst786.g 9⟩ ?_
      refine LP (ptr a 0) 7 rfl rfl rfl (fun u809 => rfl) ⟨hst786.rle', hst786.g 0, hst786.g 1, hst786.g 2, hst786.g 3, hst786.g 4, hst786.g 5, hst786.g 6, hst786.g 7, hst786.g 8, hst786.g 9⟩ ?_
      refine LP (ptr a 0) 8 rfl rfl rfl (fun u812 => (by kernel_rfl)) ⟨hst786.rle', hst786.g 0, hst786.g 1, hst786.g 2, hst786.g 3, hst786.g 4, hst786.g 5, hst786.g 6, hst786.g 7, hst786.g 8, hst786.g 9⟩ ?_
      refine LA_all [9] (by decide +kernel) (by simp) ?_
      intro i_ hi_
      simp only [List.mem_cons, List.not_mem_nil, or_false] at hi_
      subst hi_
      obtain ⟨w815, hr817, hst816⟩ := run_storeW (P := Tryd.prog) (b := a) (off := 0) (v := (int 1)) hst786 3 ti_3 rfl rfl rfl rfl rfl rfl
      change Step _ _ _ _ _ [one b782 (.cells #[(.iface 9 (.string ⟨#[119, 97, 114, 109]⟩)), (.iface 3 (int (min (r.count + 1) 1000000)))] 20 (0, 0)), one b721 (.cells #[(int k.1), (int k.2)] 43 (0, 0)), one b718 (.cells #[(ptr p 0)] 26 (0, 0)), one a (.cells #[(int 1), (int (r.calls + 1)), (int (min (r.count + 1) 1000000)), (int r.failures), (.map (some be))] 93 (0, 0)), cE, c2, one b1 (.cells #[(int k.1), (int k.2)] 43 (0, 0)), one p (.cells #[(int s.sample), (int s.warm), (int s.hot), (int s.cold), (.map (some bm)), v] 67 (0, 0)), cM, cD] at hst816
      refine One_skip (i := 9) rfl rfl (Want.plain rfl) (x_store rfl rfl rfl hr817) (fun h => absurd h (by decide +kernel)) ?_
      refine LA_done (by decide +kernel) ?_
      refine W_region_draw [14] (fun w => Le R (hp w) ∧ Le (one b782 (.cells #[(.iface 9 (.string ⟨#[119, 97, 114, 109]⟩)), (.iface 3 (int (min (r.count + 1) 1000000)))] 20 (0, 0))) (hp w) ∧ Le (one b721 (.cells #[(int k.1), (int k.2)] 43 (0, 0))) (hp w) ∧ Le (one b718 (.cells #[(ptr p 0)] 26 (0, 0))) (hp w) ∧ Le (one a (.cells #[(int 1), (int (r.calls + 1)), (int (min (r.count + 1) 1000000)), (int r.failures), (.map (some be))] 93 (0, 0))) (hp w) ∧ Le cE (hp w) ∧ Le c2 (hp w) ∧ Le (one b1 (.cells #[(int k.1), (int k.2)] 43 (0, 0))) (hp w) ∧ Le (one p (.cells #[(int s.sample), (int s.warm), (int s.hot), (int s.cold), (.map (some bm)), v] 67 (0, 0))) (hp w) ∧ Le cM (hp w)) hmix (by decide +kernel) (fun _ _ h => h) ?_
      have hst819 := hst816.draws (w815.drawn + 1)
      generalize draws w815 (w815.drawn + 1) = w818 at hst819 ⊢
      refine LT (ptr p 0) 0 rfl rfl rfl (fun u821 hF822 => (x_load rfl rfl (run_loadVar_one ti_26 (hF822.2.2.2.1 _ _ (one_self _ _)) rfl))) ⟨hst819.rle', hst819.g 0, hst819.g 1, hst819.g 2, hst819.g 3, hst819.g 4, hst819.g 5, hst819.g 6, hst819.g 7, hst819.g 8⟩ ?_
      refine LT (ptr p 0) 1 rfl rfl rfl (fun u824 hF825 => (x_load rfl rfl (run_loadVar_one ti_26 (hF825.2.2.2.1 _ _ (one_self _ _)) rfl))) ⟨hst819.rle', hst819.g 0, hst819.g 1, hst819.g 2, hst819.g 3, hst819.g 4, hst819.g 5, hst819.g 6, hst819.g 7, hst819.g 8⟩ ?_
      refine LP (ptr p 0) 2 rfl rfl rfl (fun u827 => rfl) ⟨hst819.rle', hst819.g 0, hst819.g 1, hst819.g 2, hst819.g 3, hst819.g 4, hst819.g 5, hst819.g 6, hst819.g 7, hst819.g 8⟩ ?_
      refine LP (ptr p 5) 3 rfl rfl rfl (fun u830 => (by kernel_rfl)) ⟨hst819.rle', hst819.g 0, hst819.g 1, hst819.g 2, hst819.g 3, hst819.g 4, hst819.g 5, hst819.g 6, hst819.g 7, hst819.g 8⟩ ?_
      refine LT v 4 rfl rfl rfl (fun u833 hF834 => (x_load rfl rfl (run_loadVar_one ti_36 (hF834.2.2.2.2.2.2.2.2.1 _ _ (one_self _ _)) rfl))) ⟨hst819.rle', hst819.g 0, hst819.g 1, hst819.g 2, hst819.g 3, hst819.g 4, hst819.g 5, hst819.g 6, hst819.g 7, hst819.g 8⟩ ?_
      refine LT (.agg #[(int k.1), (int k.2)]) 5 rfl rfl rfl (fun u836 hF837 => (x_load rfl rfl (run_loadVar_agg ti_43 (hF837.2.2.1 _ _ (one_self _ _)) (l := [(int k.1), (int k.2)]) rfl rfl))) ⟨hst819.rle', hst819.g 0, hst819.g 1, hst819.g 2, hst819.g 3, hst819.g 4, hst819.g 5, hst819.g 6, hst819.g 7, hst819.g 8⟩ ?_
      refine LP (int 1) 6 rfl rfl rfl (fun u839 => rfl) ⟨hst819.rle', hst819.g 0, hst819.g 1, hst819.g 2, hst819.g 3, hst819.g 4, hst819.g 5, hst819.g 6, hst819.g 7, hst819.g 8⟩ ?_
      refine LP (.slice (some ⟨b782, 0, none⟩) 2 2) 7 rfl rfl rfl (fun u842 => rfl) ⟨hst819.rle', hst819.g 0, hst819.g 1, hst819.g 2, hst819.g 3, hst819.g 4, hst819.g 5, hst819.g 6, hst819.g 7, hst819.g 8⟩ ?_
      refine LA_all [8] (by decide +kernel) (by simp) ?_
      intro i_ hi_
      simp only [List.mem_cons, List.not_mem_nil, or_false] at hi_
      subst hi_
      refine One_call (i := 8) rfl rfl rfl (Want.plain rfl) (x_call (vs := #[(.slice (some ⟨b782, 0, none⟩) 2 2)]) rfl rfl (by kernel_rfl) ent_40) (words_spec (w := w818) (R := hp w818) (xs := [Wd.s ⟨#[119, 97, 114, 109]⟩, Wd.i (min (r.count + 1) 1000000)]) (hT.mono hst819.rle') (Le.refl _) (OwnL.freeze (OwnL.lit (t := tyWd) (xs := [Wd.s ⟨#[119, 97, 114, 109]⟩, Wd.i (min (r.count + 1) 1000000)]) (T := 20) (R := R) (cs := [(.iface 9 (.string ⟨#[119, 97, 114, 109]⟩)), (.iface 3 (int (min (r.count + 1) 1000000)))]) (Encs.cons (show tyWd.rel _ _ [_] from rfl) (Encs.cons (show tyWd.rel _ _ [_] from rfl) Encs.nil)) rfl (Nat.le_of_ble_eq_true rfl)) hst819.rle' (hst819.g 0)) (Oks (Sm2 (Sm_s (by decide)) (Sm_i (by constructor <;> omega)))) (Nat.le_of_ble_eq_true rfl)) ?_
      rintro e849 w847 ⟨rfl, hw850⟩
      have hst848 := hst819.grown hw850
      refine ⟨_, rfl, (fun _ => ⟨hst848.rle', hst848.g 0, hst848.g 1, hst848.g 2, hst848.g 3, hst848.g 4, hst848.g 5, hst848.g 6, hst848.g 7, hst848.g 8⟩), ?_⟩
      refine LP (.agg #[(int k.1), (int k.2), (int 1), (.string (joinW [Wd.s ⟨#[119, 97, 114, 109]⟩, Wd.i (min (r.count + 1) 1000000)]))]) 9 rfl rfl rfl (fun u852 => (by kernel_rfl)) ⟨hst848.rle', hst848.g 0, hst848.g 1, hst848.g 2, hst848.g 3, hst848.g 4, hst848.g 5, hst848.g 6, hst848.g 7, hst848.g 8⟩ ?_
      refine LA_all [10] (by decide +kernel) (by simp) ?_
      intro i_ hi_
      simp only [List.mem_cons, List.not_mem_nil, or_false] at hi_
      subst hi_
      refine One_new hst848 (i := 10) (v := fun b => .slice (some ⟨b, 0, none⟩) 1 1) (ob := .cells #[(int k.1), (int k.2), (int 1), (.string (joinW [Wd.s ⟨#[119, 97, 114, 109]⟩, Wd.i (min (r.count + 1) 1000000)]))] 49 (0, 0)) rfl rfl rfl (Want.plain rfl) (by kernel_rfl) (fun b857 w858 hst859 => ?_)
      refine ⟨(fun _ => ⟨hst859.rle', hst859.g 1, hst859.g 2, hst859.g 3, hst859.g 4, hst859.g 5, hst859.g 6, hst859.g 7, hst859.g 8, hst859.g 9⟩), ?_⟩
      refine LA_all [11] (by decide +kernel) (by simp) ?_
      intro i_ hi_
      simp only [List.mem_cons, List.not_mem_nil, or_false] at hi_
      subst hi_
      refine One_append (j := 11) hst859 (t := 36) (e := 49) (ys := [Dec.mk k 1 (joinW [Wd.s ⟨#[119, 97, 114, 109]⟩, Wd.i (min (r.count + 1) 1000000)])]) (src := [(int k.1), (int k.2), (int 1), (.string (joinW [Wd.s ⟨#[119, 97, 114, 109]⟩, Wd.i (min (r.count + 1) 1000000)]))]) 10 rfl rfl rfl (Want.plain rfl) rfl rfl rfl sl_36 ti_49 rfl rfl rfl hD (src_own (hst859.b 0)) (Encs.one (tyDec_mk _ _ _ _ _)) rfl (by first | omega | (simp only [List.length_append, List.length_cons, List.length_nil]; omega)) (by first | (simp only [maxLen]; omega) | (simp only [List.length_append, List.length_cons, List.length_nil, maxLen]; omega)) (fun v863 c864 w865 ho866 hst867 => ?_)
      refine ⟨(fun _ => ⟨hst867.rle', hst867.g 2, hst867.g 3, hst867.g 4, hst867.g 5, hst867.g 6, hst867.g 7, hst867.g 8, hst867.g 9, hst867.g 10⟩), ?_⟩
      refine LP (ptr p 0) 12 rfl rfl rfl (fun u869 => rfl) ⟨hst867.rle', hst867.g 2, hst867.g 3, hst867.g 4, hst867.g 5, hst867.g 6, hst867.g 7, hst867.g 8, hst867.g 9, hst867.g 10⟩ ?_
      refine LP (ptr p 5) 13 rfl rfl rfl (fun u872 => (by kernel_rfl)) ⟨hst867.rle', hst867.g 2, hst867.g 3, hst867.g 4, hst867.g 5, hst867.g 6, hst867.g 7, hst867.g 8, hst867.g 9, hst867.g 10⟩ ?_
      refine LA_all [14] (by decide +kernel) (by simp) ?_
      intro i_ hi_
      simp only [List.mem_cons, List.not_mem_nil, or_false] at hi_
      subst hi_
      obtain ⟨a875, cap876, e877, hc878⟩ := ho866.value
      subst e877
      obtain ⟨w879, hr881, hst880⟩ := run_storeW (P := Tryd.prog) (b := p) (off := 5) (v := (.slice a875 ((s.decs ++ [Dec.mk k 1 (joinW [Wd.s ⟨#[119, 97, 114, 109]⟩, Wd.i (min (r.count + 1) 1000000)])]).length) cap876)) hst867 9 ti_36 rfl rfl rfl rfl rfl rfl
      change Step _ _ _ _ _ [c864, one b857 (.cells #[(int k.1), (int k.2), (int 1), (.string (joinW [Wd.s ⟨#[119, 97, 114, 109]⟩, Wd.i (min (r.count + 1) 1000000)]))] 49 (0, 0)), one b782 (.cells #[(.iface 9 (.string ⟨#[119, 97, 114, 109]⟩)), (.iface 3 (int (min (r.count + 1) 1000000)))] 20 (0, 0)), one b721 (.cells #[(int k.1), (int k.2)] 43 (0, 0)), one b718 (.cells #[(ptr p 0)] 26 (0, 0)), one a (.cells #[(int 1), (int (r.calls + 1)), (int (min (r.count + 1) 1000000)), (int r.failures), (.map (some be))] 93 (0, 0)), cE, c2, one b1 (.cells #[(int k.1), (int k.2)] 43 (0, 0)), one p (.cells #[(int s.sample), (int s.warm), (int s.hot), (int s.cold), (.map (some bm)), (.slice a875 ((s.decs ++ [Dec.mk k 1 (joinW [Wd.s ⟨#[119, 97, 114, 109]⟩, Wd.i (min (r.count + 1) 1000000)])]).length) cap876)] 67 (0, 0)), cM] at hst880
      refine One_skip (i := 14) rfl rfl (Want.plain rfl) (x_store rfl rfl rfl hr881) (fun h => absurd h (by decide +kernel)) ?_
      refine LA_done (by decide +kernel) ?_
      refine ⟨_, _, res_run (rs := []) (vs := []) Tryd.results60 .nil rfl, ?_⟩
      refine ⟨_, rfl, ?_⟩
      refine L_nil ?_
      refine W_seq ?_
      refine W_region_lit ?_
      refine Lq (.bool true) rfl rfl rfl rfl ?_
      refine L_nil ?_
      refine W_ret ?_
      refine ⟨_, _, res_run (rs := [.tmp 4]) (vs := [(.bool true)]) Tryd.results23 (.cons (.tmp rfl) .nil) rfl, ?_⟩
      have he := back_warm (s := s) hrc (of_decide_eq_false c676) (by simpa using c713) (eq_of_beq c745) (of_decide_eq_true c780)
      rw [he]
      obtain ⟨c', hst', hprof'⟩ := Prof.closeR (s := s.decide k { r with calls := r.calls + 1, count := min (r.count + 1) 1000000 } 1 (joinW [Wd.s ⟨#[119, 97, 114, 109]⟩, Wd.i (min (r.count + 1) 1000000)])) (r := ⟨1, r.calls + 1, min (r.count + 1) 1000000, r.failures, r.exits⟩) (((((hst880.front 7 rfl rfl).front 7 rfl rfl).front 7 rfl rfl).front 10 rfl rfl).front 10 rfl rfl) hM hE (fun c1 h d => hback _ c1 h d) ho866 (hok.decide k hro.count1 (by decide) (joinW_short (Oks (Sm2 (Sm_s (by decide)) (Sm_i (by constructor <;> omega)))) (Nat.le_of_ble_eq_true rfl)))
      exact ⟨_, _, _, rfl, hst'.keepN 1 rfl, c', rfl, rfl, hprof'⟩
     ·
      have q882 := of_decide_eq_false c780
      refine W_cond_false (by show Value.bool _ = _; exact congrArg Value.bool c780) ?_
      refine W_seq ?_
      refine W_region_draw [] (fun w => Le R (hp w) ∧ Le (one b721 (.cells #[(int k.1), (int k.2)] 43 (0, 0))) (hp w) ∧ Le (one b718 (.cells #[(ptr p 0)] 26 (0, 0))) (hp w) ∧ Le (one a (.cells #[(int r.tier), (int (r.calls + 1)), (int (min (r.count + 1) 1000000)), (int r.failures), (.map (some be))] 93 (0, 0))) (hp w) ∧ Le cE (hp w) ∧ Le c2 (hp w) ∧ Le (one b1 (.cells #[(int k.1), (int k.2)] 43 (0, 0))) (hp w) ∧ Le (one p (.cells #[(int s.sample), (int s.warm), (int s.hot), (int s.cold), (.map (some bm)), v] 67 (0, 0))) (hp w) ∧ Le cM (hp w) ∧ Le cD (hp w)) hmix (by decide +kernel) (fun _ _ h => h) ?_
      have hst884 := hst725.draws (w724.drawn + 1)
      generalize draws w724 (w724.drawn + 1) = w883 at hst884 ⊢
      refine LP (ptr a 0) 0 rfl rfl rfl (fun u886 => rfl) hst884.a9 ?_
      refine LP (ptr a 0) 1 rfl rfl rfl (fun u889 => rfl) hst884.a9 ?_
      refine LP (ptr a 0) 2 rfl rfl rfl (fun u892 => (by kernel_rfl)) hst884.a9 ?_
      refine LT (int r.tier) 3 rfl rfl rfl (fun u895 hF896 => (x_load rfl rfl (run_loadVar_one ti_3 (hF896.2.2.2.1 _ _ (one_self _ _)) rfl))) hst884.a9 ?_
      refine LP (.bool (r.tier == 1)) 4 rfl rfl rfl (fun u898 => (by kernel_rfl)) hst884.a9 ?_
      refine LP (.bool (r.tier == 1)) 5 rfl rfl rfl (fun u901 => rfl) hst884.a9 ?_
      rcases Bool.eq_false_or_eq_true (r.tier == 1) with c904 | c904
      ·
       have q905 := eq_of_beq c904
       refine LP (ptr a 0) 6 rfl rfl rfl (fun u907 => rfl) hst884.a9 ?_ (hw := (Want.of rfl rfl rfl rfl (by rw [c904]; rfl)))
       refine LP (ptr a 0) 7 rfl rfl rfl (fun u910 => rfl) hst884.a9 ?_ (hw := (Want.of rfl rfl rfl rfl (by rw [c904]; rfl)))
       refine LP (ptr a 2) 8 rfl rfl rfl (fun u913 => (by kernel_rfl)) hst884.a9 ?_ (hw := (Want.of rfl rfl rfl rfl (by rw [c904]; rfl)))
       refine LT (int (min (r.count + 1) 1000000)) 9 rfl rfl rfl (fun u916 hF917 => (x_load rfl rfl (run_loadVar_one ti_3 (hF917.2.2.2.1 _ _ (one_self _ _)) rfl))) hst884.a9 ?_ (hw := (Want.of rfl rfl rfl rfl (by rw [c904]; rfl)))
       refine LP (ptr p 0) 10 rfl rfl rfl (fun u919 => rfl) hst884.a9 ?_ (hw := (Want.of rfl rfl rfl rfl (by rw [c904]; rfl)))
       refine LP (ptr p 0) 11 rfl rfl rfl (fun u922 => rfl) hst884.a9 ?_ (hw := (Want.of rfl rfl rfl rfl (by rw [c904]; rfl)))
       refine LP (ptr p 2) 12 rfl rfl rfl (fun u925 => (by kernel_rfl)) hst884.a9 ?_ (hw := (Want.of rfl rfl rfl rfl (by rw [c904]; rfl)))
       refine LT (int s.hot) 13 rfl rfl rfl (fun u928 hF929 => (x_load rfl rfl (run_loadVar_one ti_3 (hF929.2.2.2.2.2.2.2.1 _ _ (one_self _ _)) rfl))) hst884.a9 ?_ (hw := (Want.of rfl rfl rfl rfl (by rw [c904]; rfl)))
       refine LP (.bool (decide (min (r.count + 1) 1000000 ≥ s.hot))) 14 rfl rfl rfl (fun u931 => (by kernel_rfl)) hst884.a9 ?_ (hw := (Want.of rfl rfl rfl rfl (by rw [c904]; rfl)))
       refine LP (.bool (decide (min (r.count + 1) 1000000 ≥ s.hot))) 15 rfl rfl rfl (fun u934 => (x_pick rfl rfl (by rw [c904]; rfl))) hst884.a9 ?_
       refine LP (.bool (decide (min (r.count + 1) 1000000 ≥ s.hot))) 16 rfl rfl rfl (fun u937 => rfl) hst884.a9 ?_
       refine LA_done (by decide +kernel) ?_
       rcases Bool.eq_false_or_eq_true (decide (min (r.count + 1) 1000000 ≥ s.hot)) with c939 | c939
       ·
        have q940 := of_decide_eq_true c939
        refine W_cond_true (by show Value.bool _ = _; exact congrArg Value.bool c939) ?_
        refine W_region_lit ?_
        refine Lq (.func (.func 60) #[] #[(ptr b718 0), (ptr b721 0)]) rfl rfl rfl rfl ?_
        refine Lq (.iface 9 (.string ⟨#[104, 111, 116]⟩)) rfl rfl rfl (by kernel_rfl) ?_
        refine Lq (ptr a 0) rfl rfl rfl rfl ?_
        refine Lq (ptr a 0) rfl rfl rfl rfl ?_
        refine Lq (ptr a 2) rfl rfl rfl (by kernel_rfl) ?_
        refine Lq (int (min (r.count + 1) 1000000)) rfl rfl rfl (x_load rfl rfl (run_loadVar_one ti_3 (hst884.b 2) rfl)) ?_
        refine Lq (.iface 3 (int (min (r.count + 1) 1000000))) rfl rfl rfl (by kernel_rfl) ?_
        refine L_new hst884 (v := fun b => .slice (some ⟨b, 0, none⟩) 2 2) (ob := .cells #[(.iface 9 (.string ⟨#[104, 111, 116]⟩)), (.iface 3 (int (min (r.count + 1) 1000000)))] 20 (0, 0)) rfl rfl rfl (by kernel_rfl) (fun b941 w942 hst943 => ?_)
        refine L_call rfl rfl rfl (x_callv (vs := #[(int 2), (.slice (some ⟨b941, 0, none⟩) 2 2), (ptr b718 0), (ptr b721 0)]) rfl rfl (by kernel_rfl) ent_60) ?_ (fun _ _ h => h)
        refine calls_of_W (n := 29) Tryd.func60 rfl Tryd.ntmps60 (Nat.le_of_ble_eq_true rfl) ?_
        refine W_seq ?_
        refine W_region_draw [9] (fun w => Le R (hp w) ∧ Le (one b941 (.cells #[(.iface 9 (.string ⟨#[104, 111, 116]⟩)), (.iface 3 (int (min (r.count + 1) 1000000)))] 20 (0, 0))) (hp w) ∧ Le (one b721 (.cells #[(int k.1), (int k.2)] 43 (0, 0))) (hp w) ∧ Le (one b718 (.cells #[(ptr p 0)] 26 (0, 0))) (hp w) ∧ Le (one a (.cells #[(int r.tier), (int (r.calls + 1)), (int (min (r.count + 1) 1000000)), (int r.failures), (.map (some be))] 93 (0, 0))) (hp w) ∧ Le cE (hp w) ∧ Le c2 (hp w) ∧ Le (one b1 (.cells #[(int k.1), (int k.2)] 43 (0, 0))) (hp w) ∧ Le (one p (.cells #[(int s.sample), (int s.warm), (int s.hot), (int s.cold), (.map (some bm)), v] 67 (0, 0))) (hp w) ∧ Le cM (hp w) ∧ Le cD (hp w)) hmix (by decide +kernel) (fun _ _ h => h) ?_
        have hst945 := hst943.draws (w942.drawn + 1)
        generalize draws w942 (w942.drawn + 1) = w944 at hst945 ⊢
        refine LT (ptr p 0) 0 rfl rfl rfl (fun u947 hF948 => (x_load rfl rfl (run_loadVar_one ti_26 (hF948.2.2.2.1 _ _ (one_self _ _)) rfl))) ⟨hst945.rle', hst945.g 0, hst945.g 1, hst945.g 2, hst945.g 3, hst945.g 4, hst945.g 5, hst945.g 6, hst945.g 7, hst945.g 8, hst945.g 9⟩ ?_
        refine LP (ptr p 0) 1 rfl rfl rfl (fun u950 => rfl) ⟨hst945.rle', hst945.g 0, hst945.g 1, hst945.g 2, hst945.g 3, hst945.g 4, hst945.g 5, hst945.g 6, hst945.g 7, hst945.g 8, hst945.g 9⟩ ?_
        refine LP (ptr p 4) 2 rfl rfl rfl (fun u953 => (by kernel_rfl)) ⟨hst945.rle', hst945.g 0, hst945.g 1, hst945.g 2, hst945.g 3, hst945.g 4, hst945.g 5, hst945.g 6, hst945.g 7, hst945.g 8, hst945.g 9⟩ ?_
        refine LT (.map (some bm)) 3 rfl rfl rfl (fun u956 hF957 => (x_load rfl rfl (run_loadVar_one ti_65 (hF957.2.2.2.2.2.2.2.2.1 _ _ (one_self _ _)) rfl))) ⟨hst945.rle', hst945.g 0, hst945.g 1, hst945.g 2, hst945.g 3, hst945.g 4, hst945.g 5, hst945.g 6, hst945.g 7, hst945.g 8, hst945.g 9⟩ ?_
        refine LT (.agg #[(int k.1), (int k.2)]) 4 rfl rfl rfl (fun u959 hF960 => (x_load rfl rfl (run_loadVar_agg ti_43 (hF960.2.2.1 _ _ (one_self _ _)) (l := [(int k.1), (int k.2)]) rfl rfl))) ⟨hst945.rle', hst945.g 0, hst945.g 1, hst945.g 2, hst945.g 3, hst945.g 4, hst945.g 5, hst945.g 6, hst945.g 7, hst945.g 8, hst945.g 9⟩ ?_
        refine LT (ptr a 0) 5 rfl rfl rfl (fun u962 hF963 => x_lookup rfl rfl rfl (by have h_ := MapC.lookupP (w := u962) hM hF963.2.2.2.2.2.2.2.2.2.1 law43 mt_65 ti_81 k false none rfl; rw [hg] at h_; exact h_)) ⟨hst945.rle', hst945.g 0, hst945.g 1, hst945.g 2, hst945.g 3, hst945.g 4, hst945.g 5, hst945.g 6, hst945.g 7, hst945.g 8, hst945.g 9⟩ ?_
        refine LP (int 2) 6 rfl rfl rfl (fun u965 => rfl) ⟨hst945.rle', hst945.g 0, hst945.g 1, hst945.g 2, hst945.g 3, hst945.g 4, hst945.g 5, hst945.g 6, hst945.g 7, hst945.g 8, hst945.g 9⟩ ?_
        refine LP (ptr a 0) 7 rfl rfl rfl (fun u968 => rfl) ⟨hst945.rle', hst945.g 0, hst945.g 1, hst945.g 2, hst945.g 3, hst945.g 4, hst945.g 5, hst945.g 6, hst945.g 7, hst945.g 8, hst945.g 9⟩ ?_
        refine LP (ptr a 0) 8 rfl rfl rfl (fun u971 => (by kernel_rfl)) ⟨hst945.rle', hst945.g 0, hst945.g 1, hst945.g 2, hst945.g 3, hst945.g 4, hst945.g 5, hst945.g 6, hst945.g 7, hst945.g 8, hst945.g 9⟩ ?_
        refine LA_all [9] (by decide +kernel) (by simp) ?_
        intro i_ hi_
        simp only [List.mem_cons, List.not_mem_nil, or_false] at hi_
        subst hi_
        obtain ⟨w974, hr976, hst975⟩ := run_storeW (P := Tryd.prog) (b := a) (off := 0) (v := (int 2)) hst945 3 ti_3 rfl rfl rfl rfl rfl rfl
        change Step _ _ _ _ _ [one b941 (.cells #[(.iface 9 (.string ⟨#[104, 111, 116]⟩)), (.iface 3 (int (min (r.count + 1) 1000000)))] 20 (0, 0)), one b721 (.cells #[(int k.1), (int k.2)] 43 (0, 0)), one b718 (.cells #[(ptr p 0)] 26 (0, 0)), one a (.cells #[(int 2), (int (r.calls + 1)), (int (min (r.count + 1) 1000000)), (int r.failures), (.map (some be))] 93 (0, 0)), cE, c2, one b1 (.cells #[(int k.1), (int k.2)] 43 (0, 0)), one p (.cells #[(int s.sample), (int s.warm), (int s.hot), (int s.cold), (.map (some bm)), v] 67 (0, 0)), cM, cD] at hst975
        refine One_skip (i := 9) rfl rfl (Want.plain rfl) (x_store rfl rfl rfl hr976) (fun h => absurd h (by decide +kernel)) ?_
        refine LA_done (by decide +kernel) ?_
        refine W_region_draw [14] (fun w => Le R (hp w) ∧ Le (one b941 (.cells #[(.iface 9 (.string ⟨#[104, 111, 116]⟩)), (.iface 3 (int (min (r.count + 1) 1000000)))] 20 (0, 0))) (hp w) ∧ Le (one b721 (.cells #[(int k.1), (int k.2)] 43 (0, 0))) (hp w) ∧ Le (one b718 (.cells #[(ptr p 0)] 26 (0, 0))) (hp w) ∧ Le (one a (.cells #[(int 2), (int (r.calls + 1)), (int (min (r.count + 1) 1000000)), (int r.failures), (.map (some be))] 93 (0, 0))) (hp w) ∧ Le cE (hp w) ∧ Le c2 (hp w) ∧ Le (one b1 (.cells #[(int k.1), (int k.2)] 43 (0, 0))) (hp w) ∧ Le (one p (.cells #[(int s.sample), (int s.warm), (int s.hot), (int s.cold), (.map (some bm)), v] 67 (0, 0))) (hp w) ∧ Le cM (hp w)) hmix (by decide +kernel) (fun _ _ h => h) ?_
        have hst978 := hst975.draws (w974.drawn + 1)
        generalize draws w974 (w974.drawn + 1) = w977 at hst978 ⊢
        refine LT (ptr p 0) 0 rfl rfl rfl (fun u980 hF981 => (x_load rfl rfl (run_loadVar_one ti_26 (hF981.2.2.2.1 _ _ (one_self _ _)) rfl))) ⟨hst978.rle', hst978.g 0, hst978.g 1, hst978.g 2, hst978.g 3, hst978.g 4, hst978.g 5, hst978.g 6, hst978.g 7, hst978.g 8⟩ ?_
        refine LT (ptr p 0) 1 rfl rfl rfl (fun u983 hF984 => (x_load rfl rfl (run_loadVar_one ti_26 (hF984.2.2.2.1 _ _ (one_self _ _)) rfl))) ⟨hst978.rle', hst978.g 0, hst978.g 1, hst978.g 2, hst978.g 3, hst978.g 4, hst978.g 5, hst978.g 6, hst978.g 7, hst978.g 8⟩ ?_
        refine LP (ptr p 0) 2 rfl rfl rfl (fun u986 => rfl) ⟨hst978.rle', hst978.g 0, hst978.g 1, hst978.g 2, hst978.g 3, hst978.g 4, hst978.g 5, hst978.g 6, hst978.g 7, hst978.g 8⟩ ?_
        refine LP (ptr p 5) 3 rfl rfl rfl (fun u989 => (by kernel_rfl)) ⟨hst978.rle', hst978.g 0, hst978.g 1, hst978.g 2, hst978.g 3, hst978.g 4, hst978.g 5, hst978.g 6, hst978.g 7, hst978.g 8⟩ ?_
        refine LT v 4 rfl rfl rfl (fun u992 hF993 => (x_load rfl rfl (run_loadVar_one ti_36 (hF993.2.2.2.2.2.2.2.2.1 _ _ (one_self _ _)) rfl))) ⟨hst978.rle', hst978.g 0, hst978.g 1, hst978.g 2, hst978.g 3, hst978.g 4, hst978.g 5, hst978.g 6, hst978.g 7, hst978.g 8⟩ ?_
        refine LT (.agg #[(int k.1), (int k.2)]) 5 rfl rfl rfl (fun u995 hF996 => (x_load rfl rfl (run_loadVar_agg ti_43 (hF996.2.2.1 _ _ (one_self _ _)) (l := [(int k.1), (int k.2)]) rfl rfl))) ⟨hst978.rle', hst978.g 0, hst978.g 1, hst978.g 2, hst978.g 3, hst978.g 4, hst978.g 5, hst978.g 6, hst978.g 7, hst978.g 8⟩ ?_
        refine LP (int 2) 6 rfl rfl rfl (fun u998 => rfl) ⟨hst978.rle', hst978.g 0, hst978.g 1, hst978.g 2, hst978.g 3, hst978.g 4, hst978.g 5, hst978.g 6, hst978.g 7, hst978.g 8⟩ ?_
        refine LP (.slice (some ⟨b941, 0, none⟩) 2 2) 7 rfl rfl rfl (fun u1001 => rfl) ⟨hst978.rle', hst978.g 0, hst978.g 1, hst978.g 2, hst978.g 3, hst978.g 4, hst978.g 5, hst978.g 6, hst978.g 7, hst978.g 8⟩ ?_
        refine LA_all [8] (by decide +kernel) (by simp) ?_
        intro i_ hi_
        simp only [List.mem_cons, List.not_mem_nil, or_false] at hi_
        subst hi_
        refine One_call (i := 8) rfl rfl rfl (Want.plain rfl) (x_call (vs := #[(.slice (some ⟨b941, 0, none⟩) 2 2)]) rfl rfl (by kernel_rfl) ent_40) (words_spec (w := w977) (R := hp w977) (xs := [Wd.s ⟨#[104, 111, 116]⟩, Wd.i (min (r.count + 1) 1000000)]) (hT.mono hst978.rle') (Le.refl _) (OwnL.freeze (OwnL.lit (t := tyWd) (xs := [Wd.s ⟨#[104, 111, 116]⟩, Wd.i (min (r.count + 1) 1000000)]) (T := 20) (R := R) (cs := [(.iface 9 (.string ⟨#[104, 111, 116]⟩)), (.iface 3 (int (min (r.count + 1) 1000000)))]) (Encs.cons (show tyWd.rel _ _ [_] from rfl) (Encs.cons (show tyWd.rel _ _ [_] from rfl) Encs.nil)) rfl (Nat.le_of_ble_eq_true rfl)) hst978.rle' (hst978.g 0)) (Oks (Sm2 (Sm_s (by decide)) (Sm_i (by constructor <;> omega)))) (Nat.le_of_ble_eq_true rfl)) ?_
        rintro e1008 w1006 ⟨rfl, hw1009⟩
        have hst1007 := hst978.grown hw1009
        refine ⟨_, rfl, (fun _ => ⟨hst1007.rle', hst1007.g 0, hst1007.g 1, hst1007.g 2, hst1007.g 3, hst1007.g 4, hst1007.g 5, hst1007.g 6, hst1007.g 7, hst1007.g 8⟩), ?_⟩
        refine LP (.agg #[(int k.1), (int k.2), (int 2), (.string (joinW [Wd.s ⟨#[104, 111, 116]⟩, Wd.i (min (r.count + 1) 1000000)]))]) 9 rfl rfl rfl (fun u1011 => (by kernel_rfl)) ⟨hst1007.rle', hst1007.g 0, hst1007.g 1, hst1007.g 2, hst1007.g 3, hst1007.g 4, hst1007.g 5, hst1007.g 6, hst1007.g 7, hst1007.g 8⟩ ?_
        refine LA_all [10] (by decide +kernel) (by simp) ?_
        intro i_ hi_
        simp only [List.mem_cons, List.not_mem_nil, or_false] at hi_
        subst hi_
        refine One_new hst1007 (i := 10) (v := fun b => .slice (some ⟨b, 0, none⟩) 1 1) (ob := .cells #[(int k.1), (int k.2), (int 2), (.string (joinW [Wd.s ⟨#[104, 111, 116]⟩, Wd.i (min (r.count + 1) 1000000)]))] 49 (0, 0)) rfl rfl rfl (Want.plain rfl) (by kernel_rfl) (fun b1016 w1017 hst1018 => ?_)
        refine ⟨(fun _ => ⟨hst1018.rle', hst1018.g 1, hst1018.g 2, hst1018.g 3, hst1018.g 4, hst1018.g 5, hst1018.g 6, hst1018.g 7, hst1018.g 8, hst1018.g 9⟩), ?_⟩
        refine LA_all [11] (by decide +kernel) (by simp) ?_
        intro i_ hi_
        simp only [List.mem_cons, List.not_mem_nil, or_false] at hi_
        subst hi_
        refine One_append (j := 11) hst1018 (t := 36) (e := 49) (ys := [Dec.mk k 2 (joinW [Wd.s ⟨#[104, 111, 116]⟩, Wd.i (min (r.count + 1) 1000000)])]) (src := [(int k.1), (int k.2), (int 2), (.string (joinW [Wd.s ⟨#[104, 111, 116]⟩, Wd.i (min (r.count + 1) 1000000)]))]) 10 rfl rfl rfl (Want.plain rfl) rfl rfl rfl sl_36 ti_49 rfl rfl rfl hD (src_own (hst1018.b 0)) (Encs.one (tyDec_mk _ _ _ _ _)) rfl (by first | omega | (simp only [List.length_append, List.length_cons, List.length_nil]; omega)) (by first | (simp only [maxLen]; omega) | (simp only [List.length_append, List.length_cons, List.length_nil, maxLen]; omega)) (fun v1022 c1023 w1024 ho1025 hst1026 => ?_)
        refine ⟨(fun _ => ⟨hst1026.rle', hst1026.g 2, hst1026.g 3, hst1026.g 4, hst1026.g 5, hst1026.g 6, hst1026.g 7, hst1026.g 8, hst1026.g 9, hst1026.g 10⟩), ?_⟩
        refine LP (ptr p 0) 12 rfl rfl rfl (fun u1028 => rfl) ⟨hst1026.rle', hst1026.g 2, hst1026.g 3, hst1026.g 4, hst1026.g 5, hst1026.g 6, hst1026.g 7, hst1026.g 8, hst1026.g 9, hst1026.g 10⟩ ?_
        refine LP (ptr p 5) 13 rfl rfl rfl (fun u1031 => (by kernel_rfl)) ⟨hst1026.rle', hst1026.g 2, hst1026.g 3, hst1026.g 4, hst1026.g 5, hst1026.g 6, hst1026.g 7, hst1026.g 8, hst1026.g 9, hst1026.g 10⟩ ?_
        refine LA_all [14] (by decide +kernel) (by simp) ?_
        intro i_ hi_
        simp only [List.mem_cons, List.not_mem_nil, or_false] at hi_
        subst hi_
        obtain ⟨a1034, cap1035, e1036, hc1037⟩ := ho1025.value
        subst e1036
        obtain ⟨w1038, hr1040, hst1039⟩ := run_storeW (P := Tryd.prog) (b := p) (off := 5) (v := (.slice a1034 ((s.decs ++ [Dec.mk k 2 (joinW [Wd.s ⟨#[104, 111, 116]⟩, Wd.i (min (r.count + 1) 1000000)])]).length) cap1035)) hst1026 9 ti_36 rfl rfl rfl rfl rfl rfl
        change Step _ _ _ _ _ [c1023, one b1016 (.cells #[(int k.1), (int k.2), (int 2), (.string (joinW [Wd.s ⟨#[104, 111, 116]⟩, Wd.i (min (r.count + 1) 1000000)]))] 49 (0, 0)), one b941 (.cells #[(.iface 9 (.string ⟨#[104, 111, 116]⟩)), (.iface 3 (int (min (r.count + 1) 1000000)))] 20 (0, 0)), one b721 (.cells #[(int k.1), (int k.2)] 43 (0, 0)), one b718 (.cells #[(ptr p 0)] 26 (0, 0)), one a (.cells #[(int 2), (int (r.calls + 1)), (int (min (r.count + 1) 1000000)), (int r.failures), (.map (some be))] 93 (0, 0)), cE, c2, one b1 (.cells #[(int k.1), (int k.2)] 43 (0, 0)), one p (.cells #[(int s.sample), (int s.warm), (int s.hot), (int s.cold), (.map (some bm)), (.slice a1034 ((s.decs ++ [Dec.mk k 2 (joinW [Wd.s ⟨#[104, 111, 116]⟩, Wd.i (min (r.count + 1) 1000000)])]).length) cap1035)] 67 (0, 0)), cM] at hst1039
        refine One_skip (i := 14) rfl rfl (Want.plain rfl) (x_store rfl rfl rfl hr1040) (fun h => absurd h (by decide +kernel)) ?_
        refine LA_done (by decide +kernel) ?_
        refine ⟨_, _, res_run (rs := []) (vs := []) Tryd.results60 .nil rfl, ?_⟩
        refine ⟨_, rfl, ?_⟩
        refine L_nil ?_
        refine W_seq ?_
        refine W_region_lit ?_
        refine Lq (.bool true) rfl rfl rfl rfl ?_
        refine L_nil ?_
        refine W_ret ?_
        refine ⟨_, _, res_run (rs := [.tmp 4]) (vs := [(.bool true)]) Tryd.results23 (.cons (.tmp rfl) .nil) rfl, ?_⟩
        have he := back_hot (s := s) hrc (of_decide_eq_false c676) (by simpa using c713) (eq_of_beq c904) (of_decide_eq_true c939)
        rw [he]
        obtain ⟨c', hst', hprof'⟩ := Prof.closeR (s := s.decide k { r with calls := r.calls + 1, count := min (r.count + 1) 1000000 } 2 (joinW [Wd.s ⟨#[104, 111, 116]⟩, Wd.i (min (r.count + 1) 1000000)])) (r := ⟨2, r.calls + 1, min (r.count + 1) 1000000, r.failures, r.exits⟩) (((((hst1039.front 7 rfl rfl).front 7 rfl rfl).front 7 rfl rfl).front 10 rfl rfl).front 10 rfl rfl) hM hE (fun c1 h d => hback _ c1 h d) ho1025 (hok.decide k hro.count1 (by decide) (joinW_short (Oks (Sm2 (Sm_s (by decide)) (Sm_i (by constructor <;> omega)))) (Nat.le_of_ble_eq_true rfl)))
        exact ⟨_, _, _, rfl, hst'.keepN 1 rfl, c', rfl, rfl, hprof'⟩
       ·
        have q1041 := of_decide_eq_false c939
        refine W_cond_false (by show Value.bool _ = _; exact congrArg Value.bool c939) ?_
        refine W_seq ?_
        refine W_region_lit ?_
        refine Lq (.bool false) rfl rfl rfl rfl ?_
        refine L_nil ?_
        refine W_ret ?_
        refine ⟨_, _, res_run (rs := [.tmp 4]) (vs := [(.bool false)]) Tryd.results23 (.cons (.tmp rfl) .nil) rfl, ?_⟩
        have he := back_no (s := s) hrc (of_decide_eq_false c676) (by simpa using c713) (fun h => (of_decide_eq_false c780) h.2) (fun h => (of_decide_eq_false c939) h.2)
        rw [he]
        obtain ⟨c', hst', hprof'⟩ := Prof.closeR (s := s.put k { r with calls := r.calls + 1, count := min (r.count + 1) 1000000 }) (r := ⟨r.tier, r.calls + 1, min (r.count + 1) 1000000, r.failures, r.exits⟩) ((((((hst884.front 8 rfl rfl).front 5 rfl rfl).front 5 rfl rfl).front 5 rfl rfl).front 8 rfl rfl).front 8 rfl rfl) hM hE (fun c1 h d => hback _ c1 h d) hD (hok.put k hro.count1)
        exact ⟨_, _, _, rfl, hst'.keepN 1 rfl, c', rfl, rfl, hprof'⟩
      ·
       have q1042 := ne_of_beq_false c904
       refine LV 6 rfl rfl rfl hst884.a9 ?_ (hw := (Want.of rfl rfl rfl rfl (by rw [c904]; rfl)))
       refine LV 7 rfl rfl rfl hst884.a9 ?_ (hw := (Want.of rfl rfl rfl rfl (by rw [c904]; rfl)))
       refine LV 8 rfl rfl rfl hst884.a9 ?_ (hw := (Want.of rfl rfl rfl rfl (by rw [c904]; rfl)))
       refine LV 9 rfl rfl rfl hst884.a9 ?_ (hw := (Want.of rfl rfl rfl rfl (by rw [c904]; rfl)))
       refine LV 10 rfl rfl rfl hst884.a9 ?_ (hw := (Want.of rfl rfl rfl rfl (by rw [c904]; rfl)))
       refine LV 11 rfl rfl rfl hst884.a9 ?_ (hw := (Want.of rfl rfl rfl rfl (by rw [c904]; rfl)))
       refine LV 12 rfl rfl rfl hst884.a9 ?_ (hw := (Want.of rfl rfl rfl rfl (by rw [c904]; rfl)))
       refine LV 13 rfl rfl rfl hst884.a9 ?_ (hw := (Want.of rfl rfl rfl rfl (by rw [c904]; rfl)))
       refine LV 14 rfl rfl rfl hst884.a9 ?_ (hw := (Want.of rfl rfl rfl rfl (by rw [c904]; rfl)))
       refine LP (.bool false) 15 rfl rfl rfl (fun u1053 => (x_pick rfl rfl (by rw [c904]; rfl))) hst884.a9 ?_
       refine LP (.bool false) 16 rfl rfl rfl (fun u1056 => rfl) hst884.a9 ?_
       refine LA_done (by decide +kernel) ?_
       refine W_cond_false (by show Value.bool _ = _; exact congrArg Value.bool rfl) ?_
       refine W_seq ?_
       refine W_region_lit ?_
       refine Lq (.bool false) rfl rfl rfl rfl ?_
       refine L_nil ?_
       refine W_ret ?_
       refine ⟨_, _, res_run (rs := [.tmp 4]) (vs := [(.bool false)]) Tryd.results23 (.cons (.tmp rfl) .nil) rfl, ?_⟩
       have he := back_no (s := s) hrc (of_decide_eq_false c676) (by simpa using c713) (fun h => (of_decide_eq_false c780) h.2) (fun h => (ne_of_beq_false c904) h.1)
       rw [he]
       obtain ⟨c', hst', hprof'⟩ := Prof.closeR (s := s.put k { r with calls := r.calls + 1, count := min (r.count + 1) 1000000 }) (r := ⟨r.tier, r.calls + 1, min (r.count + 1) 1000000, r.failures, r.exits⟩) ((((((hst884.front 8 rfl rfl).front 5 rfl rfl).front 5 rfl rfl).front 5 rfl rfl).front 8 rfl rfl).front 8 rfl rfl) hM hE (fun c1 h d => hback _ c1 h d) hD (hok.put k hro.count1)
       exact ⟨_, _, _, rfl, hst'.keepN 1 rfl, c', rfl, rfl, hprof'⟩
    ·
     have q1058 := ne_of_beq_false c745
     refine LV 6 rfl rfl rfl hst725.a9 ?_ (hw := (Want.of rfl rfl rfl rfl (by rw [c745]; rfl)))
     refine LV 7 rfl rfl rfl hst725.a9 ?_ (hw := (Want.of rfl rfl rfl rfl (by rw [c745]; rfl)))
     refine LV 8 rfl rfl rfl hst725.a9 ?_ (hw := (Want.of rfl rfl rfl rfl (by rw [c745]; rfl)))
     refine LV 9 rfl rfl rfl hst725.a9 ?_ (hw := (Want.of rfl rfl rfl rfl (by rw [c745]; rfl)))
     refine LV 10 rfl rfl rfl hst725.a9 ?_ (hw := (Want.of rfl rfl rfl rfl (by rw [c745]; rfl)))
     refine LV 11 rfl rfl rfl hst725.a9 ?_ (hw := (Want.of rfl rfl rfl rfl (by rw [c745]; rfl)))
     refine LV 12 rfl rfl rfl hst725.a9 ?_ (hw := (Want.of rfl rfl rfl rfl (by rw [c745]; rfl)))
     refine LV 13 rfl rfl rfl hst725.a9 ?_ (hw := (Want.of rfl rfl rfl rfl (by rw [c745]; rfl)))
     refine LV 14 rfl rfl rfl hst725.a9 ?_ (hw := (Want.of rfl rfl rfl rfl (by rw [c745]; rfl)))
     refine LP (.bool false) 15 rfl rfl rfl (fun u1069 => (x_pick rfl rfl (by rw [c745]; rfl))) hst725.a9 ?_
     refine LP (.bool false) 16 rfl rfl rfl (fun u1072 => rfl) hst725.a9 ?_
     refine LA_done (by decide +kernel) ?_
     refine W_cond_false (by show Value.bool _ = _; exact congrArg Value.bool rfl) ?_
     refine W_seq ?_
     refine W_region_draw [] (fun w => Le R (hp w) ∧ Le (one b721 (.cells #[(int k.1), (int k.2)] 43 (0, 0))) (hp w) ∧ Le (one b718 (.cells #[(ptr p 0)] 26 (0, 0))) (hp w) ∧ Le (one a (.cells #[(int r.tier), (int (r.calls + 1)), (int (min (r.count + 1) 1000000)), (int r.failures), (.map (some be))] 93 (0, 0))) (hp w) ∧ Le cE (hp w) ∧ Le c2 (hp w) ∧ Le (one b1 (.cells #[(int k.1), (int k.2)] 43 (0, 0))) (hp w) ∧ Le (one p (.cells #[(int s.sample), (int s.warm), (int s.hot), (int s.cold), (.map (some bm)), v] 67 (0, 0))) (hp w) ∧ Le cM (hp w) ∧ Le cD (hp w)) hmix (by decide +kernel) (fun _ _ h => h) ?_
     have hst1075 := hst725.draws (w724.drawn + 1)
     generalize draws w724 (w724.drawn + 1) = w1074 at hst1075 ⊢
     refine LP (ptr a 0) 0 rfl rfl rfl (fun u1077 => rfl) hst1075.a9 ?_
     refine LP (ptr a 0) 1 rfl rfl rfl (fun u1080 => rfl) hst1075.a9 ?_
     refine LP (ptr a 0) 2 rfl rfl rfl (fun u1083 => (by kernel_rfl)) hst1075.a9 ?_
     refine LT (int r.tier) 3 rfl rfl rfl (fun u1086 hF1087 => (x_load rfl rfl (run_loadVar_one ti_3 (hF1087.2.2.2.1 _ _ (one_self _ _)) rfl))) hst1075.a9 ?_
     refine LP (.bool (r.tier == 1)) 4 rfl rfl rfl (fun u1089 => (by kernel_rfl)) hst1075.a9 ?_
     refine LP (.bool (r.tier == 1)) 5 rfl rfl rfl (fun u1092 => rfl) hst1075.a9 ?_
     rcases Bool.eq_false_or_eq_true (r.tier == 1) with c1095 | c1095
     ·
      have q1096 := eq_of_beq c1095
      refine LP (ptr a 0) 6 rfl rfl rfl (fun u1098 => rfl) hst1075.a9 ?_ (hw := (Want.of rfl rfl rfl rfl (by rw [c1095]; rfl)))
      refine LP (ptr a 0) 7 rfl rfl rfl (fun u1101 => rfl) hst1075.a9 ?_ (hw := (Want.of rfl rfl rfl rfl (by rw [c1095]; rfl)))
      refine LP (ptr a 2) 8 rfl rfl rfl (fun u1104 => (by kernel_rfl)) hst1075.a9 ?_ (hw := (Want.of rfl rfl rfl rfl (by rw [c1095]; rfl)))
      refine LT (int (min (r.count + 1) 1000000)) 9 rfl rfl rfl (fun u1107 hF1108 => (x_load rfl rfl (run_loadVar_one ti_3 (hF1108.2.2.2.1 _ _ (one_self _ _)) rfl))) hst1075.a9 ?_ (hw := (Want.of rfl rfl rfl rfl (by rw [c1095]; rfl)))
      refine LP (ptr p 0) 10 rfl rfl rfl (fun u1110 => rfl) hst1075.a9 ?_ (hw := (Want.of rfl rfl rfl rfl (by rw [c1095]; rfl)))
      refine LP (ptr p 0) 11 rfl rfl rfl (fun u1113 => rfl) hst1075.a9 ?_ (hw := (Want.of rfl rfl rfl rfl (by rw [c1095]; rfl)))
      refine LP (ptr p 2) 12 rfl rfl rfl (fun u1116 => (by kernel_rfl)) hst1075.a9 ?_ (hw := (Want.of rfl rfl rfl rfl (by rw [c1095]; rfl)))
      refine LT (int s.hot) 13 rfl rfl rfl (fun u1119 hF1120 => (x_load rfl rfl (run_loadVar_one ti_3 (hF1120.2.2.2.2.2.2.2.1 _ _ (one_self _ _)) rfl))) hst1075.a9 ?_ (hw := (Want.of rfl rfl rfl rfl (by rw [c1095]; rfl)))
      refine LP (.bool (decide (min (r.count + 1) 1000000 ≥ s.hot))) 14 rfl rfl rfl (fun u1122 => (by kernel_rfl)) hst1075.a9 ?_ (hw := (Want.of rfl rfl rfl rfl (by rw [c1095]; rfl)))
      refine LP (.bool (decide (min (r.count + 1) 1000000 ≥ s.hot))) 15 rfl rfl rfl (fun u1125 => (x_pick rfl rfl (by rw [c1095]; rfl))) hst1075.a9 ?_
      refine LP (.bool (decide (min (r.count + 1) 1000000 ≥ s.hot))) 16 rfl rfl rfl (fun u1128 => rfl) hst1075.a9 ?_
      refine LA_done (by decide +kernel) ?_
      rcases Bool.eq_false_or_eq_true (decide (min (r.count + 1) 1000000 ≥ s.hot)) with c1130 | c1130
      ·
       have q1131 := of_decide_eq_true c1130
       refine W_cond_true (by show Value.bool _ = _; exact congrArg Value.bool c1130) ?_
       refine W_region_lit ?_
       refine Lq (.func (.func 60) #[] #[(ptr b718 0), (ptr b721 0)]) rfl rfl rfl rfl ?_
       refine Lq (.iface 9 (.string ⟨#[104, 111, 116]⟩)) rfl rfl rfl (by kernel_rfl) ?_
       refine Lq (ptr a 0) rfl rfl rfl rfl ?_
       refine Lq (ptr a 0) rfl rfl rfl rfl ?_
       refine Lq (ptr a 2) rfl rfl rfl (by kernel_rfl) ?_
       refine Lq (int (min (r.count + 1) 1000000)) rfl rfl rfl (x_load rfl rfl (run_loadVar_one ti_3 (hst1075.b 2) rfl)) ?_
       refine Lq (.iface 3 (int (min (r.count + 1) 1000000))) rfl rfl rfl (by kernel_rfl) ?_
       refine L_new hst1075 (v := fun b => .slice (some ⟨b, 0, none⟩) 2 2) (ob := .cells #[(.iface 9 (.string ⟨#[104, 111, 116]⟩)), (.iface 3 (int (min (r.count + 1) 1000000)))] 20 (0, 0)) rfl rfl rfl (by kernel_rfl) (fun b1132 w1133 hst1134 => ?_)
       refine L_call rfl rfl rfl (x_callv (vs := #[(int 2), (.slice (some ⟨b1132, 0, none⟩) 2 2), (ptr b718 0), (ptr b721 0)]) rfl rfl (by kernel_rfl) ent_60) ?_ (fun _ _ h => h)
       refine calls_of_W (n := 29) Tryd.func60 rfl Tryd.ntmps60 (Nat.le_of_ble_eq_true rfl) ?_
       refine W_seq ?_
       refine W_region_draw [9] (fun w => Le R (hp w) ∧ Le (one b1132 (.cells #[(.iface 9 (.string ⟨#[104, 111, 116]⟩)), (.iface 3 (int (min (r.count + 1) 1000000)))] 20 (0, 0))) (hp w) ∧ Le (one b721 (.cells #[(int k.1), (int k.2)] 43 (0, 0))) (hp w) ∧ Le (one b718 (.cells #[(ptr p 0)] 26 (0, 0))) (hp w) ∧ Le (one a (.cells #[(int r.tier), (int (r.calls + 1)), (int (min (r.count + 1) 1000000)), (int r.failures), (.map (some be))] 93 (0, 0))) (hp w) ∧ Le cE (hp w) ∧ Le c2 (hp w) ∧ Le (one b1 (.cells #[(int k.1), (int k.2)] 43 (0, 0))) (hp w) ∧ Le (one p (.cells #[(int s.sample), (int s.warm), (int s.hot), (int s.cold), (.map (some bm)), v] 67 (0, 0))) (hp w) ∧ Le cM (hp w) ∧ Le cD (hp w)) hmix (by decide +kernel) (fun _ _ h => h) ?_
       have hst1136 := hst1134.draws (w1133.drawn + 1)
       generalize draws w1133 (w1133.drawn + 1) = w1135 at hst1136 ⊢
       refine LT (ptr p 0) 0 rfl rfl rfl (fun u1138 hF1139 => (x_load rfl rfl (run_loadVar_one ti_26 (hF1139.2.2.2.1 _ _ (one_self _ _)) rfl))) ⟨hst1136.rle', hst1136.g 0, hst1136.g 1, hst1136.g 2, hst1136.g 3, hst1136.g 4, hst1136.g 5, hst1136.g 6, hst1136.g 7, hst1136.g 8, hst1136.g 9⟩ ?_
       refine LP (ptr p 0) 1 rfl rfl rfl (fun u1141 => rfl) ⟨hst1136.rle', hst1136.g 0, hst1136.g 1, hst1136.g 2, hst1136.g 3, hst1136.g 4, hst1136.g 5, hst1136.g 6, hst1136.g 7, hst1136.g 8, hst1136.g 9⟩ ?_
       refine LP (ptr p 4) 2 rfl rfl rfl (fun u1144 => (by kernel_rfl)) ⟨hst1136.rle', hst1136.g 0, hst1136.g 1, hst1136.g 2, hst1136.g 3, hst1136.g 4, hst1136.g 5, hst1136.g 6, hst1136.g 7, hst1136.g 8, hst1136.g 9⟩ ?_
       refine LT (.map (some bm)) 3 rfl rfl rfl (fun u1147 hF1148 => (x_load rfl rfl (run_loadVar_one ti_65 (hF1148.2.2.2.2.2.2.2.2.1 _ _ (one_self _ _)) rfl))) ⟨hst1136.rle', hst1136.g 0, hst1136.g 1, hst1136.g 2, hst1136.g 3, hst1136.g 4, hst1136.g 5, hst1136.g 6, hst1136.g 7, hst1136.g 8, hst1136.g 9⟩ ?_
       refine LT (.agg #[(int k.1), (int k.2)]) 4 rfl rfl rfl (fun u1150 hF1151 => (x_load rfl rfl (run_loadVar_agg ti_43 (hF1151.2.2.1 _ _ (one_self _ _)) (l := [(int k.1), (int k.2)]) rfl rfl))) ⟨hst1136.rle', hst1136.g 0, hst1136.g 1, hst1136.g 2, hst1136.g 3, hst1136.g 4, hst1136.g 5, hst1136.g 6, hst1136.g 7, hst1136.g 8, hst1136.g 9⟩ ?_
       refine LT (ptr a 0) 5 rfl rfl rfl (fun u1153 hF1154 => x_lookup rfl rfl rfl (by have h_ := MapC.lookupP (w := u1153) hM hF1154.2.2.2.2.2.2.2.2.2.1 law43 mt_65 ti_81 k false none rfl; rw [hg] at h_; exact h_)) ⟨hst1136.rle', hst1136.g 0, hst1136.g 1, hst1136.g 2, hst1136.g 3, hst1136.g 4, hst1136.g 5, hst1136.g 6, hst1136.g 7, hst1136.g 8, hst1136.g 9⟩ ?_
       refine LP (int 2) 6 rfl rfl rfl (fun u1156 => rfl) ⟨hst1136.rle', hst1136.g 0, hst1136.g 1, hst1136.g 2, hst1136.g 3, hst1136.g 4, hst1136.g 5, hst1136.g 6, hst1136.g 7, hst1136.g 8, hst1136.g 9⟩ ?_
       refine LP (ptr a 0) 7 rfl rfl rfl (fun u1159 => rfl) ⟨hst1136.rle', hst1136.g 0, hst1136.g 1, hst1136.g 2, hst1136.g 3, hst1136.g 4, hst1136.g 5, hst1136.g 6, hst1136.g 7, hst1136.g 8, hst1136.g 9⟩ ?_
       refine LP (ptr a 0) 8 rfl rfl rfl (fun u1162 => (by kernel_rfl)) ⟨hst1136.rle', hst1136.g 0, hst1136.g 1, hst1136.g 2, hst1136.g 3, hst1136.g 4, hst1136.g 5, hst1136.g 6, hst1136.g 7, hst1136.g 8, hst1136.g 9⟩ ?_
       refine LA_all [9] (by decide +kernel) (by simp) ?_
       intro i_ hi_
       simp only [List.mem_cons, List.not_mem_nil, or_false] at hi_
       subst hi_
       obtain ⟨w1165, hr1167, hst1166⟩ := run_storeW (P := Tryd.prog) (b := a) (off := 0) (v := (int 2)) hst1136 3 ti_3 rfl rfl rfl rfl rfl rfl
       change Step _ _ _ _ _ [one b1132 (.cells #[(.iface 9 (.string ⟨#[104, 111, 116]⟩)), (.iface 3 (int (min (r.count + 1) 1000000)))] 20 (0, 0)), one b721 (.cells #[(int k.1), (int k.2)] 43 (0, 0)), one b718 (.cells #[(ptr p 0)] 26 (0, 0)), one a (.cells #[(int 2), (int (r.calls + 1)), (int (min (r.count + 1) 1000000)), (int r.failures), (.map (some be))] 93 (0, 0)), cE, c2, one b1 (.cells #[(int k.1), (int k.2)] 43 (0, 0)), one p (.cells #[(int s.sample), (int s.warm), (int s.hot), (int s.cold), (.map (some bm)), v] 67 (0, 0)), cM, cD] at hst1166
       refine One_skip (i := 9) rfl rfl (Want.plain rfl) (x_store rfl rfl rfl hr1167) (fun h => absurd h (by decide +kernel)) ?_
       refine LA_done (by decide +kernel) ?_
       refine W_region_draw [14] (fun w => Le R (hp w) ∧ Le (one b1132 (.cells #[(.iface 9 (.string ⟨#[104, 111, 116]⟩)), (.iface 3 (int (min (r.count + 1) 1000000)))] 20 (0, 0))) (hp w) ∧ Le (one b721 (.cells #[(int k.1), (int k.2)] 43 (0, 0))) (hp w) ∧ Le (one b718 (.cells #[(ptr p 0)] 26 (0, 0))) (hp w) ∧ Le (one a (.cells #[(int 2), (int (r.calls + 1)), (int (min (r.count + 1) 1000000)), (int r.failures), (.map (some be))] 93 (0, 0))) (hp w) ∧ Le cE (hp w) ∧ Le c2 (hp w) ∧ Le (one b1 (.cells #[(int k.1), (int k.2)] 43 (0, 0))) (hp w) ∧ Le (one p (.cells #[(int s.sample), (int s.warm), (int s.hot), (int s.cold), (.map (some bm)), v] 67 (0, 0))) (hp w) ∧ Le cM (hp w)) hmix (by decide +kernel) (fun _ _ h => h) ?_
       have hst1169 := hst1166.draws (w1165.drawn + 1)
       generalize draws w1165 (w1165.drawn + 1) = w1168 at hst1169 ⊢
       refine LT (ptr p 0) 0 rfl rfl rfl (fun u1171 hF1172 => (x_load rfl rfl (run_loadVar_one ti_26 (hF1172.2.2.2.1 _ _ (one_self _ _)) rfl))) ⟨hst1169.rle', hst1169.g 0, hst1169.g 1, hst1169.g 2, hst1169.g 3, hst1169.g 4, hst1169.g 5, hst1169.g 6, hst1169.g 7, hst1169.g 8⟩ ?_
       refine LT (ptr p 0) 1 rfl rfl rfl (fun u1174 hF1175 => (x_load rfl rfl (run_loadVar_one ti_26 (hF1175.2.2.2.1 _ _ (one_self _ _)) rfl))) ⟨hst1169.rle', hst1169.g 0, hst1169.g 1, hst1169.g 2, hst1169.g 3, hst1169.g 4, hst1169.g 5, hst1169.g 6, hst1169.g 7, hst1169.g 8⟩ ?_
       refine LP (ptr p 0) 2 rfl rfl rfl (fun u1177 => rfl) ⟨hst1169.rle', hst1169.g 0, hst1169.g 1, hst1169.g 2, hst1169.g 3, hst1169.g 4, hst1169.g 5, hst1169.g 6, hst1169.g 7, hst1169.g 8⟩ ?_
       refine LP (ptr p 5) 3 rfl rfl rfl (fun u1180 => (by kernel_rfl)) ⟨hst1169.rle', hst1169.g 0, hst1169.g 1, hst1169.g 2, hst1169.g 3, hst1169.g 4, hst1169.g 5, hst1169.g 6, hst1169.g 7, hst1169.g 8⟩ ?_
       refine LT v 4 rfl rfl rfl (fun u1183 hF1184 => (x_load rfl rfl (run_loadVar_one ti_36 (hF1184.2.2.2.2.2.2.2.2.1 _ _ (one_self _ _)) rfl))) ⟨hst1169.rle', hst1169.g 0, hst1169.g 1, hst1169.g 2, hst1169.g 3, hst1169.g 4, hst1169.g 5, hst1169.g 6, hst1169.g 7, hst1169.g 8⟩ ?_
       refine LT (.agg #[(int k.1), (int k.2)]) 5 rfl rfl rfl (fun u1186 hF1187 => (x_load rfl rfl (run_loadVar_agg ti_43 (hF1187.2.2.1 _ _ (one_self _ _)) (l := [(int k.1), (int k.2)]) rfl rfl))) ⟨hst1169.rle', hst1169.g 0, hst1169.g 1, hst1169.g 2, hst1169.g 3, hst1169.g 4, hst1169.g 5, hst1169.g 6, hst1169.g 7, hst1169.g 8⟩ ?_
       refine LP (int 2) 6 rfl rfl rfl (fun u1189 => rfl) ⟨hst1169.rle', hst1169.g 0, hst1169.g 1, hst1169.g 2, hst1169.g 3, hst1169.g 4, hst1169.g 5, hst1169.g 6, hst1169.g 7, hst1169.g 8⟩ ?_
       refine LP (.slice (some ⟨b1132, 0, none⟩) 2 2) 7 rfl rfl rfl (fun u1192 => rfl) ⟨hst1169.rle', hst1169.g 0, hst1169.g 1, hst1169.g 2, hst1169.g 3, hst1169.g 4, hst1169.g 5, hst1169.g 6, hst1169.g 7, hst1169.g 8⟩ ?_
       refine LA_all [8] (by decide +kernel) (by simp) ?_
       intro i_ hi_
       simp only [List.mem_cons, List.not_mem_nil, or_false] at hi_
       subst hi_
       refine One_call (i := 8) rfl rfl rfl (Want.plain rfl) (x_call (vs := #[(.slice (some ⟨b1132, 0, none⟩) 2 2)]) rfl rfl (by kernel_rfl) ent_40) (words_spec (w := w1168) (R := hp w1168) (xs := [Wd.s ⟨#[104, 111, 116]⟩, Wd.i (min (r.count + 1) 1000000)]) (hT.mono hst1169.rle') (Le.refl _) (OwnL.freeze (OwnL.lit (t := tyWd) (xs := [Wd.s ⟨#[104, 111, 116]⟩, Wd.i (min (r.count + 1) 1000000)]) (T := 20) (R := R) (cs := [(.iface 9 (.string ⟨#[104, 111, 116]⟩)), (.iface 3 (int (min (r.count + 1) 1000000)))]) (Encs.cons (show tyWd.rel _ _ [_] from rfl) (Encs.cons (show tyWd.rel _ _ [_] from rfl) Encs.nil)) rfl (Nat.le_of_ble_eq_true rfl)) hst1169.rle' (hst1169.g 0)) (Oks (Sm2 (Sm_s (by decide)) (Sm_i (by constructor <;> omega)))) (Nat.le_of_ble_eq_true rfl)) ?_
       rintro e1199 w1197 ⟨rfl, hw1200⟩
       have hst1198 := hst1169.grown hw1200
       refine ⟨_, rfl, (fun _ => ⟨hst1198.rle', hst1198.g 0, hst1198.g 1, hst1198.g 2, hst1198.g 3, hst1198.g 4, hst1198.g 5, hst1198.g 6, hst1198.g 7, hst1198.g 8⟩), ?_⟩
       refine LP (.agg #[(int k.1), (int k.2), (int 2), (.string (joinW [Wd.s ⟨#[104, 111, 116]⟩, Wd.i (min (r.count + 1) 1000000)]))]) 9 rfl rfl rfl (fun u1202 => (by kernel_rfl)) ⟨hst1198.rle', hst1198.g 0, hst1198.g 1, hst1198.g 2, hst1198.g 3, hst1198.g 4, hst1198.g 5, hst1198.g 6, hst1198.g 7, hst1198.g 8⟩ ?_
       refine LA_all [10] (by decide +kernel) (by simp) ?_
       intro i_ hi_
       simp only [List.mem_cons, List.not_mem_nil, or_false] at hi_
       subst hi_
       refine One_new hst1198 (i := 10) (v := fun b => .slice (some ⟨b, 0, none⟩) 1 1) (ob := .cells #[(int k.1), (int k.2), (int 2), (.string (joinW [Wd.s ⟨#[104, 111, 116]⟩, Wd.i (min (r.count + 1) 1000000)]))] 49 (0, 0)) rfl rfl rfl (Want.plain rfl) (by kernel_rfl) (fun b1207 w1208 hst1209 => ?_)
       refine ⟨(fun _ => ⟨hst1209.rle', hst1209.g 1, hst1209.g 2, hst1209.g 3, hst1209.g 4, hst1209.g 5, hst1209.g 6, hst1209.g 7, hst1209.g 8, hst1209.g 9⟩), ?_⟩
       refine LA_all [11] (by decide +kernel) (by simp) ?_
       intro i_ hi_
       simp only [List.mem_cons, List.not_mem_nil, or_false] at hi_
       subst hi_
       refine One_append (j := 11) hst1209 (t := 36) (e := 49) (ys := [Dec.mk k 2 (joinW [Wd.s ⟨#[104, 111, 116]⟩, Wd.i (min (r.count + 1) 1000000)])]) (src := [(int k.1), (int k.2), (int 2), (.string (joinW [Wd.s ⟨#[104, 111, 116]⟩, Wd.i (min (r.count + 1) 1000000)]))]) 10 rfl rfl rfl (Want.plain rfl) rfl rfl rfl sl_36 ti_49 rfl rfl rfl hD (src_own (hst1209.b 0)) (Encs.one (tyDec_mk _ _ _ _ _)) rfl (by first | omega | (simp only [List.length_append, List.length_cons, List.length_nil]; omega)) (by first | (simp only [maxLen]; omega) | (simp only [List.length_append, List.length_cons, List.length_nil, maxLen]; omega)) (fun v1213 c1214 w1215 ho1216 hst1217 => ?_)
       refine ⟨(fun _ => ⟨hst1217.rle', hst1217.g 2, hst1217.g 3, hst1217.g 4, hst1217.g 5, hst1217.g 6, hst1217.g 7, hst1217.g 8, hst1217.g 9, hst1217.g 10⟩), ?_⟩
       refine LP (ptr p 0) 12 rfl rfl rfl (fun u1219 => rfl) ⟨hst1217.rle', hst1217.g 2, hst1217.g 3, hst1217.g 4, hst1217.g 5, hst1217.g 6, hst1217.g 7, hst1217.g 8, hst1217.g 9, hst1217.g 10⟩ ?_
       refine LP (ptr p 5) 13 rfl rfl rfl (fun u1222 => (by kernel_rfl)) ⟨hst1217.rle', hst1217.g 2, hst1217.g 3, hst1217.g 4, hst1217.g 5, hst1217.g 6, hst1217.g 7, hst1217.g 8, hst1217.g 9, hst1217.g 10⟩ ?_
       refine LA_all [14] (by decide +kernel) (by simp) ?_
       intro i_ hi_
       simp only [List.mem_cons, List.not_mem_nil, or_false] at hi_
       subst hi_
       obtain ⟨a1225, cap1226, e1227, hc1228⟩ := ho1216.value
       subst e1227
       obtain ⟨w1229, hr1231, hst1230⟩ := run_storeW (P := Tryd.prog) (b := p) (off := 5) (v := (.slice a1225 ((s.decs ++ [Dec.mk k 2 (joinW [Wd.s ⟨#[104, 111, 116]⟩, Wd.i (min (r.count + 1) 1000000)])]).length) cap1226)) hst1217 9 ti_36 rfl rfl rfl rfl rfl rfl
       change Step _ _ _ _ _ [c1214, one b1207 (.cells #[(int k.1), (int k.2), (int 2), (.string (joinW [Wd.s ⟨#[104, 111, 116]⟩, Wd.i (min (r.count + 1) 1000000)]))] 49 (0, 0)), one b1132 (.cells #[(.iface 9 (.string ⟨#[104, 111, 116]⟩)), (.iface 3 (int (min (r.count + 1) 1000000)))] 20 (0, 0)), one b721 (.cells #[(int k.1), (int k.2)] 43 (0, 0)), one b718 (.cells #[(ptr p 0)] 26 (0, 0)), one a (.cells #[(int 2), (int (r.calls + 1)), (int (min (r.count + 1) 1000000)), (int r.failures), (.map (some be))] 93 (0, 0)), cE, c2, one b1 (.cells #[(int k.1), (int k.2)] 43 (0, 0)), one p (.cells #[(int s.sample), (int s.warm), (int s.hot), (int s.cold), (.map (some bm)), (.slice a1225 ((s.decs ++ [Dec.mk k 2 (joinW [Wd.s ⟨#[104, 111, 116]⟩, Wd.i (min (r.count + 1) 1000000)])]).length) cap1226)] 67 (0, 0)), cM] at hst1230
       refine One_skip (i := 14) rfl rfl (Want.plain rfl) (x_store rfl rfl rfl hr1231) (fun h => absurd h (by decide +kernel)) ?_
       refine LA_done (by decide +kernel) ?_
       refine ⟨_, _, res_run (rs := []) (vs := []) Tryd.results60 .nil rfl, ?_⟩
       refine ⟨_, rfl, ?_⟩
       refine L_nil ?_
       refine W_seq ?_
       refine W_region_lit ?_
       refine Lq (.bool true) rfl rfl rfl rfl ?_
       refine L_nil ?_
       refine W_ret ?_
       refine ⟨_, _, res_run (rs := [.tmp 4]) (vs := [(.bool true)]) Tryd.results23 (.cons (.tmp rfl) .nil) rfl, ?_⟩
       have he := back_hot (s := s) hrc (of_decide_eq_false c676) (by simpa using c713) (eq_of_beq c1095) (of_decide_eq_true c1130)
       rw [he]
       obtain ⟨c', hst', hprof'⟩ := Prof.closeR (s := s.decide k { r with calls := r.calls + 1, count := min (r.count + 1) 1000000 } 2 (joinW [Wd.s ⟨#[104, 111, 116]⟩, Wd.i (min (r.count + 1) 1000000)])) (r := ⟨2, r.calls + 1, min (r.count + 1) 1000000, r.failures, r.exits⟩) (((((hst1230.front 7 rfl rfl).front 7 rfl rfl).front 7 rfl rfl).front 10 rfl rfl).front 10 rfl rfl) hM hE (fun c1 h d => hback _ c1 h d) ho1216 (hok.decide k hro.count1 (by decide) (joinW_short (Oks (Sm2 (Sm_s (by decide)) (Sm_i (by constructor <;> omega)))) (Nat.le_of_ble_eq_true rfl)))
       exact ⟨_, _, _, rfl, hst'.keepN 1 rfl, c', rfl, rfl, hprof'⟩
      ·
       have q1232 := of_decide_eq_false c1130
       refine W_cond_false (by show Value.bool _ = _; exact congrArg Value.bool c1130) ?_
       refine W_seq ?_
       refine W_region_lit ?_
       refine Lq (.bool false) rfl rfl rfl rfl ?_
       refine L_nil ?_
       refine W_ret ?_
       refine ⟨_, _, res_run (rs := [.tmp 4]) (vs := [(.bool false)]) Tryd.results23 (.cons (.tmp rfl) .nil) rfl, ?_⟩
       have he := back_no (s := s) hrc (of_decide_eq_false c676) (by simpa using c713) (fun h => (ne_of_beq_false c745) h.1) (fun h => (of_decide_eq_false c1130) h.2)
       rw [he]
       obtain ⟨c', hst', hprof'⟩ := Prof.closeR (s := s.put k { r with calls := r.calls + 1, count := min (r.count + 1) 1000000 }) (r := ⟨r.tier, r.calls + 1, min (r.count + 1) 1000000, r.failures, r.exits⟩) ((((((hst1075.front 8 rfl rfl).front 5 rfl rfl).front 5 rfl rfl).front 5 rfl rfl).front 8 rfl rfl).front 8 rfl rfl) hM hE (fun c1 h d => hback _ c1 h d) hD (hok.put k hro.count1)
       exact ⟨_, _, _, rfl, hst'.keepN 1 rfl, c', rfl, rfl, hprof'⟩
     ·
      have q1233 := ne_of_beq_false c1095
      refine LV 6 rfl rfl rfl hst1075.a9 ?_ (hw := (Want.of rfl rfl rfl rfl (by rw [c1095]; rfl)))
      refine LV 7 rfl rfl rfl hst1075.a9 ?_ (hw := (Want.of rfl rfl rfl rfl (by rw [c1095]; rfl)))
      refine LV 8 rfl rfl rfl hst1075.a9 ?_ (hw := (Want.of rfl rfl rfl rfl (by rw [c1095]; rfl)))
      refine LV 9 rfl rfl rfl hst1075.a9 ?_ (hw := (Want.of rfl rfl rfl rfl (by rw [c1095]; rfl)))
      refine LV 10 rfl rfl rfl hst1075.a9 ?_ (hw := (Want.of rfl rfl rfl rfl (by rw [c1095]; rfl)))
      refine LV 11 rfl rfl rfl hst1075.a9 ?_ (hw := (Want.of rfl rfl rfl rfl (by rw [c1095]; rfl)))
      refine LV 12 rfl rfl rfl hst1075.a9 ?_ (hw := (Want.of rfl rfl rfl rfl (by rw [c1095]; rfl)))
      refine LV 13 rfl rfl rfl hst1075.a9 ?_ (hw := (Want.of rfl rfl rfl rfl (by rw [c1095]; rfl)))
      refine LV 14 rfl rfl rfl hst1075.a9 ?_ (hw := (Want.of rfl rfl rfl rfl (by rw [c1095]; rfl)))
      refine LP (.bool false) 15 rfl rfl rfl (fun u1244 => (x_pick rfl rfl (by rw [c1095]; rfl))) hst1075.a9 ?_
      refine LP (.bool false) 16 rfl rfl rfl (fun u1247 => rfl) hst1075.a9 ?_
      refine LA_done (by decide +kernel) ?_
      refine W_cond_false (by show Value.bool _ = _; exact congrArg Value.bool rfl) ?_
      refine W_seq ?_
      refine W_region_lit ?_
      refine Lq (.bool false) rfl rfl rfl rfl ?_
      refine L_nil ?_
      refine W_ret ?_
      refine ⟨_, _, res_run (rs := [.tmp 4]) (vs := [(.bool false)]) Tryd.results23 (.cons (.tmp rfl) .nil) rfl, ?_⟩
      have he := back_no (s := s) hrc (of_decide_eq_false c676) (by simpa using c713) (fun h => (ne_of_beq_false c745) h.1) (fun h => (ne_of_beq_false c1095) h.1)
      rw [he]
      obtain ⟨c', hst', hprof'⟩ := Prof.closeR (s := s.put k { r with calls := r.calls + 1, count := min (r.count + 1) 1000000 }) (r := ⟨r.tier, r.calls + 1, min (r.count + 1) 1000000, r.failures, r.exits⟩) ((((((hst1075.front 8 rfl rfl).front 5 rfl rfl).front 5 rfl rfl).front 5 rfl rfl).front 8 rfl rfl).front 8 rfl rfl) hM hE (fun c1 h d => hback _ c1 h d) hD (hok.put k hro.count1)
      exact ⟨_, _, _, rfl, hst'.keepN 1 rfl, c', rfl, rfl, hprof'⟩

end Go.Fx.YtdkjoljcffkpkaaDoor
