/-
  Chapter 14: Left, printed by genp.py
-/
import Derived.Test.YtdkjoljcffkpkaaDoorPr6
set_option linter.unusedSimpArgs false
set_option linter.unusedVariables false
namespace Go.Fx.YtdkjoljcffkpkaaDoor
open Go Go.Fx Go.Proofs
set_option maxRecDepth 20000

theorem ent_44 : Ent Tryd.prog 44 := fun _ _ => by kernel_rfl
theorem ent_48 : Ent Tryd.prog 48 := fun _ _ => by kernel_rfl
theorem mt_59 : Tryd.prog.underlying 59 = some (.map 3 3) := by kernel_rfl
theorem ti_59 : TI Tryd.prog 59 false 1 8 (.map none) := ⟨by kernel_rfl, by kernel_rfl⟩

set_option maxHeartbeats 4000000 in
theorem Left_spec {w : World} {R c : Hp} {p : Nat} {s : PS} (k : Pl) (e : Int) (hI : I64 e) (hs : Sats w R [c]) (hprof : Prof R p s c) (hT : Tab R) (hn : s.n ≤ 1000000000) :
    Calls Tryd.prog 24 #[ptr p 0, kk k, int e] w (Comes' w R [c] fun v' R' L' => ∃ c', v' = .bool (s.left k e).2 ∧ L' = [c'] ∧ Prof R' p ((s.left k e).1) c') := by
 obtain ⟨bm, m, v, cM, cR, cD, rfl, hd1, hd2, hd3, hM, hRs, hD, hok⟩ := hprof
 have hst := Prof.opened (Step.refl hs) hd1 hd2 hd3
 obtain ⟨hb1, hb2⟩ := hok.sample
 obtain ⟨hb3, hb4⟩ := hok.warm
 obtain ⟨hb5, hb6⟩ := hok.hot
 obtain ⟨hb7, hb8⟩ := hok.cold
 have hb9 := hok.decs
 obtain ⟨hi1, hi2⟩ := hI
 refine calls_of_W (n := 63) Tryd.func24 rfl Tryd.ntmps24 (Nat.le_of_ble_eq_true rfl) ?_
 refine W_seq ?_
 refine W_region_lit ?_
 refine L_new hst (v := fun b => ptr b 0) (ob := .cells #[(int k.1), (int k.2)] 43 (0, 0)) rfl rfl rfl (by kernel_rfl) (fun b1 w2 hst3 => ?_)
 refine Lq (.bool false) rfl rfl rfl rfl ?_
 refine L_nil ?_
 refine W_seq ?_
 refine W_region_lit ?_
 refine Lq (ptr p 0) rfl rfl rfl rfl ?_
 refine Lq (.agg #[(int k.1), (int k.2)]) rfl rfl rfl (x_load rfl rfl (run_loadVar_agg ti_43 (hst3.b 0) (l := [(int k.1), (int k.2)]) rfl rfl)) ?_
 refine L_call rfl rfl rfl (x_call (vs := #[(ptr p 0), (.agg #[(int k.1), (int k.2)])]) rfl rfl (by kernel_rfl) ent_44) ?_ (fun _ _ h => h)
 refine calls_of_W (n := 13) Tryd.func44 rfl Tryd.ntmps44 (Nat.le_of_ble_eq_true rfl) ?_
 refine W_seq ?_
 refine W_region_lit ?_
 refine L_new hst3 (v := fun b => ptr b 0) (ob := .cells #[(int k.1), (int k.2)] 43 (0, 0)) rfl rfl rfl (by kernel_rfl) (fun b4 w5 hst6 => ?_)
 refine Lq (.pointer none) rfl rfl rfl rfl ?_
 refine L_nil ?_
 refine W_seq ?_
 refine W_seq ?_
 refine W_region_lit ?_
 refine Lq (ptr p 0) rfl rfl rfl rfl ?_
 refine Lq (.bool false) rfl rfl rfl (by kernel_rfl) ?_
 refine L_nil ?_
 refine W_cond_false (by show Value.bool _ = _; exact congrArg Value.bool rfl) ?_
 refine W_skip ?_
 refine W_seq ?_
 rcases Recs.look hRs k with ⟨hg, hgr⟩ | ⟨a, r, c1, c2, hg, hgr, hrec, hc, hdj, hback⟩
 ·
  refine W_region_draw [] (fun w => Le R (hp w) ∧ Le (one b4 (.cells #[(int k.1), (int k.2)] 43 (0, 0))) (hp w) ∧ Le (one b1 (.cells #[(int k.1), (int k.2)] 43 (0, 0))) (hp w) ∧ Le (one p (.cells #[(int s.sample), (int s.warm), (int s.hot), (int s.cold), (.map (some bm)), v] 67 (0, 0))) (hp w) ∧ Le cM (hp w) ∧ Le cR (hp w) ∧ Le cD (hp w)) hmix (by decide +kernel) (fun _ _ h => h) ?_
  have hst8 := hst6.draws (w5.drawn + 1)
  generalize draws w5 (w5.drawn + 1) = w7 at hst8 ⊢
  refine LP (ptr p 0) 0 rfl rfl rfl (fun u10 => rfl) hst8.a6 ?_
  refine LP (ptr p 0) 1 rfl rfl rfl (fun u13 => rfl) hst8.a6 ?_
  refine LP (ptr p 4) 2 rfl rfl rfl (fun u16 => (by kernel_rfl)) hst8.a6 ?_
  refine LT (.map (some bm)) 3 rfl rfl rfl (fun u19 hF20 => (x_load rfl rfl (run_loadVar_one ti_65 (hF20.2.2.2.1 _ _ (one_self _ _)) rfl))) hst8.a6 ?_
  refine LT (.agg #[(int k.1), (int k.2)]) 4 rfl rfl rfl (fun u22 hF23 => (x_load rfl rfl (run_loadVar_agg ti_43 (hF23.2.1 _ _ (one_self _ _)) (l := [(int k.1), (int k.2)]) rfl rfl))) hst8.a6 ?_
  refine LT (.pointer none) 5 rfl rfl rfl (fun u25 hF26 => x_lookup rfl rfl rfl (by have h_ := MapC.lookupP (w := u25) hM hF26.2.2.2.2.1 law43 mt_65 ti_81 k false none rfl; rw [hg] at h_; exact h_)) hst8.a6 ?_
  refine LP (.pointer none) 6 rfl rfl rfl (fun u28 => rfl) hst8.a6 ?_
  refine LA_done (by decide +kernel) ?_
  refine W_ret ?_
  refine ⟨_, _, res_run (rs := [.tmp 4]) (vs := [(.pointer none)]) Tryd.results44 (.cons (.tmp rfl) .nil) rfl, ?_⟩
  refine ⟨_, rfl, ?_⟩
  refine Lq (.pointer none) rfl rfl rfl rfl ?_
  refine L_nil ?_
  refine W_seq ?_
  refine W_seq ?_
  refine W_region_lit ?_
  refine Lq (.pointer none) rfl rfl rfl rfl ?_
  refine Lq (.bool true) rfl rfl rfl (by kernel_rfl) ?_
  refine Lq (.bool true) rfl rfl rfl rfl ?_
  refine L_unwanted rfl rfl rfl rfl rfl rfl rfl ?_
  refine L_unwanted rfl rfl rfl rfl rfl rfl rfl ?_
  refine L_unwanted rfl rfl rfl rfl rfl rfl rfl ?_
  refine L_unwanted rfl rfl rfl rfl rfl rfl rfl ?_
  refine L_unwanted rfl rfl rfl rfl rfl rfl rfl ?_
  refine Lq (.bool true) rfl rfl rfl rfl ?_
  refine Lq (.bool true) rfl rfl rfl rfl ?_
  refine L_unwanted rfl rfl rfl rfl rfl rfl rfl ?_
  refine L_unwanted rfl rfl rfl rfl rfl rfl rfl ?_
  refine Lq (.bool true) rfl rfl rfl rfl ?_
  refine L_nil ?_
  refine W_cond_true (by show Value.bool _ = _; exact congrArg Value.bool rfl) ?_
  refine W_seq ?_
  refine W_region_lit ?_
  refine Lq (.bool false) rfl rfl rfl rfl ?_
  refine L_nil ?_
  refine W_ret ?_
  refine ⟨_, _, res_run (rs := [.tmp 6]) (vs := [(.bool false)]) Tryd.results24 (.cons (.tmp rfl) .nil) rfl, ?_⟩
  rw [left_none (s := s) (k := k) e hgr]
  obtain ⟨c', hst', hprof'⟩ := Prof.close (s := s) ((((hst8.front 5 rfl rfl).front 5 rfl rfl).front 5 rfl rfl).front 5 rfl rfl) hM hRs hD hok
  exact ⟨_, _, _, rfl, hst'.keepN 1 rfl, c', rfl, rfl, hprof'⟩
 ·
  obtain ⟨be, cE, rfl, hd4, hE⟩ := hrec
  subst hc
  have hst30 := ((hst6.front 4 rfl rfl).split hdj).split hd4
  have hro := hok.recs k r hgr
  obtain ⟨hr31, hr32⟩ := hro.tier
  obtain ⟨hr33, hr34⟩ := hro.calls
  obtain ⟨hr35, hr36⟩ := hro.count
  obtain ⟨hr37, hr38⟩ := hro.failures
  have hrc := PS.rc_some hgr
  refine W_region_draw [] (fun w => Le R (hp w) ∧ Le (one a (.cells #[(int r.tier), (int r.calls), (int r.count), (int r.failures), (.map (some be))] 93 (0, 0))) (hp w) ∧ Le cE (hp w) ∧ Le c2 (hp w) ∧ Le (one b4 (.cells #[(int k.1), (int k.2)] 43 (0, 0))) (hp w) ∧ Le (one b1 (.cells #[(int k.1), (int k.2)] 43 (0, 0))) (hp w) ∧ Le (one p (.cells #[(int s.sample), (int s.warm), (int s.hot), (int s.cold), (.map (some bm)), v] 67 (0, 0))) (hp w) ∧ Le cM (hp w) ∧ Le cD (hp w)) hmix (by decide +kernel) (fun _ _ h => h) ?_
  have hst40 := hst30.draws (w5.drawn + 1)
  generalize draws w5 (w5.drawn + 1) = w39 at hst40 ⊢
  refine LP (ptr p 0) 0 rfl rfl rfl (fun u42 => rfl) hst40.a8 ?_
  refine LP (ptr p 0) 1 rfl rfl rfl (fun u45 => rfl) hst40.a8 ?_
  refine LP (ptr p 4) 2 rfl rfl rfl (fun u48 => (by kernel_rfl)) hst40.a8 ?_
  refine LT (.map (some bm)) 3 rfl rfl rfl (fun u51 hF52 => (x_load rfl rfl (run_loadVar_one ti_65 (hF52.2.2.2.2.2.2.1 _ _ (one_self _ _)) rfl))) hst40.a8 ?_
  refine LT (.agg #[(int k.1), (int k.2)]) 4 rfl rfl rfl (fun u54 hF55 => (x_load rfl rfl (run_loadVar_agg ti_43 (hF55.2.2.2.2.1 _ _ (one_self _ _)) (l := [(int k.1), (int k.2)]) rfl rfl))) hst40.a8 ?_
  refine LT (ptr a 0) 5 rfl rfl rfl (fun u57 hF58 => x_lookup rfl rfl rfl (by have h_ := MapC.lookupP (w := u57) hM hF58.2.2.2.2.2.2.2.1 law43 mt_65 ti_81 k false none rfl; rw [hg] at h_; exact h_)) hst40.a8 ?_
  refine LP (ptr a 0) 6 rfl rfl rfl (fun u60 => rfl) hst40.a8 ?_
  refine LA_done (by decide +kernel) ?_
  refine W_ret ?_
  refine ⟨_, _, res_run (rs := [.tmp 4]) (vs := [(ptr a 0)]) Tryd.results44 (.cons (.tmp rfl) .nil) rfl, ?_⟩
  refine ⟨_, rfl, ?_⟩
  refine Lq (ptr a 0) rfl rfl rfl rfl ?_
  refine L_nil ?_
  refine W_seq ?_
  refine W_seq ?_
  refine W_region_lit ?_
  refine Lq (ptr a 0) rfl rfl rfl rfl ?_
  refine Lq (.bool false) rfl rfl rfl (by kernel_rfl) ?_
  refine Lq (.bool false) rfl rfl rfl rfl ?_
  refine L_guard rfl rfl rfl rfl rfl ?_
  refine Lq (ptr a 0) rfl rfl rfl rfl ?_
  refine L_guard rfl rfl rfl rfl rfl ?_
  refine Lq (ptr a 0) rfl rfl rfl rfl ?_
  refine L_guard rfl rfl rfl rfl rfl ?_
  refine Lq (ptr a 0) rfl rfl rfl (by kernel_rfl) ?_
  refine L_guard rfl rfl rfl rfl rfl ?_
  refine Lq (int r.tier) rfl rfl rfl (x_load rfl rfl (run_loadVar_one ti_3 (hst40.b 0) rfl)) ?_
  refine L_guard rfl rfl rfl rfl rfl ?_
  refine Lq (.bool (r.tier != 2)) rfl rfl rfl (by kernel_rfl) ?_
  refine Lq (.bool (r.tier != 2)) rfl rfl rfl rfl ?_
  refine Lq (.bool (r.tier != 2)) rfl rfl rfl rfl ?_
  rcases Bool.eq_false_or_eq_true (r.tier != 2) with c62 | c62
  ·
   have q63 : ¬ r.tier = 2 := by simpa using c62
   refine L_unwanted rfl rfl rfl rfl (by rw [c62]; try rfl) rfl rfl ?_
   refine L_unwanted rfl rfl rfl rfl (by rw [c62]; try rfl) rfl rfl ?_
   refine Lq (.bool true) rfl rfl rfl (x_pick rfl rfl (by rw [c62]; rfl)) ?_
   refine L_nil ?_
   refine W_cond_true (by show Value.bool _ = _; exact congrArg Value.bool rfl) ?_
   refine W_seq ?_
   refine W_region_lit ?_
   refine Lq (.bool false) rfl rfl rfl rfl ?_
   refine L_nil ?_
   refine W_ret ?_
   refine ⟨_, _, res_run (rs := [.tmp 6]) (vs := [(.bool false)]) Tryd.results24 (.cons (.tmp rfl) .nil) rfl, ?_⟩
   have he := left_not (s := s) (e := e) hgr (.inl (by simpa using c62))
   rw [he]
   have hsame := set_same hgr
   obtain ⟨c', hst', hprof'⟩ := Prof.closeR (s := s) (r := r) ((((((hst40.front 7 rfl rfl).front 3 rfl rfl).front 3 rfl rfl).front 3 rfl rfl).front 7 rfl rfl).front 7 rfl rfl) hM hE (fun c1 h d => by have h_ := hback r c1 h d; rwa [hsame] at h_) hD hok
   exact ⟨_, _, _, rfl, hst'.keepN 1 rfl, c', rfl, rfl, hprof'⟩
  ·
   have q64 : r.tier = 2 := by simpa using c62
   refine L_guard rfl rfl rfl rfl c62 ?_
   refine Lq (int e) rfl rfl rfl rfl ?_
   refine L_guard rfl rfl rfl rfl c62 ?_
   refine Lq (.bool (decide (e < 0))) rfl rfl rfl (by kernel_rfl) ?_
   refine Lq (.bool (decide (e < 0))) rfl rfl rfl (x_pick rfl rfl (by rw [c62]; rfl)) ?_
   refine L_nil ?_
   rcases Bool.eq_false_or_eq_true (decide (e < 0)) with c65 | c65
   ·
    have q66 := of_decide_eq_true c65
    refine W_cond_true (by show Value.bool _ = _; exact congrArg Value.bool c65) ?_
    refine W_seq ?_
    refine W_region_lit ?_
    refine Lq (.bool false) rfl rfl rfl rfl ?_
    refine L_nil ?_
    refine W_ret ?_
    refine ⟨_, _, res_run (rs := [.tmp 6]) (vs := [(.bool false)]) Tryd.results24 (.cons (.tmp rfl) .nil) rfl, ?_⟩
    have he := left_not (s := s) (e := e) hgr (.inr (of_decide_eq_true c65))
    rw [he]
    have hsame := set_same hgr
    obtain ⟨c', hst', hprof'⟩ := Prof.closeR (s := s) (r := r) ((((((hst40.front 7 rfl rfl).front 3 rfl rfl).front 3 rfl rfl).front 3 rfl rfl).front 7 rfl rfl).front 7 rfl rfl) hM hE (fun c1 h d => by have h_ := hback r c1 h d; rwa [hsame] at h_) hD hok
    exact ⟨_, _, _, rfl, hst'.keepN 1 rfl, c', rfl, rfl, hprof'⟩
   ·
    have q67 := of_decide_eq_false c65
    refine W_cond_false (by show Value.bool _ = _; exact congrArg Value.bool c65) ?_
    refine W_skip ?_
    refine W_seq ?_
    obtain ⟨hx1, hx2⟩ := hro.exit e
    refine W_region_lit ?_
    refine Lq (ptr a 0) rfl rfl rfl rfl ?_
    refine Lq (ptr a 0) rfl rfl rfl rfl ?_
    refine Lq (ptr a 4) rfl rfl rfl (by kernel_rfl) ?_
    refine Lq (.map (some be)) rfl rfl rfl (x_load rfl rfl (run_loadVar_one ti_59 (hst40.b 0) rfl)) ?_
    refine Lq (int e) rfl rfl rfl rfl ?_
    obtain ⟨v68, hr69, hv70⟩ := MapC.lookupD (w := w39) hE (hst40.g 1) law3 mt_59 ti_3 e false 0 rfl
    have hv70' : v68 = .int .i64 ((AL.get r.exits e).getD 0) := hv70
    subst hv70'
    refine Lq (int ((AL.get r.exits e).getD 0)) rfl rfl rfl (x_lookup rfl rfl rfl hr69) ?_
    refine Lq (int (((AL.get r.exits e).getD 0) + 1)) rfl rfl rfl (x_add rfl rfl rfl (by constructor <;> omega)) ?_
    obtain ⟨c71, w72, hr73, hm74, hst75⟩ := MapC.update hE (hst40.front 1 rfl rfl) law3 mt_59 e (((AL.get r.exits e).getD 0) + 1) (int (((AL.get r.exits e).getD 0) + 1)) rfl
    refine L_skip rfl rfl (x_mapUpdate rfl rfl rfl rfl hr73) ?_
    refine L_nil ?_
    refine W_seq ?_
    refine W_seq ?_
    refine W_region_draw [] (fun w => Le R (hp w) ∧ Le c71 (hp w) ∧ Le (one a (.cells #[(int r.tier), (int r.calls), (int r.count), (int r.failures), (.map (some be))] 93 (0, 0))) (hp w) ∧ Le c2 (hp w) ∧ Le (one b4 (.cells #[(int k.1), (int k.2)] 43 (0, 0))) (hp w) ∧ Le (one b1 (.cells #[(int k.1), (int k.2)] 43 (0, 0))) (hp w) ∧ Le (one p (.cells #[(int s.sample), (int s.warm), (int s.hot), (int s.cold), (.map (some bm)), v] 67 (0, 0))) (hp w) ∧ Le cM (hp w) ∧ Le cD (hp w)) hmix (by decide +kernel) (fun _ _ h => h) ?_
    have hst77 := hst75.draws (w72.drawn + 1)
    generalize draws w72 (w72.drawn + 1) = w76 at hst77 ⊢
    refine LP (ptr a 0) 0 rfl rfl rfl (fun u79 => rfl) hst77.a8 ?_
    refine LP (ptr a 0) 1 rfl rfl rfl (fun u82 => rfl) hst77.a8 ?_
    refine LP (ptr a 4) 2 rfl rfl rfl (fun u85 => (by kernel_rfl)) hst77.a8 ?_
    refine LT (.map (some be)) 3 rfl rfl rfl (fun u88 hF89 => (x_load rfl rfl (run_loadVar_one ti_59 (hF89.2.2.1 _ _ (one_self _ _)) rfl))) hst77.a8 ?_
    refine LP (int e) 4 rfl rfl rfl (fun u91 => rfl) hst77.a8 ?_
    refine LT (int ((AL.get (AL.set r.exits e (((AL.get r.exits e).getD 0) + 1)) e).getD 0)) 5 rfl rfl rfl (fun u94 hF95 => x_lookup rfl rfl rfl (MapC.lookupP hm74 hF95.2.1 law3 mt_59 ti_3 e false 0 rfl)) hst77.a8 ?_
    refine LP (ptr p 0) 6 rfl rfl rfl (fun u97 => rfl) hst77.a8 ?_
    refine LP (ptr p 0) 7 rfl rfl rfl (fun u100 => rfl) hst77.a8 ?_
    refine LP (ptr p 3) 8 rfl rfl rfl (fun u103 => (by kernel_rfl)) hst77.a8 ?_
    refine LT (int s.cold) 9 rfl rfl rfl (fun u106 hF107 => (x_load rfl rfl (run_loadVar_one ti_3 (hF107.2.2.2.2.2.2.1 _ _ (one_self _ _)) rfl))) hst77.a8 ?_
    refine LP (.bool (decide (((AL.get (AL.set r.exits e (((AL.get r.exits e).getD 0) + 1)) e).getD 0) < s.cold))) 10 rfl rfl rfl (fun u109 => (by kernel_rfl)) hst77.a8 ?_
    refine LA_done (by decide +kernel) ?_
    rcases Bool.eq_false_or_eq_true (decide (((AL.get (AL.set r.exits e (((AL.get r.exits e).getD 0) + 1)) e).getD 0) < s.cold)) with c111 | c111
    ·
     have q112 := of_decide_eq_true c111
     refine W_cond_true (by show Value.bool _ = _; exact congrArg Value.bool c111) ?_
     refine W_seq ?_
     refine W_region_lit ?_
     refine Lq (.bool false) rfl rfl rfl rfl ?_
     refine L_nil ?_
     refine W_ret ?_
     refine ⟨_, _, res_run (rs := [.tmp 6]) (vs := [(.bool false)]) Tryd.results24 (.cons (.tmp rfl) .nil) rfl, ?_⟩
     have he := left_stay (s := s) hgr (by simpa using c62) (of_decide_eq_false c65) (by simpa [AL.get_set] using of_decide_eq_true c111)
     rw [he]
     obtain ⟨c', hst', hprof'⟩ := Prof.closeR (s := s.put k { r with exits := AL.set r.exits e ((AL.get r.exits e).getD 0 + 1) }) (r := ⟨r.tier, r.calls, r.count, r.failures, (AL.set r.exits e (((AL.get r.exits e).getD 0) + 1))⟩) ((((((hst77.front 7 rfl rfl).front 3 rfl rfl).front 2 rfl rfl).front 3 rfl rfl).front 7 rfl rfl).front 7 rfl rfl) hM hm74 (fun c1 h d => hback _ c1 h d) hD (hok.put k (hro.exit1 e))
     exact ⟨_, _, _, rfl, hst'.keepN 1 rfl, c', rfl, rfl, hprof'⟩
    ·
     have q113 := of_decide_eq_false c111
     refine W_cond_false (by show Value.bool _ = _; exact congrArg Value.bool c111) ?_
     refine W_skip ?_
     refine W_seq ?_
     refine W_region_lit ?_
     refine Lq (ptr a 0) rfl rfl rfl rfl ?_
     refine Lq (ptr p 0) rfl rfl rfl rfl ?_
     refine Lq (ptr p 0) rfl rfl rfl rfl ?_
     refine Lq (ptr p 1) rfl rfl rfl (by kernel_rfl) ?_
     refine Lq (int s.warm) rfl rfl rfl (x_load rfl rfl (run_loadVar_one ti_3 (hst77.b 5) rfl)) ?_
     refine Lq (ptr a 0) rfl rfl rfl rfl ?_
     refine Lq (ptr a 2) rfl rfl rfl (by kernel_rfl) ?_
     refine L_store hst77 1 ti_3 rfl rfl rfl rfl rfl rfl rfl rfl rfl rfl rfl (fun w114 hst115 => ?_)
     change Step _ _ _ _ _ [c71, one a (.cells #[(int r.tier), (int r.calls), (int s.warm), (int r.failures), (.map (some be))] 93 (0, 0)), c2, one b4 (.cells #[(int k.1), (int k.2)] 43 (0, 0)), one b1 (.cells #[(int k.1), (int k.2)] 43 (0, 0)), one p (.cells #[(int s.sample), (int s.warm), (int s.hot), (int s.cold), (.map (some bm)), v] 67 (0, 0)), cM, cD] at hst115
     refine L_nil ?_
     refine W_seq ?_
     refine W_region_draw [] (fun w => Le R (hp w) ∧ Le (one b4 (.cells #[(int k.1), (int k.2)] 43 (0, 0))) (hp w) ∧ Le (one b1 (.cells #[(int k.1), (int k.2)] 43 (0, 0))) (hp w)) hmix (by decide +kernel) (fun _ _ h => h) ?_
     have hst117 := hst115.draws (w114.drawn + 1)
     generalize draws w114 (w114.drawn + 1) = w116 at hst117 ⊢
     refine LP (ptr p 0) 0 rfl rfl rfl (fun u119 => rfl) ⟨hst117.rle', hst117.g 3, hst117.g 4⟩ ?_
     refine LT (.agg #[(int k.1), (int k.2)]) 1 rfl rfl rfl (fun u122 hF123 => (x_load rfl rfl (run_loadVar_agg ti_43 (hF123.2.2 _ _ (one_self _ _)) (l := [(int k.1), (int k.2)]) rfl rfl))) ⟨hst117.rle', hst117.g 3, hst117.g 4⟩ ?_
     refine LT (.iface 9 (.string ⟨#[101, 120, 105, 116]⟩)) 2 rfl rfl rfl (fun u125 hF126 => (by kernel_rfl)) ⟨hst117.rle', hst117.g 3, hst117.g 4⟩ ?_
     refine LP (int e) 3 rfl rfl rfl (fun u128 => rfl) ⟨hst117.rle', hst117.g 3, hst117.g 4⟩ ?_
     refine LT (.iface 3 (int e)) 4 rfl rfl rfl (fun u131 hF132 => (by kernel_rfl)) ⟨hst117.rle', hst117.g 3, hst117.g 4⟩ ?_
     refine LT (.iface 9 (.string ⟨#[108, 101, 102, 116]⟩)) 5 rfl rfl rfl (fun u134 hF135 => (by kernel_rfl)) ⟨hst117.rle', hst117.g 3, hst117.g 4⟩ ?_
     refine LP (ptr p 0) 6 rfl rfl rfl (fun u137 => rfl) ⟨hst117.rle', hst117.g 3, hst117.g 4⟩ ?_
     refine LP (ptr p 0) 7 rfl rfl rfl (fun u140 => rfl) ⟨hst117.rle', hst117.g 3, hst117.g 4⟩ ?_
     refine LP (ptr p 3) 8 rfl rfl rfl (fun u143 => (by kernel_rfl)) ⟨hst117.rle', hst117.g 3, hst117.g 4⟩ ?_
     refine LT (.iface 9 (.string ⟨#[116, 105, 109, 101, 115]⟩)) 11 rfl rfl rfl (fun u148 hF149 => (by kernel_rfl)) ⟨hst117.rle', hst117.g 3, hst117.g 4⟩ ?_
     refine LA_all [9] (by decide +kernel) (by simp) ?_
     intro i_ hi_
     simp only [List.mem_cons, List.not_mem_nil, or_false] at hi_
     subst hi_
     refine One_val (i := 9) (v := (int s.cold)) rfl rfl rfl (Want.plain rfl) (x_load rfl rfl (run_loadVar_one ti_3 (hst117.b 5) rfl)) (fun _ => ⟨hst117.rle', hst117.g 3, hst117.g 4⟩) ?_
     refine LT (.iface 3 (int s.cold)) 10 rfl rfl rfl (fun u154 hF155 => (by kernel_rfl)) ⟨hst117.rle', hst117.g 3, hst117.g 4⟩ ?_
     refine LA_all [12] (by decide +kernel) (by simp) ?_
     intro i_ hi_
     simp only [List.mem_cons, List.not_mem_nil, or_false] at hi_
     subst hi_
     refine One_new hst117 (i := 12) (v := fun b => .slice (some ⟨b, 0, none⟩) 5 5) (ob := .cells #[(.iface 9 (.string ⟨#[101, 120, 105, 116]⟩)), (.iface 3 (int e)), (.iface 9 (.string ⟨#[108, 101, 102, 116]⟩)), (.iface 3 (int s.cold)), (.iface 9 (.string ⟨#[116, 105, 109, 101, 115]⟩))] 20 (0, 0)) rfl rfl rfl (Want.plain rfl) (by kernel_rfl) (fun b159 w160 hst161 => ?_)
     refine ⟨(fun _ => ⟨hst161.rle', hst161.g 4, hst161.g 5⟩), ?_⟩
     refine LA_all [13] (by decide +kernel) (by simp) ?_
     intro i_ hi_
     simp only [List.mem_cons, List.not_mem_nil, or_false] at hi_
     subst hi_
     refine One_call (i := 13) rfl rfl rfl (Want.plain rfl) (x_call (vs := #[(ptr p 0), (.agg #[(int k.1), (int k.2)]), (int 1), (.slice (some ⟨b159, 0, none⟩) 5 5)]) rfl rfl (by kernel_rfl) ent_48) ?_ (fun _ _ h => h)
     refine calls_of_W (n := 44) Tryd.func48 rfl Tryd.ntmps48 (Nat.le_of_ble_eq_true rfl) ?_
     refine W_seq ?_
     refine W_region_lit ?_
     refine L_new hst161 (v := fun b => ptr b 0) (ob := .cells #[(int k.1), (int k.2)] 43 (0, 0)) rfl rfl rfl (by kernel_rfl) (fun b165 w166 hst167 => ?_)
     refine L_nil ?_
     refine W_seq ?_
     refine W_region_draw [] (fun w => Le R (hp w) ∧ Le (one b165 (.cells #[(int k.1), (int k.2)] 43 (0, 0))) (hp w) ∧ Le (one b159 (.cells #[(.iface 9 (.string ⟨#[101, 120, 105, 116]⟩)), (.iface 3 (int e)), (.iface 9 (.string ⟨#[108, 101, 102, 116]⟩)), (.iface 3 (int s.cold)), (.iface 9 (.string ⟨#[116, 105, 109, 101, 115]⟩))] 20 (0, 0))) (hp w) ∧ Le c71 (hp w) ∧ Le (one a (.cells #[(int r.tier), (int r.calls), (int s.warm), (int r.failures), (.map (some be))] 93 (0, 0))) (hp w) ∧ Le c2 (hp w) ∧ Le (one b4 (.cells #[(int k.1), (int k.2)] 43 (0, 0))) (hp w) ∧ Le (one b1 (.cells #[(int k.1), (int k.2)] 43 (0, 0))) (hp w) ∧ Le (one p (.cells #[(int s.sample), (int s.warm), (int s.hot), (int s.cold), (.map (some bm)), v] 67 (0, 0))) (hp w) ∧ Le cM (hp w) ∧ Le cD (hp w)) hmix (by decide +kernel) (fun _ _ h => h) ?_
     have hst169 := hst167.draws (w166.drawn + 1)
     generalize draws w166 (w166.drawn + 1) = w168 at hst169 ⊢
     refine LP (ptr p 0) 0 rfl rfl rfl (fun u171 => rfl) ⟨hst169.rle', hst169.g 0, hst169.g 1, hst169.g 2, hst169.g 3, hst169.g 4, hst169.g 5, hst169.g 6, hst169.g 7, hst169.g 8, hst169.g 9⟩ ?_
     refine LP (ptr p 0) 1 rfl rfl rfl (fun u174 => rfl) ⟨hst169.rle', hst169.g 0, hst169.g 1, hst169.g 2, hst169.g 3, hst169.g 4, hst169.g 5, hst169.g 6, hst169.g 7, hst169.g 8, hst169.g 9⟩ ?_
     refine LP (ptr p 4) 2 rfl rfl rfl (fun u177 => (by kernel_rfl)) ⟨hst169.rle', hst169.g 0, hst169.g 1, hst169.g 2, hst169.g 3, hst169.g 4, hst169.g 5, hst169.g 6, hst169.g 7, hst169.g 8, hst169.g 9⟩ ?_
     refine LT (.map (some bm)) 3 rfl rfl rfl (fun u180 hF181 => (x_load rfl rfl (run_loadVar_one ti_65 (hF181.2.2.2.2.2.2.2.2.1 _ _ (one_self _ _)) rfl))) ⟨hst169.rle', hst169.g 0, hst169.g 1, hst169.g 2, hst169.g 3, hst169.g 4, hst169.g 5, hst169.g 6, hst169.g 7, hst169.g 8, hst169.g 9⟩ ?_
     refine LT (.agg #[(int k.1), (int k.2)]) 4 rfl rfl rfl (fun u183 hF184 => (x_load rfl rfl (run_loadVar_agg ti_43 (hF184.2.1 _ _ (one_self _ _)) (l := [(int k.1), (int k.2)]) rfl rfl))) ⟨hst169.rle', hst169.g 0, hst169.g 1, hst169.g 2, hst169.g 3, hst169.g 4, hst169.g 5, hst169.g 6, hst169.g 7, hst169.g 8, hst169.g 9⟩ ?_
     refine LT (ptr a 0) 5 rfl rfl rfl (fun u186 hF187 => x_lookup rfl rfl rfl (by have h_ := MapC.lookupP (w := u186) hM hF187.2.2.2.2.2.2.2.2.2.1 law43 mt_65 ti_81 k false none rfl; rw [hg] at h_; exact h_)) ⟨hst169.rle', hst169.g 0, hst169.g 1, hst169.g 2, hst169.g 3, hst169.g 4, hst169.g 5, hst169.g 6, hst169.g 7, hst169.g 8, hst169.g 9⟩ ?_
     refine LP (ptr a 0) 6 rfl rfl rfl (fun u189 => rfl) ⟨hst169.rle', hst169.g 0, hst169.g 1, hst169.g 2, hst169.g 3, hst169.g 4, hst169.g 5, hst169.g 6, hst169.g 7, hst169.g 8, hst169.g 9⟩ ?_
     refine LA_done (by decide +kernel) ?_
     refine W_seq ?_
     refine W_region_lit ?_
     refine Lq (ptr a 0) rfl rfl rfl rfl ?_
     refine Lq (ptr a 0) rfl rfl rfl rfl ?_
     refine Lq (ptr a 3) rfl rfl rfl (by kernel_rfl) ?_
     refine Lq (int r.failures) rfl rfl rfl (x_load rfl rfl (run_loadVar_one ti_3 (hst169.b 3) rfl)) ?_
     refine Lq (int (r.failures + 1)) rfl rfl rfl (x_add rfl rfl rfl (by constructor <;> omega)) ?_
     refine Lq (ptr a 0) rfl rfl rfl rfl ?_
     refine Lq (ptr a 3) rfl rfl rfl (by kernel_rfl) ?_
     refine L_store hst169 3 ti_3 rfl rfl rfl rfl rfl rfl rfl rfl rfl rfl rfl (fun w191 hst192 => ?_)
     change Step _ _ _ _ _ [one b165 (.cells #[(int k.1), (int k.2)] 43 (0, 0)), one b159 (.cells #[(.iface 9 (.string ⟨#[101, 120, 105, 116]⟩)), (.iface 3 (int e)), (.iface 9 (.string ⟨#[108, 101, 102, 116]⟩)), (.iface 3 (int s.cold)), (.iface 9 (.string ⟨#[116, 105, 109, 101, 115]⟩))] 20 (0, 0)), c71, one a (.cells #[(int r.tier), (int r.calls), (int s.warm), (int (r.failures + 1)), (.map (some be))] 93 (0, 0)), c2, one b4 (.cells #[(int k.1), (int k.2)] 43 (0, 0)), one b1 (.cells #[(int k.1), (int k.2)] 43 (0, 0)), one p (.cells #[(int s.sample), (int s.warm), (int s.hot), (int s.cold), (.map (some bm)), v] 67 (0, 0)), cM, cD] at hst192
     refine L_nil ?_
     refine W_seq ?_
     refine W_region_lit ?_
     refine Lq (ptr a 0) rfl rfl rfl rfl ?_
     refine L_new hst192 (v := fun b => .map (some b)) (ob := .map #[] 0) rfl rfl rfl (by kernel_rfl) (fun b193 w194 hst195 => ?_)
     have hm196 : MapC (Value.int .i64) (vE (Value.int .i64)) (some b193) [] _ := MapC.made b193
     generalize one b193 (.map #[] 0) = c197 at hm196 hst195
     refine Lq (ptr a 0) rfl rfl rfl rfl ?_
     refine Lq (ptr a 4) rfl rfl rfl (by kernel_rfl) ?_
     refine L_store hst195 4 ti_59 rfl rfl rfl rfl rfl rfl rfl rfl rfl rfl rfl (fun w198 hst199 => ?_)
     change Step _ _ _ _ _ [c197, one b165 (.cells #[(int k.1), (int k.2)] 43 (0, 0)), one b159 (.cells #[(.iface 9 (.string ⟨#[101, 120, 105, 116]⟩)), (.iface 3 (int e)), (.iface 9 (.string ⟨#[108, 101, 102, 116]⟩)), (.iface 3 (int s.cold)), (.iface 9 (.string ⟨#[116, 105, 109, 101, 115]⟩))] 20 (0, 0)), c71, one a (.cells #[(int r.tier), (int r.calls), (int s.warm), (int (r.failures + 1)), (.map (some b193))] 93 (0, 0)), c2, one b4 (.cells #[(int k.1), (int k.2)] 43 (0, 0)), one b1 (.cells #[(int k.1), (int k.2)] 43 (0, 0)), one p (.cells #[(int s.sample), (int s.warm), (int s.hot), (int s.cold), (.map (some bm)), v] 67 (0, 0)), cM, cD] at hst199
     refine L_nil ?_
     refine W_seq ?_
     refine W_region_lit ?_
     refine Lq (.slice (some ⟨b159, 0, none⟩) 5 5) rfl rfl rfl rfl ?_
     refine L_callG hst199 (v := (.string (joinW [Wd.s ⟨#[101, 120, 105, 116]⟩, Wd.i e, Wd.s ⟨#[108, 101, 102, 116]⟩, Wd.i s.cold, Wd.s ⟨#[116, 105, 109, 101, 115]⟩]))) rfl rfl rfl (x_call (vs := #[(.slice (some ⟨b159, 0, none⟩) 5 5)]) rfl rfl (by kernel_rfl) ent_40) (words_spec (w := w198) (R := hp w198) (xs := [Wd.s ⟨#[101, 120, 105, 116]⟩, Wd.i e, Wd.s ⟨#[108, 101, 102, 116]⟩, Wd.i s.cold, Wd.s ⟨#[116, 105, 109, 101, 115]⟩]) (hT.mono hst199.rle') (Le.refl _) (OwnL.freeze (OwnL.lit (t := tyWd) (xs := [Wd.s ⟨#[101, 120, 105, 116]⟩, Wd.i e, Wd.s ⟨#[108, 101, 102, 116]⟩, Wd.i s.cold, Wd.s ⟨#[116, 105, 109, 101, 115]⟩]) (T := 20) (R := R) (cs := [(.iface 9 (.string ⟨#[101, 120, 105, 116]⟩)), (.iface 3 (int e)), (.iface 9 (.string ⟨#[108, 101, 102, 116]⟩)), (.iface 3 (int s.cold)), (.iface 9 (.string ⟨#[116, 105, 109, 101, 115]⟩))]) (Encs.cons (show tyWd.rel _ _ [_] from rfl) (Encs.cons (show tyWd.rel _ _ [_] from rfl) (Encs.cons (show tyWd.rel _ _ [_] from rfl) (Encs.cons (show tyWd.rel _ _ [_] from rfl) (Encs.cons (show tyWd.rel _ _ [_] from rfl) Encs.nil))))) rfl (Nat.le_of_ble_eq_true rfl)) hst199.rle' (hst199.g 2)) (Oks (Sm5 (Sm_s (by decide)) (Sm_i (by constructor <;> omega)) (Sm_s (by decide)) (Sm_i (by constructor <;> omega)) (Sm_s (by decide)))) (Nat.le_of_ble_eq_true rfl)) (fun w200 hst201 => ?_)
     refine Lq (.string (joinW [Wd.s ⟨#[101, 120, 105, 116]⟩, Wd.i e, Wd.s ⟨#[108, 101, 102, 116]⟩, Wd.i s.cold, Wd.s ⟨#[116, 105, 109, 101, 115]⟩])) rfl rfl rfl rfl ?_
     refine L_nil ?_
     refine W_seq ?_
     refine W_seq ?_
     refine W_region_lit ?_
     refine Lq (ptr a 0) rfl rfl rfl rfl ?_
     refine Lq (ptr a 0) rfl rfl rfl rfl ?_
     refine Lq (ptr a 3) rfl rfl rfl (by kernel_rfl) ?_
     refine Lq (int (r.failures + 1)) rfl rfl rfl (x_load rfl rfl (run_loadVar_one ti_3 (hst201.b 4) rfl)) ?_
     refine Lq (.bool ((r.failures + 1) == 3)) rfl rfl rfl (by kernel_rfl) ?_
     refine L_nil ?_
     rcases Bool.eq_false_or_eq_true ((r.failures + 1) == 3) with c202 | c202
     ·
      have q203 := eq_of_beq c202
      refine W_cond_true (by show Value.bool _ = _; exact congrArg Value.bool c202) ?_
      refine W_region_lit ?_
      refine Lq (.string (joinW [Wd.s ⟨#[101, 120, 105, 116]⟩, Wd.i e, Wd.s ⟨#[108, 101, 102, 116]⟩, Wd.i s.cold, Wd.s ⟨#[116, 105, 109, 101, 115]⟩])) rfl rfl rfl rfl ?_
      refine Lq (.string ((joinW [Wd.s ⟨#[101, 120, 105, 116]⟩, Wd.i e, Wd.s ⟨#[108, 101, 102, 116]⟩, Wd.i s.cold, Wd.s ⟨#[116, 105, 109, 101, 115]⟩]) ++ ⟨#[44, 32, 103, 105, 118, 101, 110, 32, 117, 112]⟩)) rfl rfl rfl (x_strcat rfl rfl rfl (str_room (joinW_small (Sm5 (Sm_s (by decide)) (Sm_i (by constructor <;> omega)) (Sm_s (by decide)) (Sm_i (by constructor <;> omega)) (Sm_s (by decide))) (Nat.le_of_ble_eq_true rfl)))) ?_
      refine Lq (int (-1)) rfl rfl rfl rfl ?_
      refine Lq (.string ((joinW [Wd.s ⟨#[101, 120, 105, 116]⟩, Wd.i e, Wd.s ⟨#[108, 101, 102, 116]⟩, Wd.i s.cold, Wd.s ⟨#[116, 105, 109, 101, 115]⟩]) ++ ⟨#[44, 32, 103, 105, 118, 101, 110, 32, 117, 112]⟩)) rfl rfl rfl rfl ?_
      refine L_nil ?_
      refine W_region_lit ?_
      refine Lq (ptr p 0) rfl rfl rfl rfl ?_
      refine Lq (.agg #[(int k.1), (int k.2)]) rfl rfl rfl (x_load rfl rfl (run_loadVar_agg ti_43 (hst201.b 1) (l := [(int k.1), (int k.2)]) rfl rfl)) ?_
      refine L_call rfl rfl rfl (x_call (vs := #[(ptr p 0), (.agg #[(int k.1), (int k.2)])]) rfl rfl (by kernel_rfl) ent_47) ?_ (fun _ _ h => h)
      refine calls_of_W (n := 6) Tryd.func47 rfl Tryd.ntmps47 (Nat.le_of_ble_eq_true rfl) ?_
      refine W_seq ?_
      refine W_region_lit ?_
      refine L_new hst201 (v := fun b => ptr b 0) (ob := .cells #[(ptr p 0)] 26 (0, 0)) rfl rfl rfl (by kernel_rfl) (fun b204 w205 hst206 => ?_)
      refine L_new hst206 (v := fun b => ptr b 0) (ob := .cells #[(int k.1), (int k.2)] 43 (0, 0)) rfl rfl rfl (by kernel_rfl) (fun b207 w208 hst209 => ?_)
      refine Lq .nilFunc rfl rfl rfl rfl ?_
      refine L_nil ?_
      refine W_seq ?_
      refine W_region_lit ?_
      refine Lq (.func (.func 60) #[] #[(ptr b204 0), (ptr b207 0)]) rfl rfl rfl (by kernel_rfl) ?_
      refine Lq (.func (.func 60) #[] #[(ptr b204 0), (ptr b207 0)]) rfl rfl rfl rfl ?_
      refine L_nil ?_
      refine W_ret ?_
      refine ⟨_, _, res_run (rs := [.tmp 4]) (vs := [(.func (.func 60) #[] #[(ptr b204 0), (ptr b207 0)])]) Tryd.results47 (.cons (.tmp rfl) .nil) rfl, ?_⟩
      refine ⟨_, rfl, ?_⟩
      refine Lq (int (-1)) rfl rfl rfl rfl ?_
      refine Lq (.string ((joinW [Wd.s ⟨#[101, 120, 105, 116]⟩, Wd.i e, Wd.s ⟨#[108, 101, 102, 116]⟩, Wd.i s.cold, Wd.s ⟨#[116, 105, 109, 101, 115]⟩]) ++ ⟨#[44, 32, 103, 105, 118, 101, 110, 32, 117, 112]⟩)) rfl rfl rfl rfl ?_
      refine Lq (.iface 9 (.string ((joinW [Wd.s ⟨#[101, 120, 105, 116]⟩, Wd.i e, Wd.s ⟨#[108, 101, 102, 116]⟩, Wd.i s.cold, Wd.s ⟨#[116, 105, 109, 101, 115]⟩]) ++ ⟨#[44, 32, 103, 105, 118, 101, 110, 32, 117, 112]⟩))) rfl rfl rfl (by kernel_rfl) ?_
      refine L_new hst209 (v := fun b => .slice (some ⟨b, 0, none⟩) 1 1) (ob := .cells #[(.iface 9 (.string ((joinW [Wd.s ⟨#[101, 120, 105, 116]⟩, Wd.i e, Wd.s ⟨#[108, 101, 102, 116]⟩, Wd.i s.cold, Wd.s ⟨#[116, 105, 109, 101, 115]⟩]) ++ ⟨#[44, 32, 103, 105, 118, 101, 110, 32, 117, 112]⟩)))] 20 (0, 0)) rfl rfl rfl (by kernel_rfl) (fun b210 w211 hst212 => ?_)
      refine L_call rfl rfl rfl (x_callv (vs := #[(int (-1)), (.slice (some ⟨b210, 0, none⟩) 1 1), (ptr b204 0), (ptr b207 0)]) rfl rfl (by kernel_rfl) ent_60) ?_ (fun _ _ h => h)
      refine calls_of_W (n := 29) Tryd.func60 rfl Tryd.ntmps60 (Nat.le_of_ble_eq_true rfl) ?_
      refine W_seq ?_
      refine W_region_draw [9] (fun w => Le R (hp w) ∧ Le (one b210 (.cells #[(.iface 9 (.string ((joinW [Wd.s ⟨#[101, 120, 105, 116]⟩, Wd.i e, Wd.s ⟨#[108, 101, 102, 116]⟩, Wd.i s.cold, Wd.s ⟨#[116, 105, 109, 101, 115]⟩]) ++ ⟨#[44, 32, 103, 105, 118, 101, 110, 32, 117, 112]⟩)))] 20 (0, 0))) (hp w) ∧ Le (one b207 (.cells #[(int k.1), (int k.2)] 43 (0, 0))) (hp w) ∧ Le (one b204 (.cells #[(ptr p 0)] 26 (0, 0))) (hp w) ∧ Le c197 (hp w) ∧ Le (one b165 (.cells #[(int k.1), (int k.2)] 43 (0, 0))) (hp w) ∧ Le (one b159 (.cells #[(.iface 9 (.string ⟨#[101, 120, 105, 116]⟩)), (.iface 3 (int e)), (.iface 9 (.string ⟨#[108, 101, 102, 116]⟩)), (.iface 3 (int s.cold)), (.iface 9 (.string ⟨#[116, 105, 109, 101, 115]⟩))] 20 (0, 0))) (hp w) ∧ Le c71 (hp w) ∧ Le (one a (.cells #[(int r.tier), (int r.calls), (int s.warm), (int (r.failures + 1)), (.map (some b193))] 93 (0, 0))) (hp w) ∧ Le c2 (hp w) ∧ Le (one b4 (.cells #[(int k.1), (int k.2)] 43 (0, 0))) (hp w) ∧ Le (one b1 (.cells #[(int k.1), (int k.2)] 43 (0, 0))) (hp w) ∧ Le (one p (.cells #[(int s.sample), (int s.warm), (int s.hot), (int s.cold), (.map (some bm)), v] 67 (0, 0))) (hp w) ∧ Le cM (hp w) ∧ Le cD (hp w)) hmix (by decide +kernel) (fun _ _ h => h) ?_
      have hst214 := hst212.draws (w211.drawn + 1)
      generalize draws w211 (w211.drawn + 1) = w213 at hst214 ⊢
      refine LT (ptr p 0) 0 rfl rfl rfl (fun u216 hF217 => (x_load rfl rfl (run_loadVar_one ti_26 (hF217.2.2.2.1 _ _ (one_self _ _)) rfl))) ⟨hst214.rle', hst214.g 0, hst214.g 1, hst214.g 2, hst214.g 3, hst214.g 4, hst214.g 5, hst214.g 6, hst214.g 7, hst214.g 8, hst214.g 9, hst214.g 10, hst214.g 11, hst214.g 12, hst214.g 13⟩ ?_
      refine LP (ptr p 0) 1 rfl rfl rfl (fun u219 => rfl) ⟨hst214.rle', hst214.g 0, hst214.g 1, hst214.g 2, hst214.g 3, hst214.g 4, hst214.g 5, hst214.g 6, hst214.g 7, hst214.g 8, hst214.g 9, hst214.g 10, hst214.g 11, hst214.g 12, hst214.g 13⟩ ?_
      refine LP (ptr p 4) 2 rfl rfl rfl (fun u222 => (by kernel_rfl)) ⟨hst214.rle', hst214.g 0, hst214.g 1, hst214.g 2, hst214.g 3, hst214.g 4, hst214.g 5, hst214.g 6, hst214.g 7, hst214.g 8, hst214.g 9, hst214.g 10, hst214.g 11, hst214.g 12, hst214.g 13⟩ ?_
      refine LT (.map (some bm)) 3 rfl rfl rfl (fun u225 hF226 => (x_load rfl rfl (run_loadVar_one ti_65 (hF226.2.2.2.2.2.2.2.2.2.2.2.2.1 _ _ (one_self _ _)) rfl))) ⟨hst214.rle', hst214.g 0, hst214.g 1, hst214.g 2, hst214.g 3, hst214.g 4, hst214.g 5, hst214.g 6, hst214.g 7, hst214.g 8, hst214.g 9, hst214.g 10, hst214.g 11, hst214.g 12, hst214.g 13⟩ ?_
      refine LT (.agg #[(int k.1), (int k.2)]) 4 rfl rfl rfl (fun u228 hF229 => (x_load rfl rfl (run_loadVar_agg ti_43 (hF229.2.2.1 _ _ (one_self _ _)) (l := [(int k.1), (int k.2)]) rfl rfl))) ⟨hst214.rle', hst214.g 0, hst214.g 1, hst214.g 2, hst214.g 3, hst214.g 4, hst214.g 5, hst214.g 6, hst214.g 7, hst214.g 8, hst214.g 9, hst214.g 10, hst214.g 11, hst214.g 12, hst214.g 13⟩ ?_
      refine LT (ptr a 0) 5 rfl rfl rfl (fun u231 hF232 => x_lookup rfl rfl rfl (by have h_ := MapC.lookupP (w := u231) hM hF232.2.2.2.2.2.2.2.2.2.2.2.2.2.1 law43 mt_65 ti_81 k false none rfl; rw [hg] at h_; exact h_)) ⟨hst214.rle', hst214.g 0, hst214.g 1, hst214.g 2, hst214.g 3, hst214.g 4, hst214.g 5, hst214.g 6, hst214.g 7, hst214.g 8, hst214.g 9, hst214.g 10, hst214.g 11, hst214.g 12, hst214.g 13⟩ ?_
      refine LP (int (-1)) 6 rfl rfl rfl (fun u234 => rfl) ⟨hst214.rle', hst214.g 0, hst214.g 1, hst214.g 2, hst214.g 3, hst214.g 4, hst214.g 5, hst214.g 6, hst214.g 7, hst214.g 8, hst214.g 9, hst214.g 10, hst214.g 11, hst214.g 12, hst214.g 13⟩ ?_
      refine LP (ptr a 0) 7 rfl rfl rfl (fun u237 => rfl) ⟨hst214.rle', hst214.g 0, hst214.g 1, hst214.g 2, hst214.g 3, hst214.g 4, hst214.g 5, hst214.g 6, hst214.g 7, hst214.g 8, hst214.g 9, hst214.g 10, hst214.g 11, hst214.g 12, hst214.g 13⟩ ?_
      refine LP (ptr a 0) 8 rfl rfl rfl (fun u240 => (by kernel_rfl)) ⟨hst214.rle', hst214.g 0, hst214.g 1, hst214.g 2, hst214.g 3, hst214.g 4, hst214.g 5, hst214.g 6, hst214.g 7, hst214.g 8, hst214.g 9, hst214.g 10, hst214.g 11, hst214.g 12, hst214.g 13⟩ ?_
      refine LA_all [9] (by decide +kernel) (by simp) ?_
      intro i_ hi_
      simp only [List.mem_cons, List.not_mem_nil, or_false] at hi_
      subst hi_
      obtain ⟨w243, hr245, hst244⟩ := run_storeW (P := Tryd.prog) (b := a) (off := 0) (v := (int (-1))) hst214 7 ti_3 rfl rfl rfl rfl rfl rfl
      change Step _ _ _ _ _ [one b210 (.cells #[(.iface 9 (.string ((joinW [Wd.s ⟨#[101, 120, 105, 116]⟩, Wd.i e, Wd.s ⟨#[108, 101, 102, 116]⟩, Wd.i s.cold, Wd.s ⟨#[116, 105, 109, 101, 115]⟩]) ++ ⟨#[44, 32, 103, 105, 118, 101, 110, 32, 117, 112]⟩)))] 20 (0, 0)), one b207 (.cells #[(int k.1), (int k.2)] 43 (0, 0)), one b204 (.cells #[(ptr p 0)] 26 (0, 0)), c197, one b165 (.cells #[(int k.1), (int k.2)] 43 (0, 0)), one b159 (.cells #[(.iface 9 (.string ⟨#[101, 120, 105, 116]⟩)), (.iface 3 (int e)), (.iface 9 (.string ⟨#[108, 101, 102, 116]⟩)), (.iface 3 (int s.cold)), (.iface 9 (.string ⟨#[116, 105, 109, 101, 115]⟩))] 20 (0, 0)), c71, one a (.cells #[(int (-1)), (int r.calls), (int s.warm), (int (r.failures + 1)), (.map (some b193))] 93 (0, 0)), c2, one b4 (.cells #[(int k.1), (int k.2)] 43 (0, 0)), one b1 (.cells #[(int k.1), (int k.2)] 43 (0, 0)), one p (.cells #[(int s.sample), (int s.warm), (int s.hot), (int s.cold), (.map (some bm)), v] 67 (0, 0)), cM, cD] at hst244
      refine One_skip (i := 9) rfl rfl (Want.plain rfl) (x_store rfl rfl rfl hr245) (fun h => absurd h (by decide +kernel)) ?_
      refine LA_done (by decide +kernel) ?_
      refine W_region_draw [14] (fun w => Le R (hp w) ∧ Le (one b210 (.cells #[(.iface 9 (.string ((joinW [Wd.s ⟨#[101, 120, 105, 116]⟩, Wd.i e, Wd.s ⟨#[108, 101, 102, 116]⟩, Wd.i s.cold, Wd.s ⟨#[116, 105, 109, 101, 115]⟩]) ++ ⟨#[44, 32, 103, 105, 118, 101, 110, 32, 117, 112]⟩)))] 20 (0, 0))) (hp w) ∧ Le (one b207 (.cells #[(int k.1), (int k.2)] 43 (0, 0))) (hp w) ∧ Le (one b204 (.cells #[(ptr p 0)] 26 (0, 0))) (hp w) ∧ Le c197 (hp w) ∧ Le (one b165 (.cells #[(int k.1), (int k.2)] 43 (0, 0))) (hp w) ∧ Le (one b159 (.cells #[(.iface 9 (.string ⟨#[101, 120, 105, 116]⟩)), (.iface 3 (int e)), (.iface 9 (.string ⟨#[108, 101, 102, 116]⟩)), (.iface 3 (int s.cold)), (.iface 9 (.string ⟨#[116, 105, 109, 101, 115]⟩))] 20 (0, 0))) (hp w) ∧ Le c71 (hp w) ∧ Le (one a (.cells #[(int (-1)), (int r.calls), (int s.warm), (int (r.failures + 1)), (.map (some b193))] 93 (0, 0))) (hp w) ∧ Le c2 (hp w) ∧ Le (one b4 (.cells #[(int k.1), (int k.2)] 43 (0, 0))) (hp w) ∧ Le (one b1 (.cells #[(int k.1), (int k.2)] 43 (0, 0))) (hp w) ∧ Le (one p (.cells #[(int s.sample), (int s.warm), (int s.hot), (int s.cold), (.map (some bm)), v] 67 (0, 0))) (hp w) ∧ Le cM (hp w)) hmix (by decide +kernel) (fun _ _ h => h) ?_
      have hst247 := hst244.draws (w243.drawn + 1)
      generalize draws w243 (w243.drawn + 1) = w246 at hst247 ⊢
      refine LT (ptr p 0) 0 rfl rfl rfl (fun u249 hF250 => (x_load rfl rfl (run_loadVar_one ti_26 (hF250.2.2.2.1 _ _ (one_self _ _)) rfl))) ⟨hst247.rle', hst247.g 0, hst247.g 1, hst247.g 2, hst247.g 3, hst247.g 4, hst247.g 5, hst247.g 6, hst247.g 7, hst247.g 8, hst247.g 9, hst247.g 10, hst247.g 11, hst247.g 12⟩ ?_
      refine LT (ptr p 0) 1 rfl rfl rfl (fun u252 hF253 => (x_load rfl rfl (run_loadVar_one ti_26 (hF253.2.2.2.1 _ _ (one_self _ _)) rfl))) ⟨hst247.rle', hst247.g 0, hst247.g 1, hst247.g 2, hst247.g 3, hst247.g 4, hst247.g 5, hst247.g 6, hst247.g 7, hst247.g 8, hst247.g 9, hst247.g 10, hst247.g 11, hst247.g 12⟩ ?_
      refine LP (ptr p 0) 2 rfl rfl rfl (fun u255 => rfl) ⟨hst247.rle', hst247.g 0, hst247.g 1, hst247.g 2, hst247.g 3, hst247.g 4, hst247.g 5, hst247.g 6, hst247.g 7, hst247.g 8, hst247.g 9, hst247.g 10, hst247.g 11, hst247.g 12⟩ ?_
      refine LP (ptr p 5) 3 rfl rfl rfl (fun u258 => (by kernel_rfl)) ⟨hst247.rle', hst247.g 0, hst247.g 1, hst247.g 2, hst247.g 3, hst247.g 4, hst247.g 5, hst247.g 6, hst247.g 7, hst247.g 8, hst247.g 9, hst247.g 10, hst247.g 11, hst247.g 12⟩ ?_
      refine LT v 4 rfl rfl rfl (fun u261 hF262 => (x_load rfl rfl (run_loadVar_one ti_36 (hF262.2.2.2.2.2.2.2.2.2.2.2.2.1 _ _ (one_self _ _)) rfl))) ⟨hst247.rle', hst247.g 0, hst247.g 1, hst247.g 2, hst247.g 3, hst247.g 4, hst247.g 5, hst247.g 6, hst247.g 7, hst247.g 8, hst247.g 9, hst247.g 10, hst247.g 11, hst247.g 12⟩ ?_
      refine LT (.agg #[(int k.1), (int k.2)]) 5 rfl rfl rfl (fun u264 hF265 => (x_load rfl rfl (run_loadVar_agg ti_43 (hF265.2.2.1 _ _ (one_self _ _)) (l := [(int k.1), (int k.2)]) rfl rfl))) ⟨hst247.rle', hst247.g 0, hst247.g 1, hst247.g 2, hst247.g 3, hst247.g 4, hst247.g 5, hst247.g 6, hst247.g 7, hst247.g 8, hst247.g 9, hst247.g 10, hst247.g 11, hst247.g 12⟩ ?_
      refine LP (int (-1)) 6 rfl rfl rfl (fun u267 => rfl) ⟨hst247.rle', hst247.g 0, hst247.g 1, hst247.g 2, hst247.g 3, hst247.g 4, hst247.g 5, hst247.g 6, hst247.g 7, hst247.g 8, hst247.g 9, hst247.g 10, hst247.g 11, hst247.g 12⟩ ?_
      refine LP (.slice (some ⟨b210, 0, none⟩) 1 1) 7 rfl rfl rfl (fun u270 => rfl) ⟨hst247.rle', hst247.g 0, hst247.g 1, hst247.g 2, hst247.g 3, hst247.g 4, hst247.g 5, hst247.g 6, hst247.g 7, hst247.g 8, hst247.g 9, hst247.g 10, hst247.g 11, hst247.g 12⟩ ?_
      refine LA_all [8] (by decide +kernel) (by simp) ?_
      intro i_ hi_
      simp only [List.mem_cons, List.not_mem_nil, or_false] at hi_
      subst hi_
      refine One_call (i := 8) rfl rfl rfl (Want.plain rfl) (x_call (vs := #[(.slice (some ⟨b210, 0, none⟩) 1 1)]) rfl rfl (by kernel_rfl) ent_40) (words_spec (w := w246) (R := hp w246) (xs := [Wd.s ((joinW [Wd.s ⟨#[101, 120, 105, 116]⟩, Wd.i e, Wd.s ⟨#[108, 101, 102, 116]⟩, Wd.i s.cold, Wd.s ⟨#[116, 105, 109, 101, 115]⟩]) ++ ⟨#[44, 32, 103, 105, 118, 101, 110, 32, 117, 112]⟩)]) (hT.mono hst247.rle') (Le.refl _) (OwnL.freeze (OwnL.lit (t := tyWd) (xs := [Wd.s ((joinW [Wd.s ⟨#[101, 120, 105, 116]⟩, Wd.i e, Wd.s ⟨#[108, 101, 102, 116]⟩, Wd.i s.cold, Wd.s ⟨#[116, 105, 109, 101, 115]⟩]) ++ ⟨#[44, 32, 103, 105, 118, 101, 110, 32, 117, 112]⟩)]) (T := 20) (R := R) (cs := [(.iface 9 (.string ((joinW [Wd.s ⟨#[101, 120, 105, 116]⟩, Wd.i e, Wd.s ⟨#[108, 101, 102, 116]⟩, Wd.i s.cold, Wd.s ⟨#[116, 105, 109, 101, 115]⟩]) ++ ⟨#[44, 32, 103, 105, 118, 101, 110, 32, 117, 112]⟩)))]) (Encs.cons (show tyWd.rel _ _ [_] from rfl) Encs.nil) rfl (Nat.le_of_ble_eq_true rfl)) hst247.rle' (hst247.g 0)) (Ok1 (given_le (joinW_small (Sm5 (Sm_s (by decide)) (Sm_i (by constructor <;> omega)) (Sm_s (by decide)) (Sm_i (by constructor <;> omega)) (Sm_s (by decide))) (Nat.le_of_ble_eq_true rfl)))) (Nat.le_of_ble_eq_true rfl)) ?_
      rintro e277 w275 ⟨rfl, hw278⟩
      have hst276 := hst247.grown hw278
      refine ⟨_, rfl, (fun _ => ⟨hst276.rle', hst276.g 0, hst276.g 1, hst276.g 2, hst276.g 3, hst276.g 4, hst276.g 5, hst276.g 6, hst276.g 7, hst276.g 8, hst276.g 9, hst276.g 10, hst276.g 11, hst276.g 12⟩), ?_⟩
      refine LP (.agg #[(int k.1), (int k.2), (int (-1)), (.string (joinW [Wd.s ((joinW [Wd.s ⟨#[101, 120, 105, 116]⟩, Wd.i e, Wd.s ⟨#[108, 101, 102, 116]⟩, Wd.i s.cold, Wd.s ⟨#[116, 105, 109, 101, 115]⟩]) ++ ⟨#[44, 32, 103, 105, 118, 101, 110, 32, 117, 112]⟩)]))]) 9 rfl rfl rfl (fun u280 => (by kernel_rfl)) ⟨hst276.rle', hst276.g 0, hst276.g 1, hst276.g 2, hst276.g 3, hst276.g 4, hst276.g 5, hst276.g 6, hst276.g 7, hst276.g 8, hst276.g 9, hst276.g 10, hst276.g 11, hst276.g 12⟩ ?_
      refine LA_all [10] (by decide +kernel) (by simp) ?_
      intro i_ hi_
      simp only [List.mem_cons, List.not_mem_nil, or_false] at hi_
      subst hi_
      refine One_new hst276 (i := 10) (v := fun b => .slice (some ⟨b, 0, none⟩) 1 1) (ob := .cells #[(int k.1), (int k.2), (int (-1)), (.string (joinW [Wd.s ((joinW [Wd.s ⟨#[101, 120, 105, 116]⟩, Wd.i e, Wd.s ⟨#[108, 101, 102, 116]⟩, Wd.i s.cold, Wd.s ⟨#[116, 105, 109, 101, 115]⟩]) ++ ⟨#[44, 32, 103, 105, 118, 101, 110, 32, 117, 112]⟩)]))] 49 (0, 0)) rfl rfl rfl (Want.plain rfl) (by kernel_rfl) (fun b285 w286 hst287 => ?_)
      refine ⟨(fun _ => ⟨hst287.rle', hst287.g 1, hst287.g 2, hst287.g 3, hst287.g 4, hst287.g 5, hst287.g 6, hst287.g 7, hst287.g 8, hst287.g 9, hst287.g 10, hst287.g 11, hst287.g 12, hst287.g 13⟩), ?_⟩
      refine LA_all [11] (by decide +kernel) (by simp) ?_
      intro i_ hi_
      simp only [List.mem_cons, List.not_mem_nil, or_false] at hi_
      subst hi_
      refine One_append (j := 11) hst287 (t := 36) (e := 49) (ys := [Dec.mk k (-1) (joinW [Wd.s ((joinW [Wd.s ⟨#[101, 120, 105, 116]⟩, Wd.i e, Wd.s ⟨#[108, 101, 102, 116]⟩, Wd.i s.cold, Wd.s ⟨#[116, 105, 109, 101, 115]⟩]) ++ ⟨#[44, 32, 103, 105, 118, 101, 110, 32, 117, 112]⟩)])]) (src := [(int k.1), (int k.2), (int (-1)), (.string (joinW [Wd.s ((joinW [Wd.s ⟨#[101, 120, 105, 116]⟩, Wd.i e, Wd.s ⟨#[108, 101, 102, 116]⟩, Wd.i s.cold, Wd.s ⟨#[116, 105, 109, 101, 115]⟩]) ++ ⟨#[44, 32, 103, 105, 118, 101, 110, 32, 117, 112]⟩)]))]) 14 rfl rfl rfl (Want.plain rfl) rfl rfl rfl sl_36 ti_49 rfl rfl rfl hD (src_own (hst287.b 0)) (Encs.one (tyDec_mk _ _ _ _ _)) rfl (by first | omega | (simp only [List.length_append, List.length_cons, List.length_nil]; omega)) (by first | (simp only [maxLen]; omega) | (simp only [List.length_append, List.length_cons, List.length_nil, maxLen]; omega)) (fun v291 c292 w293 ho294 hst295 => ?_)
      refine ⟨(fun _ => ⟨hst295.rle', hst295.g 2, hst295.g 3, hst295.g 4, hst295.g 5, hst295.g 6, hst295.g 7, hst295.g 8, hst295.g 9, hst295.g 10, hst295.g 11, hst295.g 12, hst295.g 13, hst295.g 14⟩), ?_⟩
      refine LP (ptr p 0) 12 rfl rfl rfl (fun u297 => rfl) ⟨hst295.rle', hst295.g 2, hst295.g 3, hst295.g 4, hst295.g 5, hst295.g 6, hst295.g 7, hst295.g 8, hst295.g 9, hst295.g 10, hst295.g 11, hst295.g 12, hst295.g 13, hst295.g 14⟩ ?_
      refine LP (ptr p 5) 13 rfl rfl rfl (fun u300 => (by kernel_rfl)) ⟨hst295.rle', hst295.g 2, hst295.g 3, hst295.g 4, hst295.g 5, hst295.g 6, hst295.g 7, hst295.g 8, hst295.g 9, hst295.g 10, hst295.g 11, hst295.g 12, hst295.g 13, hst295.g 14⟩ ?_
      refine LA_all [14] (by decide +kernel) (by simp) ?_
      intro i_ hi_
      simp only [List.mem_cons, List.not_mem_nil, or_false] at hi_
      subst hi_
      obtain ⟨a303, cap304, e305, hc306⟩ := ho294.value
      subst e305
      obtain ⟨w307, hr309, hst308⟩ := run_storeW (P := Tryd.prog) (b := p) (off := 5) (v := (.slice a303 ((s.decs ++ [Dec.mk k (-1) (joinW [Wd.s ((joinW [Wd.s ⟨#[101, 120, 105, 116]⟩, Wd.i e, Wd.s ⟨#[108, 101, 102, 116]⟩, Wd.i s.cold, Wd.s ⟨#[116, 105, 109, 101, 115]⟩]) ++ ⟨#[44, 32, 103, 105, 118, 101, 110, 32, 117, 112]⟩)])]).length) cap304)) hst295 13 ti_36 rfl rfl rfl rfl rfl rfl
      change Step _ _ _ _ _ [c292, one b285 (.cells #[(int k.1), (int k.2), (int (-1)), (.string (joinW [Wd.s ((joinW [Wd.s ⟨#[101, 120, 105, 116]⟩, Wd.i e, Wd.s ⟨#[108, 101, 102, 116]⟩, Wd.i s.cold, Wd.s ⟨#[116, 105, 109, 101, 115]⟩]) ++ ⟨#[44, 32, 103, 105, 118, 101, 110, 32, 117, 112]⟩)]))] 49 (0, 0)), one b210 (.cells #[(.iface 9 (.string ((joinW [Wd.s ⟨#[101, 120, 105, 116]⟩, Wd.i e, Wd.s ⟨#[108, 101, 102, 116]⟩, Wd.i s.cold, Wd.s ⟨#[116, 105, 109, 101, 115]⟩]) ++ ⟨#[44, 32, 103, 105, 118, 101, 110, 32, 117, 112]⟩)))] 20 (0, 0)), one b207 (.cells #[(int k.1), (int k.2)] 43 (0, 0)), one b204 (.cells #[(ptr p 0)] 26 (0, 0)), c197, one b165 (.cells #[(int k.1), (int k.2)] 43 (0, 0)), one b159 (.cells #[(.iface 9 (.string ⟨#[101, 120, 105, 116]⟩)), (.iface 3 (int e)), (.iface 9 (.string ⟨#[108, 101, 102, 116]⟩)), (.iface 3 (int s.cold)), (.iface 9 (.string ⟨#[116, 105, 109, 101, 115]⟩))] 20 (0, 0)), c71, one a (.cells #[(int (-1)), (int r.calls), (int s.warm), (int (r.failures + 1)), (.map (some b193))] 93 (0, 0)), c2, one b4 (.cells #[(int k.1), (int k.2)] 43 (0, 0)), one b1 (.cells #[(int k.1), (int k.2)] 43 (0, 0)), one p (.cells #[(int s.sample), (int s.warm), (int s.hot), (int s.cold), (.map (some bm)), (.slice a303 ((s.decs ++ [Dec.mk k (-1) (joinW [Wd.s ((joinW [Wd.s ⟨#[101, 120, 105, 116]⟩, Wd.i e, Wd.s ⟨#[108, 101, 102, 116]⟩, Wd.i s.cold, Wd.s ⟨#[116, 105, 109, 101, 115]⟩]) ++ ⟨#[44, 32, 103, 105, 118, 101, 110, 32, 117, 112]⟩)])]).length) cap304)] 67 (0, 0)), cM] at hst308
      refine One_skip (i := 14) rfl rfl (Want.plain rfl) (x_store rfl rfl rfl hr309) (fun h => absurd h (by decide +kernel)) ?_
      refine LA_done (by decide +kernel) ?_
      refine ⟨_, _, res_run (rs := []) (vs := []) Tryd.results60 .nil rfl, ?_⟩
      refine ⟨_, rfl, ?_⟩
      refine L_nil ?_
      refine ⟨_, _, res_run (rs := []) (vs := []) Tryd.results48 .nil rfl, ?_⟩
      refine ⟨_, rfl, (fun _ => ⟨hst308.rle', hst308.g 11, hst308.g 12⟩), ?_⟩
      refine LA_done (by decide +kernel) ?_
      refine W_seq ?_
      refine W_region_lit ?_
      refine Lq (.bool true) rfl rfl rfl rfl ?_
      refine L_nil ?_
      refine W_ret ?_
      refine ⟨_, _, res_run (rs := [.tmp 6]) (vs := [(.bool true)]) Tryd.results24 (.cons (.tmp rfl) .nil) rfl, ?_⟩
      have he := left_back (s := s) hgr (by simpa using c62) (of_decide_eq_false c65) (by simpa [AL.get_set] using of_decide_eq_false c111)
      rw [he]
      have hro2 : Rec.Ok s.n r := hro
      have he2 := setBack_up (s := s) (k := k) (t := 1) (l := [Wd.s wExit, Wd.i e, Wd.s wLeft, Wd.i s.cold, Wd.s wTimes]) (r := { r with exits := AL.set r.exits e ((AL.get r.exits e).getD 0 + 1), count := s.warm }) (eq_of_beq c202)
      have hok2 := hok.setBack (k := k) (t := 1) (ex := AL.set r.exits e ((AL.get r.exits e).getD 0 + 1)) (c := s.warm) (l := [Wd.s wExit, Wd.i e, Wd.s wLeft, Wd.i s.cold, Wd.s wTimes]) hro2 (by constructor <;> omega) (by decide) (Sm5 (Sm_s (by decide)) (Sm_i (by constructor <;> omega)) (Sm_s (by decide)) (Sm_i (by constructor <;> omega)) (Sm_s (by decide))) (Nat.le_of_ble_eq_true rfl)
      rw [show s.setBack k { r with exits := AL.set r.exits e ((AL.get r.exits e).getD 0 + 1), count := s.warm } 1 [Wd.s wExit, Wd.i e, Wd.s wLeft, Wd.i s.cold, Wd.s wTimes] = _ from he2] at hok2
      rw [he2]
      obtain ⟨c', hst', hprof'⟩ := Prof.closeR (s := s.decide k ⟨r.tier, r.calls, s.warm, r.failures + 1, []⟩ (-1) (joinW [Wd.s (joinW [Wd.s wExit, Wd.i e, Wd.s wLeft, Wd.i s.cold, Wd.s wTimes] ++ wGiven)])) (r := ⟨(-1), r.calls, s.warm, r.failures + 1, []⟩) (((((hst308.front 10 rfl rfl).front 6 rfl rfl).front 10 rfl rfl).front 14 rfl rfl).front 14 rfl rfl) hM hm196 (fun c1 h d => hback _ c1 h d) ho294 hok2
      exact ⟨_, _, _, rfl, hst'.keepN 1 rfl, c', rfl, rfl, hprof'⟩
     ·
      have q310 := ne_of_beq_false c202
      refine W_cond_false (by show Value.bool _ = _; exact congrArg Value.bool c202) ?_
      refine W_skip ?_
      refine W_region_lit ?_
      refine Lq (ptr p 0) rfl rfl rfl rfl ?_
      refine Lq (.agg #[(int k.1), (int k.2)]) rfl rfl rfl (x_load rfl rfl (run_loadVar_agg ti_43 (hst201.b 1) (l := [(int k.1), (int k.2)]) rfl rfl)) ?_
      refine L_call rfl rfl rfl (x_call (vs := #[(ptr p 0), (.agg #[(int k.1), (int k.2)])]) rfl rfl (by kernel_rfl) ent_47) ?_ (fun _ _ h => h)
      refine calls_of_W (n := 6) Tryd.func47 rfl Tryd.ntmps47 (Nat.le_of_ble_eq_true rfl) ?_
      refine W_seq ?_
      refine W_region_lit ?_
      refine L_new hst201 (v := fun b => ptr b 0) (ob := .cells #[(ptr p 0)] 26 (0, 0)) rfl rfl rfl (by kernel_rfl) (fun b311 w312 hst313 => ?_)
      refine L_new hst313 (v := fun b => ptr b 0) (ob := .cells #[(int k.1), (int k.2)] 43 (0, 0)) rfl rfl rfl (by kernel_rfl) (fun b314 w315 hst316 => ?_)
      refine Lq .nilFunc rfl rfl rfl rfl ?_
      refine L_nil ?_
      refine W_seq ?_
      refine W_region_lit ?_
      refine Lq (.func (.func 60) #[] #[(ptr b311 0), (ptr b314 0)]) rfl rfl rfl (by kernel_rfl) ?_
      refine Lq (.func (.func 60) #[] #[(ptr b311 0), (ptr b314 0)]) rfl rfl rfl rfl ?_
      refine L_nil ?_
      refine W_ret ?_
      refine ⟨_, _, res_run (rs := [.tmp 4]) (vs := [(.func (.func 60) #[] #[(ptr b311 0), (ptr b314 0)])]) Tryd.results47 (.cons (.tmp rfl) .nil) rfl, ?_⟩
      refine ⟨_, rfl, ?_⟩
      refine Lq (int 1) rfl rfl rfl rfl ?_
      refine Lq (.string (joinW [Wd.s ⟨#[101, 120, 105, 116]⟩, Wd.i e, Wd.s ⟨#[108, 101, 102, 116]⟩, Wd.i s.cold, Wd.s ⟨#[116, 105, 109, 101, 115]⟩])) rfl rfl rfl rfl ?_
      refine Lq (.iface 9 (.string (joinW [Wd.s ⟨#[101, 120, 105, 116]⟩, Wd.i e, Wd.s ⟨#[108, 101, 102, 116]⟩, Wd.i s.cold, Wd.s ⟨#[116, 105, 109, 101, 115]⟩]))) rfl rfl rfl (by kernel_rfl) ?_
      refine L_new hst316 (v := fun b => .slice (some ⟨b, 0, none⟩) 1 1) (ob := .cells #[(.iface 9 (.string (joinW [Wd.s ⟨#[101, 120, 105, 116]⟩, Wd.i e, Wd.s ⟨#[108, 101, 102, 116]⟩, Wd.i s.cold, Wd.s ⟨#[116, 105, 109, 101, 115]⟩])))] 20 (0, 0)) rfl rfl rfl (by kernel_rfl) (fun b317 w318 hst319 => ?_)
      refine L_call rfl rfl rfl (x_callv (vs := #[(int 1), (.slice (some ⟨b317, 0, none⟩) 1 1), (ptr b311 0), (ptr b314 0)]) rfl rfl (by kernel_rfl) ent_60) ?_ (fun _ _ h => h)
      refine calls_of_W (n := 29) Tryd.func60 rfl Tryd.ntmps60 (Nat.le_of_ble_eq_true rfl) ?_
      refine W_seq ?_
      refine W_region_draw [9] (fun w => Le R (hp w) ∧ Le (one b317 (.cells #[(.iface 9 (.string (joinW [Wd.s ⟨#[101, 120, 105, 116]⟩, Wd.i e, Wd.s ⟨#[108, 101, 102, 116]⟩, Wd.i s.cold, Wd.s ⟨#[116, 105, 109, 101, 115]⟩])))] 20 (0, 0))) (hp w) ∧ Le (one b314 (.cells #[(int k.1), (int k.2)] 43 (0, 0))) (hp w) ∧ Le (one b311 (.cells #[(ptr p 0)] 26 (0, 0))) (hp w) ∧ Le c197 (hp w) ∧ Le (one b165 (.cells #[(int k.1), (int k.2)] 43 (0, 0))) (hp w) ∧ Le (one b159 (.cells #[(.iface 9 (.string ⟨#[101, 120, 105, 116]⟩)), (.iface 3 (int e)), (.iface 9 (.string ⟨#[108, 101, 102, 116]⟩)), (.iface 3 (int s.cold)), (.iface 9 (.string ⟨#[116, 105, 109, 101, 115]⟩))] 20 (0, 0))) (hp w) ∧ Le c71 (hp w) ∧ Le (one a (.cells #[(int r.tier), (int r.calls), (int s.warm), (int (r.failures + 1)), (.map (some b193))] 93 (0, 0))) (hp w) ∧ Le c2 (hp w) ∧ Le (one b4 (.cells #[(int k.1), (int k.2)] 43 (0, 0))) (hp w) ∧ Le (one b1 (.cells #[(int k.1), (int k.2)] 43 (0, 0))) (hp w) ∧ Le (one p (.cells #[(int s.sample), (int s.warm), (int s.hot), (int s.cold), (.map (some bm)), v] 67 (0, 0))) (hp w) ∧ Le cM (hp w) ∧ Le cD (hp w)) hmix (by decide +kernel) (fun _ _ h => h) ?_
      have hst321 := hst319.draws (w318.drawn + 1)
      generalize draws w318 (w318.drawn + 1) = w320 at hst321 ⊢
      refine LT (ptr p 0) 0 rfl rfl rfl (fun u323 hF324 => (x_load rfl rfl (run_loadVar_one ti_26 (hF324.2.2.2.1 _ _ (one_self _ _)) rfl))) ⟨hst321.rle', hst321.g 0, hst321.g 1, hst321.g 2, hst321.g 3, hst321.g 4, hst321.g 5, hst321.g 6, hst321.g 7, hst321.g 8, hst321.g 9, hst321.g 10, hst321.g 11, hst321.g 12, hst321.g 13⟩ ?_
      refine LP (ptr p 0) 1 rfl rfl rfl (fun u326 => rfl) ⟨hst321.rle', hst321.g 0, hst321.g 1, hst321.g 2, hst321.g 3, hst321.g 4, hst321.g 5, hst321.g 6, hst321.g 7, hst321.g 8, hst321.g 9, hst321.g 10, hst321.g 11, hst321.g 12, hst321.g 13⟩ ?_
      refine LP (ptr p 4) 2 rfl rfl rfl (fun u329 => (by kernel_rfl)) ⟨hst321.rle', hst321.g 0, hst321.g 1, hst321.g 2, hst321.g 3, hst321.g 4, hst321.g 5, hst321.g 6, hst321.g 7, hst321.g 8, hst321.g 9, hst321.g 10, hst321.g 11, hst321.g 12, hst321.g 13⟩ ?_
      refine LT (.map (some bm)) 3 rfl rfl rfl (fun u332 hF333 => (x_load rfl rfl (run_loadVar_one ti_65 (hF333.2.2.2.2.2.2.2.2.2.2.2.2.1 _ _ (one_self _ _)) rfl))) ⟨hst321.rle', hst321.g 0, hst321.g 1, hst321.g 2, hst321.g 3, hst321.g 4, hst321.g 5, hst321.g 6, hst321.g 7, hst321.g 8, hst321.g 9, hst321.g 10, hst321.g 11, hst321.g 12, hst321.g 13⟩ ?_
      refine LT (.agg #[(int k.1), (int k.2)]) 4 rfl rfl rfl (fun u335 hF336 => (x_load rfl rfl (run_loadVar_agg ti_43 (hF336.2.2.1 _ _ (one_self _ _)) (l := [(int k.1), (int k.2)]) rfl rfl))) ⟨hst321.rle', hst321.g 0, hst321.g 1, hst321.g 2, hst321.g 3, hst321.g 4, hst321.g 5, hst321.g 6, hst321.g 7, hst321.g 8, hst321.g 9, hst321.g 10, hst321.g 11, hst321.g 12, hst321.g 13⟩ ?_
      refine LT (ptr a 0) 5 rfl rfl rfl (fun u338 hF339 => x_lookup rfl rfl rfl (by have h_ := MapC.lookupP (w := u338) hM hF339.2.2.2.2.2.2.2.2.2.2.2.2.2.1 law43 mt_65 ti_81 k false none rfl; rw [hg] at h_; exact h_)) ⟨hst321.rle', hst321.g 0, hst321.g 1, hst321.g 2, hst321.g 3, hst321.g 4, hst321.g 5, hst321.g 6, hst321.g 7, hst321.g 8, hst321.g 9, hst321.g 10, hst321.g 11, hst321.g 12, hst321.g 13⟩ ?_
      refine LP (int 1) 6 rfl rfl rfl (fun u341 => rfl) ⟨hst321.rle', hst321.g 0, hst321.g 1, hst321.g 2, hst321.g 3, hst321.g 4, hst321.g 5, hst321.g 6, hst321.g 7, hst321.g 8, hst321.g 9, hst321.g 10, hst321.g 11, hst321.g 12, hst321.g 13⟩ ?_
      refine LP (ptr a 0) 7 rfl rfl rfl (fun u344 => rfl) ⟨hst321.rle', hst321.g 0, hst321.g 1, hst321.g 2, hst321.g 3, hst321.g 4, hst321.g 5, hst321.g 6, hst321.g 7, hst321.g 8, hst321.g 9, hst321.g 10, hst321.g 11, hst321.g 12, hst321.g 13⟩ ?_
      refine LP (ptr a 0) 8 rfl rfl rfl (fun u347 => (by kernel_rfl)) ⟨hst321.rle', hst321.g 0, hst321.g 1, hst321.g 2, hst321.g 3, hst321.g 4, hst321.g 5, hst321.g 6, hst321.g 7, hst321.g 8, hst321.g 9, hst321.g 10, hst321.g 11, hst321.g 12, hst321.g 13⟩ ?_
      refine LA_all [9] (by decide +kernel) (by simp) ?_
      intro i_ hi_
      simp only [List.mem_cons, List.not_mem_nil, or_false] at hi_
      subst hi_
      obtain ⟨w350, hr352, hst351⟩ := run_storeW (P := Tryd.prog) (b := a) (off := 0) (v := (int 1)) hst321 7 ti_3 rfl rfl rfl rfl rfl rfl
      change Step _ _ _ _ _ [one b317 (.cells #[(.iface 9 (.string (joinW [Wd.s ⟨#[101, 120, 105, 116]⟩, Wd.i e, Wd.s ⟨#[108, 101, 102, 116]⟩, Wd.i s.cold, Wd.s ⟨#[116, 105, 109, 101, 115]⟩])))] 20 (0, 0)), one b314 (.cells #[(int k.1), (int k.2)] 43 (0, 0)), one b311 (.cells #[(ptr p 0)] 26 (0, 0)), c197, one b165 (.cells #[(int k.1), (int k.2)] 43 (0, 0)), one b159 (.cells #[(.iface 9 (.string ⟨#[101, 120, 105, 116]⟩)), (.iface 3 (int e)), (.iface 9 (.string ⟨#[108, 101, 102, 116]⟩)), (.iface 3 (int s.cold)), (.iface 9 (.string ⟨#[116, 105, 109, 101, 115]⟩))] 20 (0, 0)), c71, one a (.cells #[(int 1), (int r.calls), (int s.warm), (int (r.failures + 1)), (.map (some b193))] 93 (0, 0)), c2, one b4 (.cells #[(int k.1), (int k.2)] 43 (0, 0)), one b1 (.cells #[(int k.1), (int k.2)] 43 (0, 0)), one p (.cells #[(int s.sample), (int s.warm), (int s.hot), (int s.cold), (.map (some bm)), v] 67 (0, 0)), cM, cD] at hst351
      refine One_skip (i := 9) rfl rfl (Want.plain rfl) (x_store rfl rfl rfl hr352) (fun h => absurd h (by decide +kernel)) ?_
      refine LA_done (by decide +kernel) ?_
      refine W_region_draw [14] (fun w => Le R (hp w) ∧ Le (one b317 (.cells #[(.iface 9 (.string (joinW [Wd.s ⟨#[101, 120, 105, 116]⟩, Wd.i e, Wd.s ⟨#[108, 101, 102, 116]⟩, Wd.i s.cold, Wd.s ⟨#[116, 105, 109, 101, 115]⟩])))] 20 (0, 0))) (hp w) ∧ Le (one b314 (.cells #[(int k.1), (int k.2)] 43 (0, 0))) (hp w) ∧ Le (one b311 (.cells #[(ptr p 0)] 26 (0, 0))) (hp w) ∧ Le c197 (hp w) ∧ Le (one b165 (.cells #[(int k.1), (int k.2)] 43 (0, 0))) (hp w) ∧ Le (one b159 (.cells #[(.iface 9 (.string ⟨#[101, 120, 105, 116]⟩)), (.iface 3 (int e)), (.iface 9 (.string ⟨#[108, 101, 102, 116]⟩)), (.iface 3 (int s.cold)), (.iface 9 (.string ⟨#[116, 105, 109, 101, 115]⟩))] 20 (0, 0))) (hp w) ∧ Le c71 (hp w) ∧ Le (one a (.cells #[(int 1), (int r.calls), (int s.warm), (int (r.failures + 1)), (.map (some b193))] 93 (0, 0))) (hp w) ∧ Le c2 (hp w) ∧ Le (one b4 (.cells #[(int k.1), (int k.2)] 43 (0, 0))) (hp w) ∧ Le (one b1 (.cells #[(int k.1), (int k.2)] 43 (0, 0))) (hp w) ∧ Le (one p (.cells #[(int s.sample), (int s.warm), (int s.hot), (int s.cold), (.map (some bm)), v] 67 (0, 0))) (hp w) ∧ Le cM (hp w)) hmix (by decide +kernel) (fun _ _ h => h) ?_
      have hst354 := hst351.draws (w350.drawn + 1)
      generalize draws w350 (w350.drawn + 1) = w353 at hst354 ⊢
      refine LT (ptr p 0) 0 rfl rfl rfl (fun u356 hF357 => (x_load rfl rfl (run_loadVar_one ti_26 (hF357.2.2.2.1 _ _ (one_self _ _)) rfl))) ⟨hst354.rle', hst354.g 0, hst354.g 1, hst354.g 2, hst354.g 3, hst354.g 4, hst354.g 5, hst354.g 6, hst354.g 7, hst354.g 8, hst354.g 9, hst354.g 10, hst354.g 11, hst354.g 12⟩ ?_
      refine LT (ptr p 0) 1 rfl rfl rfl (fun u359 hF360 => (x_load rfl rfl (run_loadVar_one ti_26 (hF360.2.2.2.1 _ _ (one_self _ _)) rfl))) ⟨hst354.rle', hst354.g 0, hst354.g 1, hst354.g 2, hst354.g 3, hst354.g 4, hst354.g 5, hst354.g 6, hst354.g 7, hst354.g 8, hst354.g 9, hst354.g 10, hst354.g 11, hst354.g 12⟩ ?_
      refine LP (ptr p 0) 2 rfl rfl rfl (fun u362 => rfl) ⟨hst354.rle', hst354.g 0, hst354.g 1, hst354.g 2, hst354.g 3, hst354.g 4, hst354.g 5, hst354.g 6, hst354.g 7, hst354.g 8, hst354.g 9, hst354.g 10, hst354.g 11, hst354.g 12⟩ ?_
      refine LP (ptr p 5) 3 rfl rfl rfl (fun u365 => (by kernel_rfl)) ⟨hst354.rle', hst354.g 0, hst354.g 1, hst354.g 2, hst354.g 3, hst354.g 4, hst354.g 5, hst354.g 6, hst354.g 7, hst354.g 8, hst354.g 9, hst354.g 10, hst354.g 11, hst354.g 12⟩ ?_
      refine LT v 4 rfl rfl rfl (fun u368 hF369 => (x_load rfl rfl (run_loadVar_one ti_36 (hF369.2.2.2.2.2.2.2.2.2.2.2.2.1 _ _ (one_self _ _)) rfl))) ⟨hst354.rle', hst354.g 0, hst354.g 1, hst354.g 2, hst354.g 3, hst354.g 4, hst354.g 5, hst354.g 6, hst354.g 7, hst354.g 8, hst354.g 9, hst354.g 10, hst354.g 11, hst354.g 12⟩ ?_
      refine LT (.agg #[(int k.1), (int k.2)]) 5 rfl rfl rfl (fun u371 hF372 => (x_load rfl rfl (run_loadVar_agg ti_43 (hF372.2.2.1 _ _ (one_self _ _)) (l := [(int k.1), (int k.2)]) rfl rfl))) ⟨hst354.rle', hst354.g 0, hst354.g 1, hst354.g 2, hst354.g 3, hst354.g 4, hst354.g 5, hst354.g 6, hst354.g 7, hst354.g 8, hst354.g 9, hst354.g 10, hst354.g 11, hst354.g 12⟩ ?_
      refine LP (int 1) 6 rfl rfl rfl (fun u374 => rfl) ⟨hst354.rle', hst354.g 0, hst354.g 1, hst354.g 2, hst354.g 3, hst354.g 4, hst354.g 5, hst354.g 6, hst354.g 7, hst354.g 8, hst354.g 9, hst354.g 10, hst354.g 11, hst354.g 12⟩ ?_
      refine LP (.slice (some ⟨b317, 0, none⟩) 1 1) 7 rfl rfl rfl (fun u377 => rfl) ⟨hst354.rle', hst354.g 0, hst354.g 1, hst354.g 2, hst354.g 3, hst354.g 4, hst354.g 5, hst354.g 6, hst354.g 7, hst354.g 8, hst354.g 9, hst354.g 10, hst354.g 11, hst354.g 12⟩ ?_
      refine LA_all [8] (by decide +kernel) (by simp) ?_
      intro i_ hi_
      simp only [List.mem_cons, List.not_mem_nil, or_false] at hi_
      subst hi_
      refine One_call (i := 8) rfl rfl rfl (Want.plain rfl) (x_call (vs := #[(.slice (some ⟨b317, 0, none⟩) 1 1)]) rfl rfl (by kernel_rfl) ent_40) (words_spec (w := w353) (R := hp w353) (xs := [Wd.s (joinW [Wd.s ⟨#[101, 120, 105, 116]⟩, Wd.i e, Wd.s ⟨#[108, 101, 102, 116]⟩, Wd.i s.cold, Wd.s ⟨#[116, 105, 109, 101, 115]⟩])]) (hT.mono hst354.rle') (Le.refl _) (OwnL.freeze (OwnL.lit (t := tyWd) (xs := [Wd.s (joinW [Wd.s ⟨#[101, 120, 105, 116]⟩, Wd.i e, Wd.s ⟨#[108, 101, 102, 116]⟩, Wd.i s.cold, Wd.s ⟨#[116, 105, 109, 101, 115]⟩])]) (T := 20) (R := R) (cs := [(.iface 9 (.string (joinW [Wd.s ⟨#[101, 120, 105, 116]⟩, Wd.i e, Wd.s ⟨#[108, 101, 102, 116]⟩, Wd.i s.cold, Wd.s ⟨#[116, 105, 109, 101, 115]⟩])))]) (Encs.cons (show tyWd.rel _ _ [_] from rfl) Encs.nil) rfl (Nat.le_of_ble_eq_true rfl)) hst354.rle' (hst354.g 0)) (Ok1 (Nat.le_trans (joinW_small (Sm5 (Sm_s (by decide)) (Sm_i (by constructor <;> omega)) (Sm_s (by decide)) (Sm_i (by constructor <;> omega)) (Sm_s (by decide))) (Nat.le_of_ble_eq_true rfl)) (by decide))) (Nat.le_of_ble_eq_true rfl)) ?_
      rintro e384 w382 ⟨rfl, hw385⟩
      have hst383 := hst354.grown hw385
      refine ⟨_, rfl, (fun _ => ⟨hst383.rle', hst383.g 0, hst383.g 1, hst383.g 2, hst383.g 3, hst383.g 4, hst383.g 5, hst383.g 6, hst383.g 7, hst383.g 8, hst383.g 9, hst383.g 10, hst383.g 11, hst383.g 12⟩), ?_⟩
      refine LP (.agg #[(int k.1), (int k.2), (int 1), (.string (joinW [Wd.s (joinW [Wd.s ⟨#[101, 120, 105, 116]⟩, Wd.i e, Wd.s ⟨#[108, 101, 102, 116]⟩, Wd.i s.cold, Wd.s ⟨#[116, 105, 109, 101, 115]⟩])]))]) 9 rfl rfl rfl (fun u387 => (by kernel_rfl)) ⟨hst383.rle', hst383.g 0, hst383.g 1, hst383.g 2, hst383.g 3, hst383.g 4, hst383.g 5, hst383.g 6, hst383.g 7, hst383.g 8, hst383.g 9, hst383.g 10, hst383.g 11, hst383.g 12⟩ ?_
      refine LA_all [10] (by decide +kernel) (by simp) ?_
      intro i_ hi_
      simp only [List.mem_cons, List.not_mem_nil, or_false] at hi_
      subst hi_
      refine One_new hst383 (i := 10) (v := fun b => .slice (some ⟨b, 0, none⟩) 1 1) (ob := .cells #[(int k.1), (int k.2), (int 1), (.string (joinW [Wd.s (joinW [Wd.s ⟨#[101, 120, 105, 116]⟩, Wd.i e, Wd.s ⟨#[108, 101, 102, 116]⟩, Wd.i s.cold, Wd.s ⟨#[116, 105, 109, 101, 115]⟩])]))] 49 (0, 0)) rfl rfl rfl (Want.plain rfl) (by kernel_rfl) (fun b392 w393 hst394 => ?_)
      refine ⟨(fun _ => ⟨hst394.rle', hst394.g 1, hst394.g 2, hst394.g 3, hst394.g 4, hst394.g 5, hst394.g 6, hst394.g 7, hst394.g 8, hst394.g 9, hst394.g 10, hst394.g 11, hst394.g 12, hst394.g 13⟩), ?_⟩
      refine LA_all [11] (by decide +kernel) (by simp) ?_
      intro i_ hi_
      simp only [List.mem_cons, List.not_mem_nil, or_false] at hi_
      subst hi_
      refine One_append (j := 11) hst394 (t := 36) (e := 49) (ys := [Dec.mk k 1 (joinW [Wd.s (joinW [Wd.s ⟨#[101, 120, 105, 116]⟩, Wd.i e, Wd.s ⟨#[108, 101, 102, 116]⟩, Wd.i s.cold, Wd.s ⟨#[116, 105, 109, 101, 115]⟩])])]) (src := [(int k.1), (int k.2), (int 1), (.string (joinW [Wd.s (joinW [Wd.s ⟨#[101, 120, 105, 116]⟩, Wd.i e, Wd.s ⟨#[108, 101, 102, 116]⟩, Wd.i s.cold, Wd.s ⟨#[116, 105, 109, 101, 115]⟩])]))]) 14 rfl rfl rfl (Want.plain rfl) rfl rfl rfl sl_36 ti_49 rfl rfl rfl hD (src_own (hst394.b 0)) (Encs.one (tyDec_mk _ _ _ _ _)) rfl (by first | omega | (simp only [List.length_append, List.length_cons, List.length_nil]; omega)) (by first | (simp only [maxLen]; omega) | (simp only [List.length_append, List.length_cons, List.length_nil, maxLen]; omega)) (fun v398 c399 w400 ho401 hst402 => ?_)
      refine ⟨(fun _ => ⟨hst402.rle', hst402.g 2, hst402.g 3, hst402.g 4, hst402.g 5, hst402.g 6, hst402.g 7, hst402.g 8, hst402.g 9, hst402.g 10, hst402.g 11, hst402.g 12, hst402.g 13, hst402.g 14⟩), ?_⟩
      refine LP (ptr p 0) 12 rfl rfl rfl (fun u404 => rfl) ⟨hst402.rle', hst402.g 2, hst402.g 3, hst402.g 4, hst402.g 5, hst402.g 6, hst402.g 7, hst402.g 8, hst402.g 9, hst402.g 10, hst402.g 11, hst402.g 12, hst402.g 13, hst402.g 14⟩ ?_
      refine LP (ptr p 5) 13 rfl rfl rfl (fun u407 => (by kernel_rfl)) ⟨hst402.rle', hst402.g 2, hst402.g 3, hst402.g 4, hst402.g 5, hst402.g 6, hst402.g 7, hst402.g 8, hst402.g 9, hst402.g 10, hst402.g 11, hst402.g 12, hst402.g 13, hst402.g 14⟩ ?_
      refine LA_all [14] (by decide +kernel) (by simp) ?_
      intro i_ hi_
      simp only [List.mem_cons, List.not_mem_nil, or_false] at hi_
      subst hi_
      obtain ⟨a410, cap411, e412, hc413⟩ := ho401.value
      subst e412
      obtain ⟨w414, hr416, hst415⟩ := run_storeW (P := Tryd.prog) (b := p) (off := 5) (v := (.slice a410 ((s.decs ++ [Dec.mk k 1 (joinW [Wd.s (joinW [Wd.s ⟨#[101, 120, 105, 116]⟩, Wd.i e, Wd.s ⟨#[108, 101, 102, 116]⟩, Wd.i s.cold, Wd.s ⟨#[116, 105, 109, 101, 115]⟩])])]).length) cap411)) hst402 13 ti_36 rfl rfl rfl rfl rfl rfl
      change Step _ _ _ _ _ [c399, one b392 (.cells #[(int k.1), (int k.2), (int 1), (.string (joinW [Wd.s (joinW [Wd.s ⟨#[101, 120, 105, 116]⟩, Wd.i e, Wd.s ⟨#[108, 101, 102, 116]⟩, Wd.i s.cold, Wd.s ⟨#[116, 105, 109, 101, 115]⟩])]))] 49 (0, 0)), one b317 (.cells #[(.iface 9 (.string (joinW [Wd.s ⟨#[101, 120, 105, 116]⟩, Wd.i e, Wd.s ⟨#[108, 101, 102, 116]⟩, Wd.i s.cold, Wd.s ⟨#[116, 105, 109, 101, 115]⟩])))] 20 (0, 0)), one b314 (.cells #[(int k.1), (int k.2)] 43 (0, 0)), one b311 (.cells #[(ptr p 0)] 26 (0, 0)), c197, one b165 (.cells #[(int k.1), (int k.2)] 43 (0, 0)), one b159 (.cells #[(.iface 9 (.string ⟨#[101, 120, 105, 116]⟩)), (.iface 3 (int e)), (.iface 9 (.string ⟨#[108, 101, 102, 116]⟩)), (.iface 3 (int s.cold)), (.iface 9 (.string ⟨#[116, 105, 109, 101, 115]⟩))] 20 (0, 0)), c71, one a (.cells #[(int 1), (int r.calls), (int s.warm), (int (r.failures + 1)), (.map (some b193))] 93 (0, 0)), c2, one b4 (.cells #[(int k.1), (int k.2)] 43 (0, 0)), one b1 (.cells #[(int k.1), (int k.2)] 43 (0, 0)), one p (.cells #[(int s.sample), (int s.warm), (int s.hot), (int s.cold), (.map (some bm)), (.slice a410 ((s.decs ++ [Dec.mk k 1 (joinW [Wd.s (joinW [Wd.s ⟨#[101, 120, 105, 116]⟩, Wd.i e, Wd.s ⟨#[108, 101, 102, 116]⟩, Wd.i s.cold, Wd.s ⟨#[116, 105, 109, 101, 115]⟩])])]).length) cap411)] 67 (0, 0)), cM] at hst415
      refine One_skip (i := 14) rfl rfl (Want.plain rfl) (x_store rfl rfl rfl hr416) (fun h => absurd h (by decide +kernel)) ?_
      refine LA_done (by decide +kernel) ?_
      refine ⟨_, _, res_run (rs := []) (vs := []) Tryd.results60 .nil rfl, ?_⟩
      refine ⟨_, rfl, ?_⟩
      refine L_nil ?_
      refine ⟨_, _, res_run (rs := []) (vs := []) Tryd.results48 .nil rfl, ?_⟩
      refine ⟨_, rfl, (fun _ => ⟨hst415.rle', hst415.g 11, hst415.g 12⟩), ?_⟩
      refine LA_done (by decide +kernel) ?_
      refine W_seq ?_
      refine W_region_lit ?_
      refine Lq (.bool true) rfl rfl rfl rfl ?_
      refine L_nil ?_
      refine W_ret ?_
      refine ⟨_, _, res_run (rs := [.tmp 6]) (vs := [(.bool true)]) Tryd.results24 (.cons (.tmp rfl) .nil) rfl, ?_⟩
      have he := left_back (s := s) hgr (by simpa using c62) (of_decide_eq_false c65) (by simpa [AL.get_set] using of_decide_eq_false c111)
      rw [he]
      have hro2 : Rec.Ok s.n r := hro
      have he2 := setBack_on (s := s) (k := k) (t := 1) (l := [Wd.s wExit, Wd.i e, Wd.s wLeft, Wd.i s.cold, Wd.s wTimes]) (r := { r with exits := AL.set r.exits e ((AL.get r.exits e).getD 0 + 1), count := s.warm }) (ne_of_beq_false c202)
      have hok2 := hok.setBack (k := k) (t := 1) (ex := AL.set r.exits e ((AL.get r.exits e).getD 0 + 1)) (c := s.warm) (l := [Wd.s wExit, Wd.i e, Wd.s wLeft, Wd.i s.cold, Wd.s wTimes]) hro2 (by constructor <;> omega) (by decide) (Sm5 (Sm_s (by decide)) (Sm_i (by constructor <;> omega)) (Sm_s (by decide)) (Sm_i (by constructor <;> omega)) (Sm_s (by decide))) (Nat.le_of_ble_eq_true rfl)
      rw [show s.setBack k { r with exits := AL.set r.exits e ((AL.get r.exits e).getD 0 + 1), count := s.warm } 1 [Wd.s wExit, Wd.i e, Wd.s wLeft, Wd.i s.cold, Wd.s wTimes] = _ from he2] at hok2
      rw [he2]
      obtain ⟨c', hst', hprof'⟩ := Prof.closeR (s := s.decide k ⟨r.tier, r.calls, s.warm, r.failures + 1, []⟩ 1 (joinW [Wd.s (joinW [Wd.s wExit, Wd.i e, Wd.s wLeft, Wd.i s.cold, Wd.s wTimes])])) (r := ⟨1, r.calls, s.warm, r.failures + 1, []⟩) (((((hst415.front 10 rfl rfl).front 6 rfl rfl).front 10 rfl rfl).front 14 rfl rfl).front 14 rfl rfl) hM hm196 (fun c1 h d => hback _ c1 h d) ho401 hok2
      exact ⟨_, _, _, rfl, hst'.keepN 1 rfl, c', rfl, rfl, hprof'⟩

end Go.Fx.YtdkjoljcffkpkaaDoor
