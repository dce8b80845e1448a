/-
  Chapter 14: Failed and Tier, printed by genp.py
-/
import Derived.Test.YtdkjoljcffkpkaaDoorPr7
set_option linter.unusedSimpArgs false
set_option linter.unusedVariables false
namespace Go.Fx.YtdkjoljcffkpkaaDoor
open Go Go.Fx Go.Proofs
set_option maxRecDepth 20000



set_option maxHeartbeats 4000000 in
theorem Failed_spec {w : World} {R c : Hp} {p : Nat} {s : PS} (k : Pl) (e : Int) (hI : I64 e) (hs : Sats w R [c]) (hprof : Prof R p s c) (hT : Tab R) (hn : s.n ≤ 1000000000) :
    Calls Tryd.prog 26 #[ptr p 0, kk k, int e] w (Comes' w R [c] fun v' R' L' => ∃ c', v' = .tuple #[] ∧ L' = [c'] ∧ Prof R' p (s.failed k e) c') := by
 obtain ⟨bm, m, v, cM, cR, cD, rfl, hd1, hd2, hd3, hM, hRs, hD, hok⟩ := hprof
 have hst := Prof.opened (Step.refl hs) hd1 hd2 hd3
 obtain ⟨hb1, hb2⟩ := hok.sample
 obtain ⟨hb3, hb4⟩ := hok.warm
 obtain ⟨hb5, hb6⟩ := hok.hot
 obtain ⟨hb7, hb8⟩ := hok.cold
 have hb9 := hok.decs
 obtain ⟨hi1, hi2⟩ := hI
 refine calls_of_W (n := 33) Tryd.func26 rfl Tryd.ntmps26 (Nat.le_of_ble_eq_true rfl) ?_
 refine W_seq ?_
 refine W_region_lit ?_
 refine L_new hst (v := fun b => ptr b 0) (ob := .cells #[(int k.1), (int k.2)] 43 (0, 0)) rfl rfl rfl (by kernel_rfl) (fun b1 w2 hst3 => ?_)
 refine L_nil ?_
 refine W_seq ?_
 refine W_region_lit ?_
 refine Lq (ptr p 0) rfl rfl rfl rfl ?_
 refine Lq (.agg #[(int k.1), (int k.2)]) rfl rfl rfl (x_load rfl rfl (run_loadVar_agg ti_43 (hst3.b 0) (l := [(int k.1), (int k.2)]) rfl rfl)) ?_
 refine L_call rfl rfl rfl (x_call (vs := #[(ptr p 0), (.agg #[(int k.1), (int k.2)])]) rfl rfl (by kernel_rfl) ent_44) ?_ (fun _ _ h => h)
 refine calls_of_W (n := 13) Tryd.func44 rfl Tryd.ntmps44 (Nat.le_of_ble_eq_true rfl) ?_
 refine W_seq ?_
 refine W_region_lit ?_
 refine L_new hst3 (v := fun b => ptr b 0) (ob := .cells #[(int k.1), (int k.2)] 43 (0, 0)) rfl rfl rfl (by kernel_rfl) (fun b4 w5 hst6 => ?_)
 refine Lq (.pointer none) rfl rfl rfl rfl ?_
 refine L_nil ?_
 refine W_seq ?_
 refine W_seq ?_
 refine W_region_lit ?_
 refine Lq (ptr p 0) rfl rfl rfl rfl ?_
 refine Lq (.bool false) rfl rfl rfl (by kernel_rfl) ?_
 refine L_nil ?_
 refine W_cond_false (by show Value.bool _ = _; exact congrArg Value.bool rfl) ?_
 refine W_skip ?_
 refine W_seq ?_
 rcases Recs.look hRs k with ⟨hg, hgr⟩ | ⟨a, r, c1, c2, hg, hgr, hrec, hc, hdj, hback⟩
 ·
  refine W_region_draw [] (fun w => Le R (hp w) ∧ Le (one b4 (.cells #[(int k.1), (int k.2)] 43 (0, 0))) (hp w) ∧ Le (one b1 (.cells #[(int k.1), (int k.2)] 43 (0, 0))) (hp w) ∧ Le (one p (.cells #[(int s.sample), (int s.warm), (int s.hot), (int s.cold), (.map (some bm)), v] 67 (0, 0))) (hp w) ∧ Le cM (hp w) ∧ Le cR (hp w) ∧ Le cD (hp w)) hmix (by decide +kernel) (fun _ _ h => h) ?_
  have hst8 := hst6.draws (w5.drawn + 1)
  generalize draws w5 (w5.drawn + 1) = w7 at hst8 ⊢
  refine LP (ptr p 0) 0 rfl rfl rfl (fun u10 => rfl) hst8.a6 ?_
  refine LP (ptr p 0) 1 rfl rfl rfl (fun u13 => rfl) hst8.a6 ?_
  refine LP (ptr p 4) 2 rfl rfl rfl (fun u16 => (by kernel_rfl)) hst8.a6 ?_
  refine LT (.map (some bm)) 3 rfl rfl rfl (fun u19 hF20 => (x_load rfl rfl (run_loadVar_one ti_65 (hF20.2.2.2.1 _ _ (one_self _ _)) rfl))) hst8.a6 ?_
  refine LT (.agg #[(int k.1), (int k.2)]) 4 rfl rfl rfl (fun u22 hF23 => (x_load rfl rfl (run_loadVar_agg ti_43 (hF23.2.1 _ _ (one_self _ _)) (l := [(int k.1), (int k.2)]) rfl rfl))) hst8.a6 ?_
  refine LT (.pointer none) 5 rfl rfl rfl (fun u25 hF26 => x_lookup rfl rfl rfl (by have h_ := MapC.lookupP (w := u25) hM hF26.2.2.2.2.1 law43 mt_65 ti_81 k false none rfl; rw [hg] at h_; exact h_)) hst8.a6 ?_
  refine LP (.pointer none) 6 rfl rfl rfl (fun u28 => rfl) hst8.a6 ?_
  refine LA_done (by decide +kernel) ?_
  refine W_ret ?_
  refine ⟨_, _, res_run (rs := [.tmp 4]) (vs := [(.pointer none)]) Tryd.results44 (.cons (.tmp rfl) .nil) rfl, ?_⟩
  refine ⟨_, rfl, ?_⟩
  refine Lq (.pointer none) rfl rfl rfl rfl ?_
  refine L_nil ?_
  refine W_seq ?_
  refine W_seq ?_
  refine W_region_lit ?_
  refine Lq (.pointer none) rfl rfl rfl rfl ?_
  refine Lq (.bool true) rfl rfl rfl (by kernel_rfl) ?_
  refine Lq (.bool true) rfl rfl rfl rfl ?_
  refine L_unwanted rfl rfl rfl rfl rfl rfl rfl ?_
  refine L_unwanted rfl rfl rfl rfl rfl rfl rfl ?_
  refine L_unwanted rfl rfl rfl rfl rfl rfl rfl ?_
  refine L_unwanted rfl rfl rfl rfl rfl rfl rfl ?_
  refine L_unwanted rfl rfl rfl rfl rfl rfl rfl ?_
  refine Lq (.bool true) rfl rfl rfl rfl ?_
  refine Lq (.bool true) rfl rfl rfl rfl ?_
  refine L_unwanted rfl rfl rfl rfl rfl rfl rfl ?_
  refine L_unwanted rfl rfl rfl rfl rfl rfl rfl ?_
  refine Lq (.bool true) rfl rfl rfl rfl ?_
  refine L_nil ?_
  refine W_cond_true (by show Value.bool _ = _; exact congrArg Value.bool rfl) ?_
  refine W_ret ?_
  refine ⟨_, _, res_run (rs := []) (vs := []) Tryd.results26 .nil rfl, ?_⟩
  rw [failed_none (s := s) (k := k) e hgr]
  obtain ⟨c', hst', hprof'⟩ := Prof.close (s := s) ((((hst8.front 5 rfl rfl).front 5 rfl rfl).front 5 rfl rfl).front 5 rfl rfl) hM hRs hD hok
  exact ⟨_, _, _, rfl, hst'.keepN 1 rfl, c', rfl, rfl, hprof'⟩
 ·
  obtain ⟨be, cE, rfl, hd4, hE⟩ := hrec
  subst hc
  have hst30 := ((hst6.front 4 rfl rfl).split hdj).split hd4
  have hro := hok.recs k r hgr
  obtain ⟨hr31, hr32⟩ := hro.tier
  obtain ⟨hr33, hr34⟩ := hro.calls
  obtain ⟨hr35, hr36⟩ := hro.count
  obtain ⟨hr37, hr38⟩ := hro.failures
  have hrc := PS.rc_some hgr
  refine W_region_draw [] (fun w => Le R (hp w) ∧ Le (one a (.cells #[(int r.tier), (int r.calls), (int r.count), (int r.failures), (.map (some be))] 93 (0, 0))) (hp w) ∧ Le cE (hp w) ∧ Le c2 (hp w) ∧ Le (one b4 (.cells #[(int k.1), (int k.2)] 43 (0, 0))) (hp w) ∧ Le (one b1 (.cells #[(int k.1), (int k.2)] 43 (0, 0))) (hp w) ∧ Le (one p (.cells #[(int s.sample), (int s.warm), (int s.hot), (int s.cold), (.map (some bm)), v] 67 (0, 0))) (hp w) ∧ Le cM (hp w) ∧ Le cD (hp w)) hmix (by decide +kernel) (fun _ _ h => h) ?_
  have hst40 := hst30.draws (w5.drawn + 1)
  generalize draws w5 (w5.drawn + 1) = w39 at hst40 ⊢
  refine LP (ptr p 0) 0 rfl rfl rfl (fun u42 => rfl) hst40.a8 ?_
  refine LP (ptr p 0) 1 rfl rfl rfl (fun u45 => rfl) hst40.a8 ?_
  refine LP (ptr p 4) 2 rfl rfl rfl (fun u48 => (by kernel_rfl)) hst40.a8 ?_
  refine LT (.map (some bm)) 3 rfl rfl rfl (fun u51 hF52 => (x_load rfl rfl (run_loadVar_one ti_65 (hF52.2.2.2.2.2.2.1 _ _ (one_self _ _)) rfl))) hst40.a8 ?_
  refine LT (.agg #[(int k.1), (int k.2)]) 4 rfl rfl rfl (fun u54 hF55 => (x_load rfl rfl (run_loadVar_agg ti_43 (hF55.2.2.2.2.1 _ _ (one_self _ _)) (l := [(int k.1), (int k.2)]) rfl rfl))) hst40.a8 ?_
  refine LT (ptr a 0) 5 rfl rfl rfl (fun u57 hF58 => x_lookup rfl rfl rfl (by have h_ := MapC.lookupP (w := u57) hM hF58.2.2.2.2.2.2.2.1 law43 mt_65 ti_81 k false none rfl; rw [hg] at h_; exact h_)) hst40.a8 ?_
  refine LP (ptr a 0) 6 rfl rfl rfl (fun u60 => rfl) hst40.a8 ?_
  refine LA_done (by decide +kernel) ?_
  refine W_ret ?_
  refine ⟨_, _, res_run (rs := [.tmp 4]) (vs := [(ptr a 0)]) Tryd.results44 (.cons (.tmp rfl) .nil) rfl, ?_⟩
  refine ⟨_, rfl, ?_⟩
  refine Lq (ptr a 0) rfl rfl rfl rfl ?_
  refine L_nil ?_
  refine W_seq ?_
  refine W_seq ?_
  refine W_region_lit ?_
  refine Lq (ptr a 0) rfl rfl rfl rfl ?_
  refine Lq (.bool false) rfl rfl rfl (by kernel_rfl) ?_
  refine Lq (.bool false) rfl rfl rfl rfl ?_
  refine L_guard rfl rfl rfl rfl rfl ?_
  refine Lq (ptr a 0) rfl rfl rfl rfl ?_
  refine L_guard rfl rfl rfl rfl rfl ?_
  refine Lq (ptr a 0) rfl rfl rfl rfl ?_
  refine L_guard rfl rfl rfl rfl rfl ?_
  refine Lq (ptr a 0) rfl rfl rfl (by kernel_rfl) ?_
  refine L_guard rfl rfl rfl rfl rfl ?_
  refine Lq (int r.tier) rfl rfl rfl (x_load rfl rfl (run_loadVar_one ti_3 (hst40.b 0) rfl)) ?_
  refine L_guard rfl rfl rfl rfl rfl ?_
  refine Lq (.bool (decide (r.tier < 1))) rfl rfl rfl (by kernel_rfl) ?_
  refine Lq (.bool (decide (r.tier < 1))) rfl rfl rfl rfl ?_
  refine Lq (.bool (decide (r.tier < 1))) rfl rfl rfl rfl ?_
  rcases Bool.eq_false_or_eq_true (decide (r.tier < 1)) with c62 | c62
  ·
   have q63 := of_decide_eq_true c62
   refine L_unwanted rfl rfl rfl rfl (by rw [c62]; try rfl) rfl rfl ?_
   refine L_unwanted rfl rfl rfl rfl (by rw [c62]; try rfl) rfl rfl ?_
   refine Lq (.bool true) rfl rfl rfl (x_pick rfl rfl (by rw [c62]; rfl)) ?_
   refine L_nil ?_
   refine W_cond_true (by show Value.bool _ = _; exact congrArg Value.bool rfl) ?_
   refine W_ret ?_
   refine ⟨_, _, res_run (rs := []) (vs := []) Tryd.results26 .nil rfl, ?_⟩
   have he := failed_not (s := s) (e := e) hgr (.inl (of_decide_eq_true c62))
   rw [he]
   have hsame := set_same hgr
   obtain ⟨c', hst', hprof'⟩ := Prof.closeR (s := s) (r := r) ((((((hst40.front 7 rfl rfl).front 3 rfl rfl).front 3 rfl rfl).front 3 rfl rfl).front 7 rfl rfl).front 7 rfl rfl) hM hE (fun c1 h d => by have h_ := hback r c1 h d; rwa [hsame] at h_) hD hok
   exact ⟨_, _, _, rfl, hst'.keepN 1 rfl, c', rfl, rfl, hprof'⟩
  ·
   have q64 := of_decide_eq_false c62
   refine L_guard rfl rfl rfl rfl c62 ?_
   refine Lq (int e) rfl rfl rfl rfl ?_
   refine L_guard rfl rfl rfl rfl c62 ?_
   refine Lq (.bool (e == 0)) rfl rfl rfl (by kernel_rfl) ?_
   refine Lq (.bool (e == 0)) rfl rfl rfl (x_pick rfl rfl (by rw [c62]; rfl)) ?_
   refine L_nil ?_
   rcases Bool.eq_false_or_eq_true (e == 0) with c65 | c65
   ·
    have q66 := eq_of_beq c65
    refine W_cond_true (by show Value.bool _ = _; exact congrArg Value.bool c65) ?_
    refine W_ret ?_
    refine ⟨_, _, res_run (rs := []) (vs := []) Tryd.results26 .nil rfl, ?_⟩
    have he := failed_not (s := s) (e := e) hgr (.inr (eq_of_beq c65))
    rw [he]
    have hsame := set_same hgr
    obtain ⟨c', hst', hprof'⟩ := Prof.closeR (s := s) (r := r) ((((((hst40.front 7 rfl rfl).front 3 rfl rfl).front 3 rfl rfl).front 3 rfl rfl).front 7 rfl rfl).front 7 rfl rfl) hM hE (fun c1 h d => by have h_ := hback r c1 h d; rwa [hsame] at h_) hD hok
    exact ⟨_, _, _, rfl, hst'.keepN 1 rfl, c', rfl, rfl, hprof'⟩
   ·
    have q67 := ne_of_beq_false c65
    refine W_cond_false (by show Value.bool _ = _; exact congrArg Value.bool c65) ?_
    refine W_skip ?_
    refine W_seq ?_
    refine W_region_lit ?_
    refine Lq (ptr a 0) rfl rfl rfl rfl ?_
    refine Lq (ptr a 0) rfl rfl rfl rfl ?_
    refine Lq (ptr a 2) rfl rfl rfl (by kernel_rfl) ?_
    refine L_store hst40 0 ti_3 rfl rfl rfl rfl rfl rfl rfl rfl rfl rfl rfl (fun w68 hst69 => ?_)
    change Step _ _ _ _ _ [one a (.cells #[(int r.tier), (int r.calls), (int 0), (int r.failures), (.map (some be))] 93 (0, 0)), cE, c2, one b4 (.cells #[(int k.1), (int k.2)] 43 (0, 0)), one b1 (.cells #[(int k.1), (int k.2)] 43 (0, 0)), one p (.cells #[(int s.sample), (int s.warm), (int s.hot), (int s.cold), (.map (some bm)), v] 67 (0, 0)), cM, cD] at hst69
    refine L_nil ?_
    refine W_region_lit ?_
    refine Lq (ptr p 0) rfl rfl rfl rfl ?_
    refine Lq (.agg #[(int k.1), (int k.2)]) rfl rfl rfl (x_load rfl rfl (run_loadVar_agg ti_43 (hst69.b 4) (l := [(int k.1), (int k.2)]) rfl rfl)) ?_
    refine Lq (.iface 9 (.string ⟨#[101, 114, 114, 111, 114]⟩)) rfl rfl rfl (by kernel_rfl) ?_
    refine Lq (int e) rfl rfl rfl rfl ?_
    refine Lq (.iface 3 (int e)) rfl rfl rfl (by kernel_rfl) ?_
    refine L_new hst69 (v := fun b => .slice (some ⟨b, 0, none⟩) 2 2) (ob := .cells #[(.iface 9 (.string ⟨#[101, 114, 114, 111, 114]⟩)), (.iface 3 (int e))] 20 (0, 0)) rfl rfl rfl (by kernel_rfl) (fun b70 w71 hst72 => ?_)
    refine L_call rfl rfl rfl (x_call (vs := #[(ptr p 0), (.agg #[(int k.1), (int k.2)]), (int 0), (.slice (some ⟨b70, 0, none⟩) 2 2)]) rfl rfl (by kernel_rfl) ent_48) ?_ (fun _ _ h => h)
    refine calls_of_W (n := 44) Tryd.func48 rfl Tryd.ntmps48 (Nat.le_of_ble_eq_true rfl) ?_
    refine W_seq ?_
    refine W_region_lit ?_
    refine L_new hst72 (v := fun b => ptr b 0) (ob := .cells #[(int k.1), (int k.2)] 43 (0, 0)) rfl rfl rfl (by kernel_rfl) (fun b73 w74 hst75 => ?_)
    refine L_nil ?_
    refine W_seq ?_
    refine W_region_draw [] (fun w => Le R (hp w) ∧ Le (one b73 (.cells #[(int k.1), (int k.2)] 43 (0, 0))) (hp w) ∧ Le (one b70 (.cells #[(.iface 9 (.string ⟨#[101, 114, 114, 111, 114]⟩)), (.iface 3 (int e))] 20 (0, 0))) (hp w) ∧ Le (one a (.cells #[(int r.tier), (int r.calls), (int 0), (int r.failures), (.map (some be))] 93 (0, 0))) (hp w) ∧ Le cE (hp w) ∧ Le c2 (hp w) ∧ Le (one b4 (.cells #[(int k.1), (int k.2)] 43 (0, 0))) (hp w) ∧ Le (one b1 (.cells #[(int k.1), (int k.2)] 43 (0, 0))) (hp w) ∧ Le (one p (.cells #[(int s.sample), (int s.warm), (int s.hot), (int s.cold), (.map (some bm)), v] 67 (0, 0))) (hp w) ∧ Le cM (hp w) ∧ Le cD (hp w)) hmix (by decide +kernel) (fun _ _ h => h) ?_
    have hst77 := hst75.draws (w74.drawn + 1)
    generalize draws w74 (w74.drawn + 1) = w76 at hst77 ⊢
    refine LP (ptr p 0) 0 rfl rfl rfl (fun u79 => rfl) ⟨hst77.rle', hst77.g 0, hst77.g 1, hst77.g 2, hst77.g 3, hst77.g 4, hst77.g 5, hst77.g 6, hst77.g 7, hst77.g 8, hst77.g 9⟩ ?_
    refine LP (ptr p 0) 1 rfl rfl rfl (fun u82 => rfl) ⟨hst77.rle', hst77.g 0, hst77.g 1, hst77.g 2, hst77.g 3, hst77.g 4, hst77.g 5, hst77.g 6, hst77.g 7, hst77.g 8, hst77.g 9⟩ ?_
    refine LP (ptr p 4) 2 rfl rfl rfl (fun u85 => (by kernel_rfl)) ⟨hst77.rle', hst77.g 0, hst77.g 1, hst77.g 2, hst77.g 3, hst77.g 4, hst77.g 5, hst77.g 6, hst77.g 7, hst77.g 8, hst77.g 9⟩ ?_
    refine LT (.map (some bm)) 3 rfl rfl rfl (fun u88 hF89 => (x_load rfl rfl (run_loadVar_one ti_65 (hF89.2.2.2.2.2.2.2.2.1 _ _ (one_self _ _)) rfl))) ⟨hst77.rle', hst77.g 0, hst77.g 1, hst77.g 2, hst77.g 3, hst77.g 4, hst77.g 5, hst77.g 6, hst77.g 7, hst77.g 8, hst77.g 9⟩ ?_
    refine LT (.agg #[(int k.1), (int k.2)]) 4 rfl rfl rfl (fun u91 hF92 => (x_load rfl rfl (run_loadVar_agg ti_43 (hF92.2.1 _ _ (one_self _ _)) (l := [(int k.1), (int k.2)]) rfl rfl))) ⟨hst77.rle', hst77.g 0, hst77.g 1, hst77.g 2, hst77.g 3, hst77.g 4, hst77.g 5, hst77.g 6, hst77.g 7, hst77.g 8, hst77.g 9⟩ ?_
    refine LT (ptr a 0) 5 rfl rfl rfl (fun u94 hF95 => x_lookup rfl rfl rfl (by have h_ := MapC.lookupP (w := u94) hM hF95.2.2.2.2.2.2.2.2.2.1 law43 mt_65 ti_81 k false none rfl; rw [hg] at h_; exact h_)) ⟨hst77.rle', hst77.g 0, hst77.g 1, hst77.g 2, hst77.g 3, hst77.g 4, hst77.g 5, hst77.g 6, hst77.g 7, hst77.g 8, hst77.g 9⟩ ?_
    refine LP (ptr a 0) 6 rfl rfl rfl (fun u97 => rfl) ⟨hst77.rle', hst77.g 0, hst77.g 1, hst77.g 2, hst77.g 3, hst77.g 4, hst77.g 5, hst77.g 6, hst77.g 7, hst77.g 8, hst77.g 9⟩ ?_
    refine LA_done (by decide +kernel) ?_
    refine W_seq ?_
    refine W_region_lit ?_
    refine Lq (ptr a 0) rfl rfl rfl rfl ?_
    refine Lq (ptr a 0) rfl rfl rfl rfl ?_
    refine Lq (ptr a 3) rfl rfl rfl (by kernel_rfl) ?_
    refine Lq (int r.failures) rfl rfl rfl (x_load rfl rfl (run_loadVar_one ti_3 (hst77.b 2) rfl)) ?_
    refine Lq (int (r.failures + 1)) rfl rfl rfl (x_add rfl rfl rfl (by constructor <;> omega)) ?_
    refine Lq (ptr a 0) rfl rfl rfl rfl ?_
    refine Lq (ptr a 3) rfl rfl rfl (by kernel_rfl) ?_
    refine L_store hst77 2 ti_3 rfl rfl rfl rfl rfl rfl rfl rfl rfl rfl rfl (fun w99 hst100 => ?_)
    change Step _ _ _ _ _ [one b73 (.cells #[(int k.1), (int k.2)] 43 (0, 0)), one b70 (.cells #[(.iface 9 (.string ⟨#[101, 114, 114, 111, 114]⟩)), (.iface 3 (int e))] 20 (0, 0)), one a (.cells #[(int r.tier), (int r.calls), (int 0), (int (r.failures + 1)), (.map (some be))] 93 (0, 0)), cE, c2, one b4 (.cells #[(int k.1), (int k.2)] 43 (0, 0)), one b1 (.cells #[(int k.1), (int k.2)] 43 (0, 0)), one p (.cells #[(int s.sample), (int s.warm), (int s.hot), (int s.cold), (.map (some bm)), v] 67 (0, 0)), cM, cD] at hst100
    refine L_nil ?_
    refine W_seq ?_
    refine W_region_lit ?_
    refine Lq (ptr a 0) rfl rfl rfl rfl ?_
    refine L_new hst100 (v := fun b => .map (some b)) (ob := .map #[] 0) rfl rfl rfl (by kernel_rfl) (fun b101 w102 hst103 => ?_)
    have hm104 : MapC (Value.int .i64) (vE (Value.int .i64)) (some b101) [] _ := MapC.made b101
    generalize one b101 (.map #[] 0) = c105 at hm104 hst103
    refine Lq (ptr a 0) rfl rfl rfl rfl ?_
    refine Lq (ptr a 4) rfl rfl rfl (by kernel_rfl) ?_
    refine L_store hst103 3 ti_59 rfl rfl rfl rfl rfl rfl rfl rfl rfl rfl rfl (fun w106 hst107 => ?_)
    change Step _ _ _ _ _ [c105, one b73 (.cells #[(int k.1), (int k.2)] 43 (0, 0)), one b70 (.cells #[(.iface 9 (.string ⟨#[101, 114, 114, 111, 114]⟩)), (.iface 3 (int e))] 20 (0, 0)), one a (.cells #[(int r.tier), (int r.calls), (int 0), (int (r.failures + 1)), (.map (some b101))] 93 (0, 0)), cE, c2, one b4 (.cells #[(int k.1), (int k.2)] 43 (0, 0)), one b1 (.cells #[(int k.1), (int k.2)] 43 (0, 0)), one p (.cells #[(int s.sample), (int s.warm), (int s.hot), (int s.cold), (.map (some bm)), v] 67 (0, 0)), cM, cD] at hst107
    refine L_nil ?_
    refine W_seq ?_
    refine W_region_lit ?_
    refine Lq (.slice (some ⟨b70, 0, none⟩) 2 2) rfl rfl rfl rfl ?_
    refine L_callG hst107 (v := (.string (joinW [Wd.s ⟨#[101, 114, 114, 111, 114]⟩, Wd.i e]))) rfl rfl rfl (x_call (vs := #[(.slice (some ⟨b70, 0, none⟩) 2 2)]) rfl rfl (by kernel_rfl) ent_40) (words_spec (w := w106) (R := hp w106) (xs := [Wd.s ⟨#[101, 114, 114, 111, 114]⟩, Wd.i e]) (hT.mono hst107.rle') (Le.refl _) (OwnL.freeze (OwnL.lit (t := tyWd) (xs := [Wd.s ⟨#[101, 114, 114, 111, 114]⟩, Wd.i e]) (T := 20) (R := R) (cs := [(.iface 9 (.string ⟨#[101, 114, 114, 111, 114]⟩)), (.iface 3 (int e))]) (Encs.cons (show tyWd.rel _ _ [_] from rfl) (Encs.cons (show tyWd.rel _ _ [_] from rfl) Encs.nil)) rfl (Nat.le_of_ble_eq_true rfl)) hst107.rle' (hst107.g 2)) (Oks (Sm2 (Sm_s (by decide)) (Sm_i (by constructor <;> omega)))) (Nat.le_of_ble_eq_true rfl)) (fun w108 hst109 => ?_)
    refine Lq (.string (joinW [Wd.s ⟨#[101, 114, 114, 111, 114]⟩, Wd.i e])) rfl rfl rfl rfl ?_
    refine L_nil ?_
    refine W_seq ?_
    refine W_seq ?_
    refine W_region_lit ?_
    refine Lq (ptr a 0) rfl rfl rfl rfl ?_
    refine Lq (ptr a 0) rfl rfl rfl rfl ?_
    refine Lq (ptr a 3) rfl rfl rfl (by kernel_rfl) ?_
    refine Lq (int (r.failures + 1)) rfl rfl rfl (x_load rfl rfl (run_loadVar_one ti_3 (hst109.b 3) rfl)) ?_
    refine Lq (.bool ((r.failures + 1) == 3)) rfl rfl rfl (by kernel_rfl) ?_
    refine L_nil ?_
    rcases Bool.eq_false_or_eq_true ((r.failures + 1) == 3) with c110 | c110
    ·
     have q111 := eq_of_beq c110
     refine W_cond_true (by show Value.bool _ = _; exact congrArg Value.bool c110) ?_
     refine W_region_lit ?_
     refine Lq (.string (joinW [Wd.s ⟨#[101, 114, 114, 111, 114]⟩, Wd.i e])) rfl rfl rfl rfl ?_
     refine Lq (.string ((joinW [Wd.s ⟨#[101, 114, 114, 111, 114]⟩, Wd.i e]) ++ ⟨#[44, 32, 103, 105, 118, 101, 110, 32, 117, 112]⟩)) rfl rfl rfl (x_strcat rfl rfl rfl (str_room (joinW_small (Sm2 (Sm_s (by decide)) (Sm_i (by constructor <;> omega))) (Nat.le_of_ble_eq_true rfl)))) ?_
     refine Lq (int (-1)) rfl rfl rfl rfl ?_
     refine Lq (.string ((joinW [Wd.s ⟨#[101, 114, 114, 111, 114]⟩, Wd.i e]) ++ ⟨#[44, 32, 103, 105, 118, 101, 110, 32, 117, 112]⟩)) rfl rfl rfl rfl ?_
     refine L_nil ?_
     refine W_region_lit ?_
     refine Lq (ptr p 0) rfl rfl rfl rfl ?_
     refine Lq (.agg #[(int k.1), (int k.2)]) rfl rfl rfl (x_load rfl rfl (run_loadVar_agg ti_43 (hst109.b 1) (l := [(int k.1), (int k.2)]) rfl rfl)) ?_
     refine L_call rfl rfl rfl (x_call (vs := #[(ptr p 0), (.agg #[(int k.1), (int k.2)])]) rfl rfl (by kernel_rfl) ent_47) ?_ (fun _ _ h => h)
     refine calls_of_W (n := 6) Tryd.func47 rfl Tryd.ntmps47 (Nat.le_of_ble_eq_true rfl) ?_
     refine W_seq ?_
     refine W_region_lit ?_
     refine L_new hst109 (v := fun b => ptr b 0) (ob := .cells #[(ptr p 0)] 26 (0, 0)) rfl rfl rfl (by kernel_rfl) (fun b112 w113 hst114 => ?_)
     refine L_new hst114 (v := fun b => ptr b 0) (ob := .cells #[(int k.1), (int k.2)] 43 (0, 0)) rfl rfl rfl (by kernel_rfl) (fun b115 w116 hst117 => ?_)
     refine Lq .nilFunc rfl rfl rfl rfl ?_
     refine L_nil ?_
     refine W_seq ?_
     refine W_region_lit ?_
     refine Lq (.func (.func 60) #[] #[(ptr b112 0), (ptr b115 0)]) rfl rfl rfl (by kernel_rfl) ?_
     refine Lq (.func (.func 60) #[] #[(ptr b112 0), (ptr b115 0)]) rfl rfl rfl rfl ?_
     refine L_nil ?_
     refine W_ret ?_
     refine ⟨_, _, res_run (rs := [.tmp 4]) (vs := [(.func (.func 60) #[] #[(ptr b112 0), (ptr b115 0)])]) Tryd.results47 (.cons (.tmp rfl) .nil) rfl, ?_⟩
     refine ⟨_, rfl, ?_⟩
     refine Lq (int (-1)) rfl rfl rfl rfl ?_
     refine Lq (.string ((joinW [Wd.s ⟨#[101, 114, 114, 111, 114]⟩, Wd.i e]) ++ ⟨#[44, 32, 103, 105, 118, 101, 110, 32, 117, 112]⟩)) rfl rfl rfl rfl ?_
     refine Lq (.iface 9 (.string ((joinW [Wd.s ⟨#[101, 114, 114, 111, 114]⟩, Wd.i e]) ++ ⟨#[44, 32, 103, 105, 118, 101, 110, 32, 117, 112]⟩))) rfl rfl rfl (by kernel_rfl) ?_
     refine L_new hst117 (v := fun b => .slice (some ⟨b, 0, none⟩) 1 1) (ob := .cells #[(.iface 9 (.string ((joinW [Wd.s ⟨#[101, 114, 114, 111, 114]⟩, Wd.i e]) ++ ⟨#[44, 32, 103, 105, 118, 101, 110, 32, 117, 112]⟩)))] 20 (0, 0)) rfl rfl rfl (by kernel_rfl) (fun b118 w119 hst120 => ?_)
     refine L_call rfl rfl rfl (x_callv (vs := #[(int (-1)), (.slice (some ⟨b118, 0, none⟩) 1 1), (ptr b112 0), (ptr b115 0)]) rfl rfl (by kernel_rfl) ent_60) ?_ (fun _ _ h => h)
     refine calls_of_W (n := 29) Tryd.func60 rfl Tryd.ntmps60 (Nat.le_of_ble_eq_true rfl) ?_
     refine W_seq ?_
     refine W_region_draw [9] (fun w => Le R (hp w) ∧ Le (one b118 (.cells #[(.iface 9 (.string ((joinW [Wd.s ⟨#[101, 114, 114, 111, 114]⟩, Wd.i e]) ++ ⟨#[44, 32, 103, 105, 118, 101, 110, 32, 117, 112]⟩)))] 20 (0, 0))) (hp w) ∧ Le (one b115 (.cells #[(int k.1), (int k.2)] 43 (0, 0))) (hp w) ∧ Le (one b112 (.cells #[(ptr p 0)] 26 (0, 0))) (hp w) ∧ Le c105 (hp w) ∧ Le (one b73 (.cells #[(int k.1), (int k.2)] 43 (0, 0))) (hp w) ∧ Le (one b70 (.cells #[(.iface 9 (.string ⟨#[101, 114, 114, 111, 114]⟩)), (.iface 3 (int e))] 20 (0, 0))) (hp w) ∧ Le (one a (.cells #[(int r.tier), (int r.calls), (int 0), (int (r.failures + 1)), (.map (some b101))] 93 (0, 0))) (hp w) ∧ Le cE (hp w) ∧ Le c2 (hp w) ∧ Le (one b4 (.cells #[(int k.1), (int k.2)] 43 (0, 0))) (hp w) ∧ Le (one b1 (.cells #[(int k.1), (int k.2)] 43 (0, 0))) (hp w) ∧ Le (one p (.cells #[(int s.sample), (int s.warm), (int s.hot), (int s.cold), (.map (some bm)), v] 67 (0, 0))) (hp w) ∧ Le cM (hp w) ∧ Le cD (hp w)) hmix (by decide +kernel) (fun _ _ h => h) ?_
     have hst122 := hst120.draws (w119.drawn + 1)
     generalize draws w119 (w119.drawn + 1) = w121 at hst122 ⊢
     refine LT (ptr p 0) 0 rfl rfl rfl (fun u124 hF125 => (x_load rfl rfl (run_loadVar_one ti_26 (hF125.2.2.2.1 _ _ (one_self _ _)) rfl))) ⟨hst122.rle', hst122.g 0, hst122.g 1, hst122.g 2, hst122.g 3, hst122.g 4, hst122.g 5, hst122.g 6, hst122.g 7, hst122.g 8, hst122.g 9, hst122.g 10, hst122.g 11, hst122.g 12, hst122.g 13⟩ ?_
     refine LP (ptr p 0) 1 rfl rfl rfl (fun u127 => rfl) ⟨hst122.rle', hst122.g 0, hst122.g 1, hst122.g 2, hst122.g 3, hst122.g 4, hst122.g 5, hst122.g 6, hst122.g 7, hst122.g 8, hst122.g 9, hst122.g 10, hst122.g 11, hst122.g 12, hst122.g 13⟩ ?_
     refine LP (ptr p 4) 2 rfl rfl rfl (fun u130 => (by kernel_rfl)) ⟨hst122.rle', hst122.g 0, hst122.g 1, hst122.g 2, hst122.g 3, hst122.g 4, hst122.g 5, hst122.g 6, hst122.g 7, hst122.g 8, hst122.g 9, hst122.g 10, hst122.g 11, hst122.g 12, hst122.g 13⟩ ?_
     refine LT (.map (some bm)) 3 rfl rfl rfl (fun u133 hF134 => (x_load rfl rfl (run_loadVar_one ti_65 (hF134.2.2.2.2.2.2.2.2.2.2.2.2.1 _ _ (one_self _ _)) rfl))) ⟨hst122.rle', hst122.g 0, hst122.g 1, hst122.g 2, hst122.g 3, hst122.g 4, hst122.g 5, hst122.g 6, hst122.g 7, hst122.g 8, hst122.g 9, hst122.g 10, hst122.g 11, hst122.g 12, hst122.g 13⟩ ?_
     refine LT (.agg #[(int k.1), (int k.2)]) 4 rfl rfl rfl (fun u136 hF137 => (x_load rfl rfl (run_loadVar_agg ti_43 (hF137.2.2.1 _ _ (one_self _ _)) (l := [(int k.1), (int k.2)]) rfl rfl))) ⟨hst122.rle', hst122.g 0, hst122.g 1, hst122.g 2, hst122.g 3, hst122.g 4, hst122.g 5, hst122.g 6, hst122.g 7, hst122.g 8, hst122.g 9, hst122.g 10, hst122.g 11, hst122.g 12, hst122.g 13⟩ ?_
     refine LT (ptr a 0) 5 rfl rfl rfl (fun u139 hF140 => x_lookup rfl rfl rfl (by have h_ := MapC.lookupP (w := u139) hM hF140.2.2.2.2.2.2.2.2.2.2.2.2.2.1 law43 mt_65 ti_81 k false none rfl; rw [hg] at h_; exact h_)) ⟨hst122.rle', hst122.g 0, hst122.g 1, hst122.g 2, hst122.g 3, hst122.g 4, hst122.g 5, hst122.g 6, hst122.g 7, hst122.g 8, hst122.g 9, hst122.g 10, hst122.g 11, hst122.g 12, hst122.g 13⟩ ?_
     refine LP (int (-1)) 6 rfl rfl rfl (fun u142 => rfl) ⟨hst122.rle', hst122.g 0, hst122.g 1, hst122.g 2, hst122.g 3, hst122.g 4, hst122.g 5, hst122.g 6, hst122.g 7, hst122.g 8, hst122.g 9, hst122.g 10, hst122.g 11, hst122.g 12, hst122.g 13⟩ ?_
     refine LP (ptr a 0) 7 rfl rfl rfl (fun u145 => rfl) ⟨hst122.rle', hst122.g 0, hst122.g 1, hst122.g 2, hst122.g 3, hst122.g 4, hst122.g 5, hst122.g 6, hst122.g 7, hst122.g 8, hst122.g 9, hst122.g 10, hst122.g 11, hst122.g 12, hst122.g 13⟩ ?_
     refine LP (ptr a 0) 8 rfl rfl rfl (fun u148 => (by kernel_rfl)) ⟨hst122.rle', hst122.g 0, hst122.g 1, hst122.g 2, hst122.g 3, hst122.g 4, hst122.g 5, hst122.g 6, hst122.g 7, hst122.g 8, hst122.g 9, hst122.g 10, hst122.g 11, hst122.g 12, hst122.g 13⟩ ?_
     refine LA_all [9] (by decide +kernel) (by simp) ?_
     intro i_ hi_
     simp only [List.mem_cons, List.not_mem_nil, or_false] at hi_
     subst hi_
     obtain ⟨w151, hr153, hst152⟩ := run_storeW (P := Tryd.prog) (b := a) (off := 0) (v := (int (-1))) hst122 6 ti_3 rfl rfl rfl rfl rfl rfl
     change Step _ _ _ _ _ [one b118 (.cells #[(.iface 9 (.string ((joinW [Wd.s ⟨#[101, 114, 114, 111, 114]⟩, Wd.i e]) ++ ⟨#[44, 32, 103, 105, 118, 101, 110, 32, 117, 112]⟩)))] 20 (0, 0)), one b115 (.cells #[(int k.1), (int k.2)] 43 (0, 0)), one b112 (.cells #[(ptr p 0)] 26 (0, 0)), c105, one b73 (.cells #[(int k.1), (int k.2)] 43 (0, 0)), one b70 (.cells #[(.iface 9 (.string ⟨#[101, 114, 114, 111, 114]⟩)), (.iface 3 (int e))] 20 (0, 0)), one a (.cells #[(int (-1)), (int r.calls), (int 0), (int (r.failures + 1)), (.map (some b101))] 93 (0, 0)), cE, c2, one b4 (.cells #[(int k.1), (int k.2)] 43 (0, 0)), one b1 (.cells #[(int k.1), (int k.2)] 43 (0, 0)), one p (.cells #[(int s.sample), (int s.warm), (int s.hot), (int s.cold), (.map (some bm)), v] 67 (0, 0)), cM, cD] at hst152
     refine One_skip (i := 9) rfl rfl (Want.plain rfl) (x_store rfl rfl rfl hr153) (fun h => absurd h (by decide +kernel)) ?_
     refine LA_done (by decide +kernel) ?_
     refine W_region_draw [14] (fun w => Le R (hp w) ∧ Le (one b118 (.cells #[(.iface 9 (.string ((joinW [Wd.s ⟨#[101, 114, 114, 111, 114]⟩, Wd.i e]) ++ ⟨#[44, 32, 103, 105, 118, 101, 110, 32, 117, 112]⟩)))] 20 (0, 0))) (hp w) ∧ Le (one b115 (.cells #[(int k.1), (int k.2)] 43 (0, 0))) (hp w) ∧ Le (one b112 (.cells #[(ptr p 0)] 26 (0, 0))) (hp w) ∧ Le c105 (hp w) ∧ Le (one b73 (.cells #[(int k.1), (int k.2)] 43 (0, 0))) (hp w) ∧ Le (one b70 (.cells #[(.iface 9 (.string ⟨#[101, 114, 114, 111, 114]⟩)), (.iface 3 (int e))] 20 (0, 0))) (hp w) ∧ Le (one a (.cells #[(int (-1)), (int r.calls), (int 0), (int (r.failures + 1)), (.map (some b101))] 93 (0, 0))) (hp w) ∧ Le cE (hp w) ∧ Le c2 (hp w) ∧ Le (one b4 (.cells #[(int k.1), (int k.2)] 43 (0, 0))) (hp w) ∧ Le (one b1 (.cells #[(int k.1), (int k.2)] 43 (0, 0))) (hp w) ∧ Le (one p (.cells #[(int s.sample), (int s.warm), (int s.hot), (int s.cold), (.map (some bm)), v] 67 (0, 0))) (hp w) ∧ Le cM (hp w)) hmix (by decide +kernel) (fun _ _ h => h) ?_
     have hst155 := hst152.draws (w151.drawn + 1)
     generalize draws w151 (w151.drawn + 1) = w154 at hst155 ⊢
     refine LT (ptr p 0) 0 rfl rfl rfl (fun u157 hF158 => (x_load rfl rfl (run_loadVar_one ti_26 (hF158.2.2.2.1 _ _ (one_self _ _)) rfl))) ⟨hst155.rle', hst155.g 0, hst155.g 1, hst155.g 2, hst155.g 3, hst155.g 4, hst155.g 5, hst155.g 6, hst155.g 7, hst155.g 8, hst155.g 9, hst155.g 10, hst155.g 11, hst155.g 12⟩ ?_
     refine LT (ptr p 0) 1 rfl rfl rfl (fun u160 hF161 => (x_load rfl rfl (run_loadVar_one ti_26 (hF161.2.2.2.1 _ _ (one_self _ _)) rfl))) ⟨hst155.rle', hst155.g 0, hst155.g 1, hst155.g 2, hst155.g 3, hst155.g 4, hst155.g 5, hst155.g 6, hst155.g 7, hst155.g 8, hst155.g 9, hst155.g 10, hst155.g 11, hst155.g 12⟩ ?_
     refine LP (ptr p 0) 2 rfl rfl rfl (fun u163 => rfl) ⟨hst155.rle', hst155.g 0, hst155.g 1, hst155.g 2, hst155.g 3, hst155.g 4, hst155.g 5, hst155.g 6, hst155.g 7, hst155.g 8, hst155.g 9, hst155.g 10, hst155.g 11, hst155.g 12⟩ ?_
     refine LP (ptr p 5) 3 rfl rfl rfl (fun u166 => (by kernel_rfl)) ⟨hst155.rle', hst155.g 0, hst155.g 1, hst155.g 2, hst155.g 3, hst155.g 4, hst155.g 5, hst155.g 6, hst155.g 7, hst155.g 8, hst155.g 9, hst155.g 10, hst155.g 11, hst155.g 12⟩ ?_
     refine LT v 4 rfl rfl rfl (fun u169 hF170 => (x_load rfl rfl (run_loadVar_one ti_36 (hF170.2.2.2.2.2.2.2.2.2.2.2.2.1 _ _ (one_self _ _)) rfl))) ⟨hst155.rle', hst155.g 0, hst155.g 1, hst155.g 2, hst155.g 3, hst155.g 4, hst155.g 5, hst155.g 6, hst155.g 7, hst155.g 8, hst155.g 9, hst155.g 10, hst155.g 11, hst155.g 12⟩ ?_
     refine LT (.agg #[(int k.1), (int k.2)]) 5 rfl rfl rfl (fun u172 hF173 => (x_load rfl rfl (run_loadVar_agg ti_43 (hF173.2.2.1 _ _ (one_self _ _)) (l := [(int k.1), (int k.2)]) rfl rfl))) ⟨hst155.rle', hst155.g 0, hst155.g 1, hst155.g 2, hst155.g 3, hst155.g 4, hst155.g 5, hst155.g 6, hst155.g 7, hst155.g 8, hst155.g 9, hst155.g 10, hst155.g 11, hst155.g 12⟩ ?_
     refine LP (int (-1)) 6 rfl rfl rfl (fun u175 => rfl) ⟨hst155.rle', hst155.g 0, hst155.g 1, hst155.g 2, hst155.g 3, hst155.g 4, hst155.g 5, hst155.g 6, hst155.g 7, hst155.g 8, hst155.g 9, hst155.g 10, hst155.g 11, hst155.g 12⟩ ?_
     refine LP (.slice (some ⟨b118, 0, none⟩) 1 1) 7 rfl rfl rfl (fun u178 => rfl) ⟨hst155.rle', hst155.g 0, hst155.g 1, hst155.g 2, hst155.g 3, hst155.g 4, hst155.g 5, hst155.g 6, hst155.g 7, hst155.g 8, hst155.g 9, hst155.g 10, hst155.g 11, hst155.g 12⟩ ?_
     refine LA_all [8] (by decide +kernel) (by simp) ?_
     intro i_ hi_
     simp only [List.mem_cons, List.not_mem_nil, or_false] at hi_
     subst hi_
     refine One_call (i := 8) rfl rfl rfl (Want.plain rfl) (x_call (vs := #[(.slice (some ⟨b118, 0, none⟩) 1 1)]) rfl rfl (by kernel_rfl) ent_40) (words_spec (w := w154) (R := hp w154) (xs := [Wd.s ((joinW [Wd.s ⟨#[101, 114, 114, 111, 114]⟩, Wd.i e]) ++ ⟨#[44, 32, 103, 105, 118, 101, 110, 32, 117, 112]⟩)]) (hT.mono hst155.rle') (Le.refl _) (OwnL.freeze (OwnL.lit (t := tyWd) (xs := [Wd.s ((joinW [Wd.s ⟨#[101, 114, 114, 111, 114]⟩, Wd.i e]) ++ ⟨#[44, 32, 103, 105, 118, 101, 110, 32, 117, 112]⟩)]) (T := 20) (R := R) (cs := [(.iface 9 (.string ((joinW [Wd.s ⟨#[101, 114, 114, 111, 114]⟩, Wd.i e]) ++ ⟨#[44, 32, 103, 105, 118, 101, 110, 32, 117, 112]⟩)))]) (Encs.cons (show tyWd.rel _ _ [_] from rfl) Encs.nil) rfl (Nat.le_of_ble_eq_true rfl)) hst155.rle' (hst155.g 0)) (Ok1 (given_le (joinW_small (Sm2 (Sm_s (by decide)) (Sm_i (by constructor <;> omega))) (Nat.le_of_ble_eq_true rfl)))) (Nat.le_of_ble_eq_true rfl)) ?_
     rintro e185 w183 ⟨rfl, hw186⟩
     have hst184 := hst155.grown hw186
     refine ⟨_, rfl, (fun _ => ⟨hst184.rle', hst184.g 0, hst184.g 1, hst184.g 2, hst184.g 3, hst184.g 4, hst184.g 5, hst184.g 6, hst184.g 7, hst184.g 8, hst184.g 9, hst184.g 10, hst184.g 11, hst184.g 12⟩), ?_⟩
     refine LP (.agg #[(int k.1), (int k.2), (int (-1)), (.string (joinW [Wd.s ((joinW [Wd.s ⟨#[101, 114, 114, 111, 114]⟩, Wd.i e]) ++ ⟨#[44, 32, 103, 105, 118, 101, 110, 32, 117, 112]⟩)]))]) 9 rfl rfl rfl (fun u188 => (by kernel_rfl)) ⟨hst184.rle', hst184.g 0, hst184.g 1, hst184.g 2, hst184.g 3, hst184.g 4, hst184.g 5, hst184.g 6, hst184.g 7, hst184.g 8, hst184.g 9, hst184.g 10, hst184.g 11, hst184.g 12⟩ ?_
     refine LA_all [10] (by decide +kernel) (by simp) ?_
     intro i_ hi_
     simp only [List.mem_cons, List.not_mem_nil, or_false] at hi_
     subst hi_
     refine One_new hst184 (i := 10) (v := fun b => .slice (some ⟨b, 0, none⟩) 1 1) (ob := .cells #[(int k.1), (int k.2), (int (-1)), (.string (joinW [Wd.s ((joinW [Wd.s ⟨#[101, 114, 114, 111, 114]⟩, Wd.i e]) ++ ⟨#[44, 32, 103, 105, 118, 101, 110, 32, 117, 112]⟩)]))] 49 (0, 0)) rfl rfl rfl (Want.plain rfl) (by kernel_rfl) (fun b193 w194 hst195 => ?_)
     refine ⟨(fun _ => ⟨hst195.rle', hst195.g 1, hst195.g 2, hst195.g 3, hst195.g 4, hst195.g 5, hst195.g 6, hst195.g 7, hst195.g 8, hst195.g 9, hst195.g 10, hst195.g 11, hst195.g 12, hst195.g 13⟩), ?_⟩
     refine LA_all [11] (by decide +kernel) (by simp) ?_
     intro i_ hi_
     simp only [List.mem_cons, List.not_mem_nil, or_false] at hi_
     subst hi_
     refine One_append (j := 11) hst195 (t := 36) (e := 49) (ys := [Dec.mk k (-1) (joinW [Wd.s ((joinW [Wd.s ⟨#[101, 114, 114, 111, 114]⟩, Wd.i e]) ++ ⟨#[44, 32, 103, 105, 118, 101, 110, 32, 117, 112]⟩)])]) (src := [(int k.1), (int k.2), (int (-1)), (.string (joinW [Wd.s ((joinW [Wd.s ⟨#[101, 114, 114, 111, 114]⟩, Wd.i e]) ++ ⟨#[44, 32, 103, 105, 118, 101, 110, 32, 117, 112]⟩)]))]) 14 rfl rfl rfl (Want.plain rfl) rfl rfl rfl sl_36 ti_49 rfl rfl rfl hD (src_own (hst195.b 0)) (Encs.one (tyDec_mk _ _ _ _ _)) rfl (by first | omega | (simp only [List.length_append, List.length_cons, List.length_nil]; omega)) (by first | (simp only [maxLen]; omega) | (simp only [List.length_append, List.length_cons, List.length_nil, maxLen]; omega)) (fun v199 c200 w201 ho202 hst203 => ?_)
     refine ⟨(fun _ => ⟨hst203.rle', hst203.g 2, hst203.g 3, hst203.g 4, hst203.g 5, hst203.g 6, hst203.g 7, hst203.g 8, hst203.g 9, hst203.g 10, hst203.g 11, hst203.g 12, hst203.g 13, hst203.g 14⟩), ?_⟩
     refine LP (ptr p 0) 12 rfl rfl rfl (fun u205 => rfl) ⟨hst203.rle', hst203.g 2, hst203.g 3, hst203.g 4, hst203.g 5, hst203.g 6, hst203.g 7, hst203.g 8, hst203.g 9, hst203.g 10, hst203.g 11, hst203.g 12, hst203.g 13, hst203.g 14⟩ ?_
     refine LP (ptr p 5) 13 rfl rfl rfl (fun u208 => (by kernel_rfl)) ⟨hst203.rle', hst203.g 2, hst203.g 3, hst203.g 4, hst203.g 5, hst203.g 6, hst203.g 7, hst203.g 8, hst203.g 9, hst203.g 10, hst203.g 11, hst203.g 12, hst203.g 13, hst203.g 14⟩ ?_
     refine LA_all [14] (by decide +kernel) (by simp) ?_
     intro i_ hi_
     simp only [List.mem_cons, List.not_mem_nil, or_false] at hi_
     subst hi_
     obtain ⟨a211, cap212, e213, hc214⟩ := ho202.value
     subst e213
     obtain ⟨w215, hr217, hst216⟩ := run_storeW (P := Tryd.prog) (b := p) (off := 5) (v := (.slice a211 ((s.decs ++ [Dec.mk k (-1) (joinW [Wd.s ((joinW [Wd.s ⟨#[101, 114, 114, 111, 114]⟩, Wd.i e]) ++ ⟨#[44, 32, 103, 105, 118, 101, 110, 32, 117, 112]⟩)])]).length) cap212)) hst203 13 ti_36 rfl rfl rfl rfl rfl rfl
     change Step _ _ _ _ _ [c200, one b193 (.cells #[(int k.1), (int k.2), (int (-1)), (.string (joinW [Wd.s ((joinW [Wd.s ⟨#[101, 114, 114, 111, 114]⟩, Wd.i e]) ++ ⟨#[44, 32, 103, 105, 118, 101, 110, 32, 117, 112]⟩)]))] 49 (0, 0)), one b118 (.cells #[(.iface 9 (.string ((joinW [Wd.s ⟨#[101, 114, 114, 111, 114]⟩, Wd.i e]) ++ ⟨#[44, 32, 103, 105, 118, 101, 110, 32, 117, 112]⟩)))] 20 (0, 0)), one b115 (.cells #[(int k.1), (int k.2)] 43 (0, 0)), one b112 (.cells #[(ptr p 0)] 26 (0, 0)), c105, one b73 (.cells #[(int k.1), (int k.2)] 43 (0, 0)), one b70 (.cells #[(.iface 9 (.string ⟨#[101, 114, 114, 111, 114]⟩)), (.iface 3 (int e))] 20 (0, 0)), one a (.cells #[(int (-1)), (int r.calls), (int 0), (int (r.failures + 1)), (.map (some b101))] 93 (0, 0)), cE, c2, one b4 (.cells #[(int k.1), (int k.2)] 43 (0, 0)), one b1 (.cells #[(int k.1), (int k.2)] 43 (0, 0)), one p (.cells #[(int s.sample), (int s.warm), (int s.hot), (int s.cold), (.map (some bm)), (.slice a211 ((s.decs ++ [Dec.mk k (-1) (joinW [Wd.s ((joinW [Wd.s ⟨#[101, 114, 114, 111, 114]⟩, Wd.i e]) ++ ⟨#[44, 32, 103, 105, 118, 101, 110, 32, 117, 112]⟩)])]).length) cap212)] 67 (0, 0)), cM] at hst216
     refine One_skip (i := 14) rfl rfl (Want.plain rfl) (x_store rfl rfl rfl hr217) (fun h => absurd h (by decide +kernel)) ?_
     refine LA_done (by decide +kernel) ?_
     refine ⟨_, _, res_run (rs := []) (vs := []) Tryd.results60 .nil rfl, ?_⟩
     refine ⟨_, rfl, ?_⟩
     refine L_nil ?_
     refine ⟨_, _, res_run (rs := []) (vs := []) Tryd.results48 .nil rfl, ?_⟩
     refine ⟨_, rfl, ?_⟩
     refine L_nil ?_
     refine ⟨_, _, res_run (rs := []) (vs := []) Tryd.results26 .nil rfl, ?_⟩
     have he := failed_back (s := s) hgr (of_decide_eq_false c62) (ne_of_beq_false c65)
     rw [he]
     have hro2 : Rec.Ok s.n r := hro
     have he2 := setBack_up (s := s) (k := k) (t := 0) (l := [Wd.s wError, Wd.i e]) (r := { r with count := 0 }) (eq_of_beq c110)
     have hok2 := hok.setBack (k := k) (t := 0) (ex := r.exits) (c := 0) (l := [Wd.s wError, Wd.i e]) hro2 (by constructor <;> omega) (by decide) (Sm2 (Sm_s (by decide)) (Sm_i (by constructor <;> omega))) (Nat.le_of_ble_eq_true rfl)
     rw [show s.setBack k { r with count := 0 } 0 [Wd.s wError, Wd.i e] = _ from he2] at hok2
     rw [he2]
     obtain ⟨c', hst', hprof'⟩ := Prof.closeR (s := s.decide k ⟨r.tier, r.calls, 0, r.failures + 1, []⟩ (-1) (joinW [Wd.s (joinW [Wd.s wError, Wd.i e] ++ wGiven)])) (r := ⟨(-1), r.calls, 0, r.failures + 1, []⟩) (((((hst216.front 10 rfl rfl).front 6 rfl rfl).front 9 rfl rfl).front 14 rfl rfl).front 14 rfl rfl) hM hm104 (fun c1 h d => hback _ c1 h d) ho202 hok2
     exact ⟨_, _, _, rfl, hst'.keepN 1 rfl, c', rfl, rfl, hprof'⟩
    ·
     have q218 := ne_of_beq_false c110
     refine W_cond_false (by show Value.bool _ = _; exact congrArg Value.bool c110) ?_
     refine W_skip ?_
     refine W_region_lit ?_
     refine Lq (ptr p 0) rfl rfl rfl rfl ?_
     refine Lq (.agg #[(int k.1), (int k.2)]) rfl rfl rfl (x_load rfl rfl (run_loadVar_agg ti_43 (hst109.b 1) (l := [(int k.1), (int k.2)]) rfl rfl)) ?_
     refine L_call rfl rfl rfl (x_call (vs := #[(ptr p 0), (.agg #[(int k.1), (int k.2)])]) rfl rfl (by kernel_rfl) ent_47) ?_ (fun _ _ h => h)
     refine calls_of_W (n := 6) Tryd.func47 rfl Tryd.ntmps47 (Nat.le_of_ble_eq_true rfl) ?_
     refine W_seq ?_
     refine W_region_lit ?_
     refine L_new hst109 (v := fun b => ptr b 0) (ob := .cells #[(ptr p 0)] 26 (0, 0)) rfl rfl rfl (by kernel_rfl) (fun b219 w220 hst221 => ?_)
     refine L_new hst221 (v := fun b => ptr b 0) (ob := .cells #[(int k.1), (int k.2)] 43 (0, 0)) rfl rfl rfl (by kernel_rfl) (fun b222 w223 hst224 => ?_)
     refine Lq .nilFunc rfl rfl rfl rfl ?_
     refine L_nil ?_
     refine W_seq ?_
     refine W_region_lit ?_
     refine Lq (.func (.func 60) #[] #[(ptr b219 0), (ptr b222 0)]) rfl rfl rfl (by kernel_rfl) ?_
     refine Lq (.func (.func 60) #[] #[(ptr b219 0), (ptr b222 0)]) rfl rfl rfl rfl ?_
     refine L_nil ?_
     refine W_ret ?_
     refine ⟨_, _, res_run (rs := [.tmp 4]) (vs := [(.func (.func 60) #[] #[(ptr b219 0), (ptr b222 0)])]) Tryd.results47 (.cons (.tmp rfl) .nil) rfl, ?_⟩
     refine ⟨_, rfl, ?_⟩
     refine Lq (int 0) rfl rfl rfl rfl ?_
     refine Lq (.string (joinW [Wd.s ⟨#[101, 114, 114, 111, 114]⟩, Wd.i e])) rfl rfl rfl rfl ?_
     refine Lq (.iface 9 (.string (joinW [Wd.s ⟨#[101, 114, 114, 111, 114]⟩, Wd.i e]))) rfl rfl rfl (by kernel_rfl) ?_
     refine L_new hst224 (v := fun b => .slice (some ⟨b, 0, none⟩) 1 1) (ob := .cells #[(.iface 9 (.string (joinW [Wd.s ⟨#[101, 114, 114, 111, 114]⟩, Wd.i e])))] 20 (0, 0)) rfl rfl rfl (by kernel_rfl) (fun b225 w226 hst227 => ?_)
     refine L_call rfl rfl rfl (x_callv (vs := #[(int 0), (.slice (some ⟨b225, 0, none⟩) 1 1), (ptr b219 0), (ptr b222 0)]) rfl rfl (by kernel_rfl) ent_60) ?_ (fun _ _ h => h)
     refine calls_of_W (n := 29) Tryd.func60 rfl Tryd.ntmps60 (Nat.le_of_ble_eq_true rfl) ?_
     refine W_seq ?_
     refine W_region_draw [9] (fun w => Le R (hp w) ∧ Le (one b225 (.cells #[(.iface 9 (.string (joinW [Wd.s ⟨#[101, 114, 114, 111, 114]⟩, Wd.i e])))] 20 (0, 0))) (hp w) ∧ Le (one b222 (.cells #[(int k.1), (int k.2)] 43 (0, 0))) (hp w) ∧ Le (one b219 (.cells #[(ptr p 0)] 26 (0, 0))) (hp w) ∧ Le c105 (hp w) ∧ Le (one b73 (.cells #[(int k.1), (int k.2)] 43 (0, 0))) (hp w) ∧ Le (one b70 (.cells #[(.iface 9 (.string ⟨#[101, 114, 114, 111, 114]⟩)), (.iface 3 (int e))] 20 (0, 0))) (hp w) ∧ Le (one a (.cells #[(int r.tier), (int r.calls), (int 0), (int (r.failures + 1)), (.map (some b101))] 93 (0, 0))) (hp w) ∧ Le cE (hp w) ∧ Le c2 (hp w) ∧ Le (one b4 (.cells #[(int k.1), (int k.2)] 43 (0, 0))) (hp w) ∧ Le (one b1 (.cells #[(int k.1), (int k.2)] 43 (0, 0))) (hp w) ∧ Le (one p (.cells #[(int s.sample), (int s.warm), (int s.hot), (int s.cold), (.map (some bm)), v] 67 (0, 0))) (hp w) ∧ Le cM (hp w) ∧ Le cD (hp w)) hmix (by decide +kernel) (fun _ _ h => h) ?_
     have hst229 := hst227.draws (w226.drawn + 1)
     generalize draws w226 (w226.drawn + 1) = w228 at hst229 ⊢
     refine LT (ptr p 0) 0 rfl rfl rfl (fun u231 hF232 => (x_load rfl rfl (run_loadVar_one ti_26 (hF232.2.2.2.1 _ _ (one_self _ _)) rfl))) ⟨hst229.rle', hst229.g 0, hst229.g 1, hst229.g 2, hst229.g 3, hst229.g 4, hst229.g 5, hst229.g 6, hst229.g 7, hst229.g 8, hst229.g 9, hst229.g 10, hst229.g 11, hst229.g 12, hst229.g 13⟩ ?_
     refine LP (ptr p 0) 1 rfl rfl rfl (fun u234 => rfl) ⟨hst229.rle', hst229.g 0, hst229.g 1, hst229.g 2, hst229.g 3, hst229.g 4, hst229.g 5, hst229.g 6, hst229.g 7, hst229.g 8, hst229.g 9, hst229.g 10, hst229.g 11, hst229.g 12, hst229.g 13⟩ ?_
     refine LP (ptr p 4) 2 rfl rfl rfl (fun u237 => (by kernel_rfl)) ⟨hst229.rle', hst229.g 0, hst229.g 1, hst229.g 2, hst229.g 3, hst229.g 4, hst229.g 5, hst229.g 6, hst229.g 7, hst229.g 8, hst229.g 9, hst229.g 10, hst229.g 11, hst229.g 12, hst229.g 13⟩ ?_
     refine LT (.map (some bm)) 3 rfl rfl rfl (fun u240 hF241 => (x_load rfl rfl (run_loadVar_one ti_65 (hF241.2.2.2.2.2.2.2.2.2.2.2.2.1 _ _ (one_self _ _)) rfl))) ⟨hst229.rle', hst229.g 0, hst229.g 1, hst229.g 2, hst229.g 3, hst229.g 4, hst229.g 5, hst229.g 6, hst229.g 7, hst229.g 8, hst229.g 9, hst229.g 10, hst229.g 11, hst229.g 12, hst229.g 13⟩ ?_
     refine LT (.agg #[(int k.1), (int k.2)]) 4 rfl rfl rfl (fun u243 hF244 => (x_load rfl rfl (run_loadVar_agg ti_43 (hF244.2.2.1 _ _ (one_self _ _)) (l := [(int k.1), (int k.2)]) rfl rfl))) ⟨hst229.rle', hst229.g 0, hst229.g 1, hst229.g 2, hst229.g 3, hst229.g 4, hst229.g 5, hst229.g 6, hst229.g 7, hst229.g 8, hst229.g 9, hst229.g 10, hst229.g 11, hst229.g 12, hst229.g 13⟩ ?_
     refine LT (ptr a 0) 5 rfl rfl rfl (fun u246 hF247 => x_lookup rfl rfl rfl (by have h_ := MapC.lookupP (w := u246) hM hF247.2.2.2.2.2.2.2.2.2.2.2.2.2.1 law43 mt_65 ti_81 k false none rfl; rw [hg] at h_; exact h_)) ⟨hst229.rle', hst229.g 0, hst229.g 1, hst229.g 2, hst229.g 3, hst229.g 4, hst229.g 5, hst229.g 6, hst229.g 7, hst229.g 8, hst229.g 9, hst229.g 10, hst229.g 11, hst229.g 12, hst229.g 13⟩ ?_
     refine LP (int 0) 6 rfl rfl rfl (fun u249 => rfl) ⟨hst229.rle', hst229.g 0, hst229.g 1, hst229.g 2, hst229.g 3, hst229.g 4, hst229.g 5, hst229.g 6, hst229.g 7, hst229.g 8, hst229.g 9, hst229.g 10, hst229.g 11, hst229.g 12, hst229.g 13⟩ ?_
     refine LP (ptr a 0) 7 rfl rfl rfl (fun u252 => rfl) ⟨hst229.rle', hst229.g 0, hst229.g 1, hst229.g 2, hst229.g 3, hst229.g 4, hst229.g 5, hst229.g 6, hst229.g 7, hst229.g 8, hst229.g 9, hst229.g 10, hst229.g 11, hst229.g 12, hst229.g 13⟩ ?_
     refine LP (ptr a 0) 8 rfl rfl rfl (fun u255 => (by kernel_rfl)) ⟨hst229.rle', hst229.g 0, hst229.g 1, hst229.g 2, hst229.g 3, hst229.g 4, hst229.g 5, hst229.g 6, hst229.g 7, hst229.g 8, hst229.g 9, hst229.g 10, hst229.g 11, hst229.g 12, hst229.g 13⟩ ?_
     refine LA_all [9] (by decide +kernel) (by simp) ?_
     intro i_ hi_
     simp only [List.mem_cons, List.not_mem_nil, or_false] at hi_
     subst hi_
     obtain ⟨w258, hr260, hst259⟩ := run_storeW (P := Tryd.prog) (b := a) (off := 0) (v := (int 0)) hst229 6 ti_3 rfl rfl rfl rfl rfl rfl
     change Step _ _ _ _ _ [one b225 (.cells #[(.iface 9 (.string (joinW [Wd.s ⟨#[101, 114, 114, 111, 114]⟩, Wd.i e])))] 20 (0, 0)), one b222 (.cells #[(int k.1), (int k.2)] 43 (0, 0)), one b219 (.cells #[(ptr p 0)] 26 (0, 0)), c105, one b73 (.cells #[(int k.1), (int k.2)] 43 (0, 0)), one b70 (.cells #[(.iface 9 (.string ⟨#[101, 114, 114, 111, 114]⟩)), (.iface 3 (int e))] 20 (0, 0)), one a (.cells #[(int 0), (int r.calls), (int 0), (int (r.failures + 1)), (.map (some b101))] 93 (0, 0)), cE, c2, one b4 (.cells #[(int k.1), (int k.2)] 43 (0, 0)), one b1 (.cells #[(int k.1), (int k.2)] 43 (0, 0)), one p (.cells #[(int s.sample), (int s.warm), (int s.hot), (int s.cold), (.map (some bm)), v] 67 (0, 0)), cM, cD] at hst259
     refine One_skip (i := 9) rfl rfl (Want.plain rfl) (x_store rfl rfl rfl hr260) (fun h => absurd h (by decide +kernel)) ?_
     refine LA_done (by decide +kernel) ?_
     refine W_region_draw [14] (fun w => Le R (hp w) ∧ Le (one b225 (.cells #[(.iface 9 (.string (joinW [Wd.s ⟨#[101, 114, 114, 111, 114]⟩, Wd.i e])))] 20 (0, 0))) (hp w) ∧ Le (one b222 (.cells #[(int k.1), (int k.2)] 43 (0, 0))) (hp w) ∧ Le (one b219 (.cells #[(ptr p 0)] 26 (0, 0))) (hp w) ∧ Le c105 (hp w) ∧ Le (one b73 (.cells #[(int k.1), (int k.2)] 43 (0, 0))) (hp w) ∧ Le (one b70 (.cells #[(.iface 9 (.string ⟨#[101, 114, 114, 111, 114]⟩)), (.iface 3 (int e))] 20 (0, 0))) (hp w) ∧ Le (one a (.cells #[(int 0), (int r.calls), (int 0), (int (r.failures + 1)), (.map (some b101))] 93 (0, 0))) (hp w) ∧ Le cE (hp w) ∧ Le c2 (hp w) ∧ Le (one b4 (.cells #[(int k.1), (int k.2)] 43 (0, 0))) (hp w) ∧ Le (one b1 (.cells #[(int k.1), (int k.2)] 43 (0, 0))) (hp w) ∧ Le (one p (.cells #[(int s.sample), (int s.warm), (int s.hot), (int s.cold), (.map (some bm)), v] 67 (0, 0))) (hp w) ∧ Le cM (hp w)) hmix (by decide +kernel) (fun _ _ h => h) ?_
     have hst262 := hst259.draws (w258.drawn + 1)
     generalize draws w258 (w258.drawn + 1) = w261 at hst262 ⊢
     refine LT (ptr p 0) 0 rfl rfl rfl (fun u264 hF265 => (x_load rfl rfl (run_loadVar_one ti_26 (hF265.2.2.2.1 _ _ (one_self _ _)) rfl))) ⟨hst262.rle', hst262.g 0, hst262.g 1, hst262.g 2, hst262.g 3, hst262.g 4, hst262.g 5, hst262.g 6, hst262.g 7, hst262.g 8, hst262.g 9, hst262.g 10, hst262.g 11, hst262.g 12⟩ ?_
     refine LT (ptr p 0) 1 rfl rfl rfl (fun u267 hF268 => (x_load rfl rfl (run_loadVar_one ti_26 (hF268.2.2.2.1 _ _ (one_self _ _)) rfl))) ⟨hst262.rle', hst262.g 0, hst262.g 1, hst262.g 2, hst262.g 3, hst262.g 4, hst262.g 5, hst262.g 6, hst262.g 7, hst262.g 8, hst262.g 9, hst262.g 10, hst262.g 11, hst262.g 12⟩ ?_
     refine LP (ptr p 0) 2 rfl rfl rfl (fun u270 => rfl) ⟨hst262.rle', hst262.g 0, hst262.g 1, hst262.g 2, hst262.g 3, hst262.g 4, hst262.g 5, hst262.g 6, hst262.g 7, hst262.g 8, hst262.g 9, hst262.g 10, hst262.g 11, hst262.g 12⟩ ?_
     refine LP (ptr p 5) 3 rfl rfl rfl (fun u273 => (by kernel_rfl)) ⟨hst262.rle', hst262.g 0, hst262.g 1, hst262.g 2, hst262.g 3, hst262.g 4, hst262.g 5, hst262.g 6, hst262.g 7, hst262.g 8, hst262.g 9, hst262.g 10, hst262.g 11, hst262.g 12⟩ ?_
     refine LT v 4 rfl rfl rfl (fun u276 hF277 => (x_load rfl rfl (run_loadVar_one ti_36 (hF277.2.2.2.2.2.2.2.2.2.2.2.2.1 _ _ (one_self _ _)) rfl))) ⟨hst262.rle', hst262.g 0, hst262.g 1, hst262.g 2, hst262.g 3, hst262.g 4, hst262.g 5, hst262.g 6, hst262.g 7, hst262.g 8, hst262.g 9, hst262.g 10, hst262.g 11, hst262.g 12⟩ ?_
     refine LT (.agg #[(int k.1), (int k.2)]) 5 rfl rfl rfl (fun u279 hF280 => (x_load rfl rfl (run_loadVar_agg ti_43 (hF280.2.2.1 _ _ (one_self _ _)) (l := [(int k.1), (int k.2)]) rfl rfl))) ⟨hst262.rle', hst262.g 0, hst262.g 1, hst262.g 2, hst262.g 3, hst262.g 4, hst262.g 5, hst262.g 6, hst262.g 7, hst262.g 8, hst262.g 9, hst262.g 10, hst262.g 11, hst262.g 12⟩ ?_
     refine LP (int 0) 6 rfl rfl rfl (fun u282 => rfl) ⟨hst262.rle', hst262.g 0, hst262.g 1, hst262.g 2, hst262.g 3, hst262.g 4, hst262.g 5, hst262.g 6, hst262.g 7, hst262.g 8, hst262.g 9, hst262.g 10, hst262.g 11, hst262.g 12⟩ ?_
     refine LP (.slice (some ⟨b225, 0, none⟩) 1 1) 7 rfl rfl rfl (fun u285 => rfl) ⟨hst262.rle', hst262.g 0, hst262.g 1, hst262.g 2, hst262.g 3, hst262.g 4, hst262.g 5, hst262.g 6, hst262.g 7, hst262.g 8, hst262.g 9, hst262.g 10, hst262.g 11, hst262.g 12⟩ ?_
     refine LA_all [8] (by decide +kernel) (by simp) ?_
     intro i_ hi_
     simp only [List.mem_cons, List.not_mem_nil, or_false] at hi_
     subst hi_
     refine One_call (i := 8) rfl rfl rfl (Want.plain rfl) (x_call (vs := #[(.slice (some ⟨b225, 0, none⟩) 1 1)]) rfl rfl (by kernel_rfl) ent_40) (words_spec (w := w261) (R := hp w261) (xs := [Wd.s (joinW [Wd.s ⟨#[101, 114, 114, 111, 114]⟩, Wd.i e])]) (hT.mono hst262.rle') (Le.refl _) (OwnL.freeze (OwnL.lit (t := tyWd) (xs := [Wd.s (joinW [Wd.s ⟨#[101, 114, 114, 111, 114]⟩, Wd.i e])]) (T := 20) (R := R) (cs := [(.iface 9 (.string (joinW [Wd.s ⟨#[101, 114, 114, 111, 114]⟩, Wd.i e])))]) (Encs.cons (show tyWd.rel _ _ [_] from rfl) Encs.nil) rfl (Nat.le_of_ble_eq_true rfl)) hst262.rle' (hst262.g 0)) (Ok1 (Nat.le_trans (joinW_small (Sm2 (Sm_s (by decide)) (Sm_i (by constructor <;> omega))) (Nat.le_of_ble_eq_true rfl)) (by decide))) (Nat.le_of_ble_eq_true rfl)) ?_
     rintro e292 w290 ⟨rfl, hw293⟩
     have hst291 := hst262.grown hw293
     refine ⟨_, rfl, (fun _ => ⟨hst291.rle', hst291.g 0, hst291.g 1, hst291.g 2, hst291.g 3, hst291.g 4, hst291.g 5, hst291.g 6, hst291.g 7, hst291.g 8, hst291.g 9, hst291.g 10, hst291.g 11, hst291.g 12⟩), ?_⟩
     refine LP (.agg #[(int k.1), (int k.2), (int 0), (.string (joinW [Wd.s (joinW [Wd.s ⟨#[101, 114, 114, 111, 114]⟩, Wd.i e])]))]) 9 rfl rfl rfl (fun u295 => (by kernel_rfl)) ⟨hst291.rle', hst291.g 0, hst291.g 1, hst291.g 2, hst291.g 3, hst291.g 4, hst291.g 5, hst291.g 6, hst291.g 7, hst291.g 8, hst291.g 9, hst291.g 10, hst291.g 11, hst291.g 12⟩ ?_
     refine LA_all [10] (by decide +kernel) (by simp) ?_
     intro i_ hi_
     simp only [List.mem_cons, List.not_mem_nil, or_false] at hi_
     subst hi_
     refine One_new hst291 (i := 10) (v := fun b => .slice (some ⟨b, 0, none⟩) 1 1) (ob := .cells #[(int k.1), (int k.2), (int 0), (.string (joinW [Wd.s (joinW [Wd.s ⟨#[101, 114, 114, 111, 114]⟩, Wd.i e])]))] 49 (0, 0)) rfl rfl rfl (Want.plain rfl) (by kernel_rfl) (fun b300 w301 hst302 => ?_)
     refine ⟨(fun _ => ⟨hst302.rle', hst302.g 1, hst302.g 2, hst302.g 3, hst302.g 4, hst302.g 5, hst302.g 6, hst302.g 7, hst302.g 8, hst302.g 9, hst302.g 10, hst302.g 11, hst302.g 12, hst302.g 13⟩), ?_⟩
     refine LA_all [11] (by decide +kernel) (by simp) ?_
     intro i_ hi_
     simp only [List.mem_cons, List.not_mem_nil, or_false] at hi_
     subst hi_
     refine One_append (j := 11) hst302 (t := 36) (e := 49) (ys := [Dec.mk k 0 (joinW [Wd.s (joinW [Wd.s ⟨#[101, 114, 114, 111, 114]⟩, Wd.i e])])]) (src := [(int k.1), (int k.2), (int 0), (.string (joinW [Wd.s (joinW [Wd.s ⟨#[101, 114, 114, 111, 114]⟩, Wd.i e])]))]) 14 rfl rfl rfl (Want.plain rfl) rfl rfl rfl sl_36 ti_49 rfl rfl rfl hD (src_own (hst302.b 0)) (Encs.one (tyDec_mk _ _ _ _ _)) rfl (by first | omega | (simp only [List.length_append, List.length_cons, List.length_nil]; omega)) (by first | (simp only [maxLen]; omega) | (simp only [List.length_append, List.length_cons, List.length_nil, maxLen]; omega)) (fun v306 c307 w308 ho309 hst310 => ?_)
     refine ⟨(fun _ => ⟨hst310.rle', hst310.g 2, hst310.g 3, hst310.g 4, hst310.g 5, hst310.g 6, hst310.g 7, hst310.g 8, hst310.g 9, hst310.g 10, hst310.g 11, hst310.g 12, hst310.g 13, hst310.g 14⟩), ?_⟩
     refine LP (ptr p 0) 12 rfl rfl rfl (fun u312 => rfl) ⟨hst310.rle', hst310.g 2, hst310.g 3, hst310.g 4, hst310.g 5, hst310.g 6, hst310.g 7, hst310.g 8, hst310.g 9, hst310.g 10, hst310.g 11, hst310.g 12, hst310.g 13, hst310.g 14⟩ ?_
     refine LP (ptr p 5) 13 rfl rfl rfl (fun u315 => (by kernel_rfl)) ⟨hst310.rle', hst310.g 2, hst310.g 3, hst310.g 4, hst310.g 5, hst310.g 6, hst310.g 7, hst310.g 8, hst310.g 9, hst310.g 10, hst310.g 11, hst310.g 12, hst310.g 13, hst310.g 14⟩ ?_
     refine LA_all [14] (by decide +kernel) (by simp) ?_
     intro i_ hi_
     simp only [List.mem_cons, List.not_mem_nil, or_false] at hi_
     subst hi_
     obtain ⟨a318, cap319, e320, hc321⟩ := ho309.value
     subst e320
     obtain ⟨w322, hr324, hst323⟩ := run_storeW (P := Tryd.prog) (b := p) (off := 5) (v := (.slice a318 ((s.decs ++ [Dec.mk k 0 (joinW [Wd.s (joinW [Wd.s ⟨#[101, 114, 114, 111, 114]⟩, Wd.i e])])]).length) cap319)) hst310 13 ti_36 rfl rfl rfl rfl rfl rfl
     change Step _ _ _ _ _ [c307, one b300 (.cells #[(int k.1), (int k.2), (int 0), (.string (joinW [Wd.s (joinW [Wd.s ⟨#[101, 114, 114, 111, 114]⟩, Wd.i e])]))] 49 (0, 0)), one b225 (.cells #[(.iface 9 (.string (joinW [Wd.s ⟨#[101, 114, 114, 111, 114]⟩, Wd.i e])))] 20 (0, 0)), one b222 (.cells #[(int k.1), (int k.2)] 43 (0, 0)), one b219 (.cells #[(ptr p 0)] 26 (0, 0)), c105, one b73 (.cells #[(int k.1), (int k.2)] 43 (0, 0)), one b70 (.cells #[(.iface 9 (.string ⟨#[101, 114, 114, 111, 114]⟩)), (.iface 3 (int e))] 20 (0, 0)), one a (.cells #[(int 0), (int r.calls), (int 0), (int (r.failures + 1)), (.map (some b101))] 93 (0, 0)), cE, c2, one b4 (.cells #[(int k.1), (int k.2)] 43 (0, 0)), one b1 (.cells #[(int k.1), (int k.2)] 43 (0, 0)), one p (.cells #[(int s.sample), (int s.warm), (int s.hot), (int s.cold), (.map (some bm)), (.slice a318 ((s.decs ++ [Dec.mk k 0 (joinW [Wd.s (joinW [Wd.s ⟨#[101, 114, 114, 111, 114]⟩, Wd.i e])])]).length) cap319)] 67 (0, 0)), cM] at hst323
     refine One_skip (i := 14) rfl rfl (Want.plain rfl) (x_store rfl rfl rfl hr324) (fun h => absurd h (by decide +kernel)) ?_
     refine LA_done (by decide +kernel) ?_
     refine ⟨_, _, res_run (rs := []) (vs := []) Tryd.results60 .nil rfl, ?_⟩
     refine ⟨_, rfl, ?_⟩
     refine L_nil ?_
     refine ⟨_, _, res_run (rs := []) (vs := []) Tryd.results48 .nil rfl, ?_⟩
     refine ⟨_, rfl, ?_⟩
     refine L_nil ?_
     refine ⟨_, _, res_run (rs := []) (vs := []) Tryd.results26 .nil rfl, ?_⟩
     have he := failed_back (s := s) hgr (of_decide_eq_false c62) (ne_of_beq_false c65)
     rw [he]
     have hro2 : Rec.Ok s.n r := hro
     have he2 := setBack_on (s := s) (k := k) (t := 0) (l := [Wd.s wError, Wd.i e]) (r := { r with count := 0 }) (ne_of_beq_false c110)
     have hok2 := hok.setBack (k := k) (t := 0) (ex := r.exits) (c := 0) (l := [Wd.s wError, Wd.i e]) hro2 (by constructor <;> omega) (by decide) (Sm2 (Sm_s (by decide)) (Sm_i (by constructor <;> omega))) (Nat.le_of_ble_eq_true rfl)
     rw [show s.setBack k { r with count := 0 } 0 [Wd.s wError, Wd.i e] = _ from he2] at hok2
     rw [he2]
     obtain ⟨c', hst', hprof'⟩ := Prof.closeR (s := s.decide k ⟨r.tier, r.calls, 0, r.failures + 1, []⟩ 0 (joinW [Wd.s (joinW [Wd.s wError, Wd.i e])])) (r := ⟨0, r.calls, 0, r.failures + 1, []⟩) (((((hst323.front 10 rfl rfl).front 6 rfl rfl).front 9 rfl rfl).front 14 rfl rfl).front 14 rfl rfl) hM hm104 (fun c1 h d => hback _ c1 h d) ho309 hok2
     exact ⟨_, _, _, rfl, hst'.keepN 1 rfl, c', rfl, rfl, hprof'⟩

set_option maxHeartbeats 4000000 in
theorem Tier_spec {w : World} {R c : Hp} {p : Nat} {s : PS} (k : Pl) (hs : Sats w R [c]) (hprof : Prof R p s c) (hT : Tab R) (hn : s.n ≤ 1000000000) :
    Calls Tryd.prog 18 #[ptr p 0, kk k] w (Comes' w R [c] fun v' R' L' => ∃ c', v' = int (s.tier k) ∧ L' = [c'] ∧ Prof R' p (s) c') := by
 obtain ⟨bm, m, v, cM, cR, cD, rfl, hd1, hd2, hd3, hM, hRs, hD, hok⟩ := hprof
 have hst := Prof.opened (Step.refl hs) hd1 hd2 hd3
 obtain ⟨hb1, hb2⟩ := hok.sample
 obtain ⟨hb3, hb4⟩ := hok.warm
 obtain ⟨hb5, hb6⟩ := hok.hot
 obtain ⟨hb7, hb8⟩ := hok.cold
 have hb9 := hok.decs
 refine calls_of_W (n := 15) Tryd.func18 rfl Tryd.ntmps18 (Nat.le_of_ble_eq_true rfl) ?_
 refine W_seq ?_
 refine W_region_lit ?_
 refine L_new hst (v := fun b => ptr b 0) (ob := .cells #[(int k.1), (int k.2)] 43 (0, 0)) rfl rfl rfl (by kernel_rfl) (fun b1 w2 hst3 => ?_)
 refine Lq (int 0) rfl rfl rfl rfl ?_
 refine L_nil ?_
 refine W_seq ?_
 refine W_seq ?_
 refine W_region_lit ?_
 refine Lq (ptr p 0) rfl rfl rfl rfl ?_
 refine Lq (.agg #[(int k.1), (int k.2)]) rfl rfl rfl (x_load rfl rfl (run_loadVar_agg ti_43 (hst3.b 0) (l := [(int k.1), (int k.2)]) rfl rfl)) ?_
 refine L_call rfl rfl rfl (x_call (vs := #[(ptr p 0), (.agg #[(int k.1), (int k.2)])]) rfl rfl (by kernel_rfl) ent_44) ?_ (fun _ _ h => h)
 refine calls_of_W (n := 13) Tryd.func44 rfl Tryd.ntmps44 (Nat.le_of_ble_eq_true rfl) ?_
 refine W_seq ?_
 refine W_region_lit ?_
 refine L_new hst3 (v := fun b => ptr b 0) (ob := .cells #[(int k.1), (int k.2)] 43 (0, 0)) rfl rfl rfl (by kernel_rfl) (fun b4 w5 hst6 => ?_)
 refine Lq (.pointer none) rfl rfl rfl rfl ?_
 refine L_nil ?_
 refine W_seq ?_
 refine W_seq ?_
 refine W_region_lit ?_
 refine Lq (ptr p 0) rfl rfl rfl rfl ?_
 refine Lq (.bool false) rfl rfl rfl (by kernel_rfl) ?_
 refine L_nil ?_
 refine W_cond_false (by show Value.bool _ = _; exact congrArg Value.bool rfl) ?_
 refine W_skip ?_
 refine W_seq ?_
 rcases Recs.look hRs k with ⟨hg, hgr⟩ | ⟨a, r, c1, c2, hg, hgr, hrec, hc, hdj, hback⟩
 ·
  refine W_region_draw [] (fun w => Le R (hp w) ∧ Le (one b4 (.cells #[(int k.1), (int k.2)] 43 (0, 0))) (hp w) ∧ Le (one b1 (.cells #[(int k.1), (int k.2)] 43 (0, 0))) (hp w) ∧ Le (one p (.cells #[(int s.sample), (int s.warm), (int s.hot), (int s.cold), (.map (some bm)), v] 67 (0, 0))) (hp w) ∧ Le cM (hp w) ∧ Le cR (hp w) ∧ Le cD (hp w)) hmix (by decide +kernel) (fun _ _ h => h) ?_
  have hst8 := hst6.draws (w5.drawn + 1)
  generalize draws w5 (w5.drawn + 1) = w7 at hst8 ⊢
  refine LP (ptr p 0) 0 rfl rfl rfl (fun u10 => rfl) hst8.a6 ?_
  refine LP (ptr p 0) 1 rfl rfl rfl (fun u13 => rfl) hst8.a6 ?_
  refine LP (ptr p 4) 2 rfl rfl rfl (fun u16 => (by kernel_rfl)) hst8.a6 ?_
  refine LT (.map (some bm)) 3 rfl rfl rfl (fun u19 hF20 => (x_load rfl rfl (run_loadVar_one ti_65 (hF20.2.2.2.1 _ _ (one_self _ _)) rfl))) hst8.a6 ?_
  refine LT (.agg #[(int k.1), (int k.2)]) 4 rfl rfl rfl (fun u22 hF23 => (x_load rfl rfl (run_loadVar_agg ti_43 (hF23.2.1 _ _ (one_self _ _)) (l := [(int k.1), (int k.2)]) rfl rfl))) hst8.a6 ?_
  refine LT (.pointer none) 5 rfl rfl rfl (fun u25 hF26 => x_lookup rfl rfl rfl (by have h_ := MapC.lookupP (w := u25) hM hF26.2.2.2.2.1 law43 mt_65 ti_81 k false none rfl; rw [hg] at h_; exact h_)) hst8.a6 ?_
  refine LP (.pointer none) 6 rfl rfl rfl (fun u28 => rfl) hst8.a6 ?_
  refine LA_done (by decide +kernel) ?_
  refine W_ret ?_
  refine ⟨_, _, res_run (rs := [.tmp 4]) (vs := [(.pointer none)]) Tryd.results44 (.cons (.tmp rfl) .nil) rfl, ?_⟩
  refine ⟨_, rfl, ?_⟩
  refine Lq (.pointer none) rfl rfl rfl rfl ?_
  refine L_nil ?_
  refine W_seq ?_
  refine W_region_lit ?_
  refine Lq (.pointer none) rfl rfl rfl rfl ?_
  refine Lq (.bool false) rfl rfl rfl (by kernel_rfl) ?_
  refine L_nil ?_
  refine W_cond_false (by show Value.bool _ = _; exact congrArg Value.bool rfl) ?_
  refine W_skip ?_
  refine W_seq ?_
  refine W_region_lit ?_
  refine Lq (int 0) rfl rfl rfl rfl ?_
  refine L_nil ?_
  refine W_ret ?_
  refine ⟨_, _, res_run (rs := [.tmp 4]) (vs := [(int 0)]) Tryd.results18 (.cons (.tmp rfl) .nil) rfl, ?_⟩
  obtain ⟨c', hst', hprof'⟩ := Prof.close (s := s) ((((hst8.front 5 rfl rfl).front 5 rfl rfl).front 5 rfl rfl).front 5 rfl rfl) hM hRs hD hok
  exact ⟨_, _, _, rfl, hst'.keepN 1 rfl, c', (by rw [tier_none hgr]; rfl), rfl, hprof'⟩
 ·
  obtain ⟨be, cE, rfl, hd4, hE⟩ := hrec
  subst hc
  have hst30 := ((hst6.front 4 rfl rfl).split hdj).split hd4
  have hro := hok.recs k r hgr
  obtain ⟨hr31, hr32⟩ := hro.tier
  obtain ⟨hr33, hr34⟩ := hro.calls
  obtain ⟨hr35, hr36⟩ := hro.count
  obtain ⟨hr37, hr38⟩ := hro.failures
  have hrc := PS.rc_some hgr
  refine W_region_draw [] (fun w => Le R (hp w) ∧ Le (one a (.cells #[(int r.tier), (int r.calls), (int r.count), (int r.failures), (.map (some be))] 93 (0, 0))) (hp w) ∧ Le cE (hp w) ∧ Le c2 (hp w) ∧ Le (one b4 (.cells #[(int k.1), (int k.2)] 43 (0, 0))) (hp w) ∧ Le (one b1 (.cells #[(int k.1), (int k.2)] 43 (0, 0))) (hp w) ∧ Le (one p (.cells #[(int s.sample), (int s.warm), (int s.hot), (int s.cold), (.map (some bm)), v] 67 (0, 0))) (hp w) ∧ Le cM (hp w) ∧ Le cD (hp w)) hmix (by decide +kernel) (fun _ _ h => h) ?_
  have hst40 := hst30.draws (w5.drawn + 1)
  generalize draws w5 (w5.drawn + 1) = w39 at hst40 ⊢
  refine LP (ptr p 0) 0 rfl rfl rfl (fun u42 => rfl) hst40.a8 ?_
  refine LP (ptr p 0) 1 rfl rfl rfl (fun u45 => rfl) hst40.a8 ?_
  refine LP (ptr p 4) 2 rfl rfl rfl (fun u48 => (by kernel_rfl)) hst40.a8 ?_
  refine LT (.map (some bm)) 3 rfl rfl rfl (fun u51 hF52 => (x_load rfl rfl (run_loadVar_one ti_65 (hF52.2.2.2.2.2.2.1 _ _ (one_self _ _)) rfl))) hst40.a8 ?_
  refine LT (.agg #[(int k.1), (int k.2)]) 4 rfl rfl rfl (fun u54 hF55 => (x_load rfl rfl (run_loadVar_agg ti_43 (hF55.2.2.2.2.1 _ _ (one_self _ _)) (l := [(int k.1), (int k.2)]) rfl rfl))) hst40.a8 ?_
  refine LT (ptr a 0) 5 rfl rfl rfl (fun u57 hF58 => x_lookup rfl rfl rfl (by have h_ := MapC.lookupP (w := u57) hM hF58.2.2.2.2.2.2.2.1 law43 mt_65 ti_81 k false none rfl; rw [hg] at h_; exact h_)) hst40.a8 ?_
  refine LP (ptr a 0) 6 rfl rfl rfl (fun u60 => rfl) hst40.a8 ?_
  refine LA_done (by decide +kernel) ?_
  refine W_ret ?_
  refine ⟨_, _, res_run (rs := [.tmp 4]) (vs := [(ptr a 0)]) Tryd.results44 (.cons (.tmp rfl) .nil) rfl, ?_⟩
  refine ⟨_, rfl, ?_⟩
  refine Lq (ptr a 0) rfl rfl rfl rfl ?_
  refine L_nil ?_
  refine W_seq ?_
  refine W_region_lit ?_
  refine Lq (ptr a 0) rfl rfl rfl rfl ?_
  refine Lq (.bool true) rfl rfl rfl (by kernel_rfl) ?_
  refine L_nil ?_
  refine W_cond_true (by show Value.bool _ = _; exact congrArg Value.bool rfl) ?_
  refine W_seq ?_
  refine W_region_lit ?_
  refine Lq (ptr a 0) rfl rfl rfl rfl ?_
  refine Lq (ptr a 0) rfl rfl rfl rfl ?_
  refine Lq (ptr a 0) rfl rfl rfl (by kernel_rfl) ?_
  refine Lq (int r.tier) rfl rfl rfl (x_load rfl rfl (run_loadVar_one ti_3 (hst40.b 0) rfl)) ?_
  refine Lq (int r.tier) rfl rfl rfl rfl ?_
  refine L_nil ?_
  refine W_ret ?_
  refine ⟨_, _, res_run (rs := [.tmp 4]) (vs := [(int r.tier)]) Tryd.results18 (.cons (.tmp rfl) .nil) rfl, ?_⟩
  have hsame := set_same hgr
  obtain ⟨c', hst', hprof'⟩ := Prof.closeR (s := s) (r := r) ((((((hst40.front 7 rfl rfl).front 3 rfl rfl).front 3 rfl rfl).front 3 rfl rfl).front 7 rfl rfl).front 7 rfl rfl) hM hE (fun c1 h d => by have h_ := hback r c1 h d; rwa [hsame] at h_) hD hok
  exact ⟨_, _, _, rfl, hst'.keepN 1 rfl, c', (by rw [tier_some hgr]; rfl), rfl, hprof'⟩

end Go.Fx.YtdkjoljcffkpkaaDoor
