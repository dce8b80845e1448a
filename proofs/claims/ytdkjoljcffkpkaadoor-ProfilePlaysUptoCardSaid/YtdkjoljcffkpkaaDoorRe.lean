/-
  Chapter 14: Tier, Failed, Left of the reference, printed by genrd.py
-/
import Derived.Test.YtdkjoljcffkpkaaDoorRb
set_option linter.unusedSimpArgs false
set_option linter.unusedVariables false
namespace Go.Fx.YtdkjoljcffkpkaaDoor
open Go Go.Fx Go.Proofs
set_option maxRecDepth 20000

theorem ent_50 : Ent Tryd.prog 50 := fun _ _ => by kernel_rfl
theorem sl_94 : SL Tryd.prog 94 110 := Tryd.underlying94
theorem ti_110 : TI Tryd.prog 110 true 2 16 (.agg #[(.int .i64 0), (.int .i64 0)]) := ⟨by kernel_rfl, by kernel_rfl⟩
theorem ti_94 : TI Tryd.prog 94 false 1 24 (.slice none 0 0) := ⟨by kernel_rfl, by kernel_rfl⟩

set_option maxHeartbeats 4000000 in
theorem TierR_spec {w : World} {R c : Hp} {m : Nat} {s : PS} (k : Pl) (hs : Sats w R [c]) (href : RefP R m s c) (hn : s.n ≤ 1000000000) :
    Calls Tryd.prog 19 #[ptr m 0, kk k] w (Comes' w R [c] fun v' R' L' => ∃ c', v' = int (s.tier k) ∧ L' = [c'] ∧ RefP R' m (s) c') := by
 obtain ⟨xs, vL, vD, cL, cX, cD, hce, hd1, hd2, hd3, hL, hX, hD, hsr, hag, hln, hok⟩ := href
 have hst1 : Step w R [c] w R [uni (refB m s vL vD) (tri cL cX cD)] := by have h0 := Step.refl hs; rw [hce] at h0 ⊢; exact h0
 have hst := RefP.opened hst1 hd1 hd2 hd3
 clear hst1 hce hd1 hd2 hd3
 obtain ⟨hb1, hb2⟩ := hok.sample
 obtain ⟨hb3, hb4⟩ := hok.warm
 obtain ⟨hb5, hb6⟩ := hok.hot
 obtain ⟨hb7, hb8⟩ := hok.cold
 have hb9 := hok.decs
 have hple := pos_le xs k
 refine calls_of_W (n := 23) Tryd.func19 rfl Tryd.ntmps19 (Nat.le_of_ble_eq_true rfl) ?_
 refine W_seq ?_
 refine W_region_lit ?_
 refine L_new hst (v := fun b => ptr b 0) (ob := .cells #[(int k.1), (int k.2)] 43 (0, 0)) rfl rfl rfl (by kernel_rfl) (fun b1 w2 hst3 => ?_)
 refine Lq (int 0) rfl rfl rfl rfl ?_
 refine L_nil ?_
 refine W_seq ?_
 refine W_region_lit ?_
 refine Lq (ptr m 0) rfl rfl rfl rfl ?_
 refine Lq (.agg #[(int k.1), (int k.2)]) rfl rfl rfl (x_load rfl rfl (run_loadVar_agg ti_43 (hst3.b 0) (l := [(int k.1), (int k.2)]) rfl rfl)) ?_
 refine L_callG hst3 (v := (.tuple #[(int (((pos xs k) : Nat) : Int)), (.bool (thr xs k))])) rfl rfl rfl (x_call (vs := #[(ptr m 0), (.agg #[(int k.1), (int k.2)])]) rfl rfl (by kernel_rfl) ent_45) (place_spec (s := s) (xs := xs) k (hst3.g 1) (OwnL.freeze hL hst3.rle' (hst3.g 2)) (Le.refl _) (by omega)) (fun w4 hst5 => ?_)
 refine Lq (.tuple #[(int (((pos xs k) : Nat) : Int)), (.bool (thr xs k))]) rfl rfl rfl rfl ?_
 refine Lq (int (((pos xs k) : Nat) : Int)) rfl rfl rfl (by kernel_rfl) ?_
 refine Lq (.bool (thr xs k)) rfl rfl rfl (by kernel_rfl) ?_
 refine Lq (int (((pos xs k) : Nat) : Int)) rfl rfl rfl rfl ?_
 refine Lq (.bool (thr xs k)) rfl rfl rfl rfl ?_
 refine L_nil ?_
 refine W_seq ?_
 refine W_seq ?_
 rcases Bool.eq_false_or_eq_true (thr xs k) with hth | hth
 ·
  obtain ⟨hj, r, v, hx, hgr, hset⟩ := thr_open hth hsr hag
  have hrc := PS.rc_some hgr
  have hro := hok.recs k r hgr
  obtain ⟨hr6, hr7⟩ := hro.tier
  obtain ⟨hr8, hr9⟩ := hro.calls
  obtain ⟨hr10, hr11⟩ := hro.count
  obtain ⟨hr12, hr13⟩ := hro.failures
  have hvone : v.oneCell' = true := by obtain ⟨_, _, he_, _⟩ := hX.look _ hj; rw [hx] at he_; exact spOne he_
  refine W_region_lit ?_
  refine Lq (.bool (thr xs k)) rfl rfl rfl rfl ?_
  refine Lq (.bool (!(thr xs k))) rfl rfl rfl rfl ?_
  refine L_nil ?_
  refine W_cond_false (by show Value.bool _ = _; exact congrArg Value.bool (by rw [hth]; rfl)) ?_
  refine W_skip ?_
  refine W_seq ?_
  refine W_region_lit ?_
  refine Lq (ptr m 0) rfl rfl rfl rfl ?_
  refine Lq (ptr m 0) rfl rfl rfl rfl ?_
  refine Lq (ptr m 4) rfl rfl rfl (by kernel_rfl) ?_
  refine Lq vL rfl rfl rfl (x_load rfl rfl (run_loadVar_one ti_38 (hst5.b 1) rfl)) ?_
  refine Lq (int (((pos xs k) : Nat) : Int)) rfl rfl rfl rfl ?_
  obtain ⟨a14, cap15, e16, hc17⟩ := hL.value
  subst e16
  obtain ⟨b18, cap19, N20, e21, hc22, hrow23, hback24⟩ := OwnL.row hL (by omega)
  obtain ⟨rfl, hl25, rfl⟩ := Value.slice.inj e21
  try rw [← hl25] at hback24
  obtain ⟨cl26, cs27, hr28, hcb29, hsg30⟩ := Row.at hrow23 (pos xs k) (by omega)
  rw [hx] at hr28
  obtain rfl := tySp_open hr28
  refine Lq (ptr b18 (0 + (pos xs k) * 7)) rfl rfl rfl (x_indexAddr' rfl sl_38 ti_96 rfl rfl (by omega)) ?_
  refine Lq (ptr b18 (0 + (pos xs k) * 7 + 2)) rfl rfl rfl (by kernel_rfl) ?_
  refine Lq (int r.tier) rfl rfl rfl (x_load rfl rfl (run_loadVar_one ti_3 ((hst5.g 2) _ _ hcb29) (seg_get (j := 2) hsg30 rfl))) ?_
  refine Lq (int r.tier) rfl rfl rfl rfl ?_
  refine L_nil ?_
  refine W_ret ?_
  refine ⟨_, _, res_run (rs := [.tmp 4]) (vs := [(int r.tier)]) Tryd.results19 (.cons (.tmp rfl) .nil) rfl, ?_⟩
  obtain ⟨c', hst', href'⟩ := RefP.close (s := s) (xs := xs) ((((hst5.front 4 rfl rfl).front 4 rfl rfl).front 4 rfl rfl).front 4 rfl rfl) (hback24 R xs cL (by first | rfl | (simp only [List.length_set]; done) | (simp only [List.length_set]; omega) | omega) hrow23) hX hD hsr hag hln hok
  exact ⟨_, _, _, rfl, hst'.keepN 1 rfl, c', (by rw [tier_some hgr]; rfl), rfl, href'⟩
 ·
  have hgn : AL.get s.recs k = none := by rw [← hag k]; exact get_nthr hsr hth
  refine W_region_lit ?_
  refine Lq (.bool (thr xs k)) rfl rfl rfl rfl ?_
  refine Lq (.bool (!(thr xs k))) rfl rfl rfl rfl ?_
  refine L_nil ?_
  refine W_cond_true (by show Value.bool _ = _; exact congrArg Value.bool (by rw [hth]; rfl)) ?_
  refine W_seq ?_
  refine W_region_lit ?_
  refine Lq (int 0) rfl rfl rfl rfl ?_
  refine L_nil ?_
  refine W_ret ?_
  refine ⟨_, _, res_run (rs := [.tmp 4]) (vs := [(int 0)]) Tryd.results19 (.cons (.tmp rfl) .nil) rfl, ?_⟩
  obtain ⟨c', hst', href'⟩ := RefP.close (s := s) (xs := xs) ((((hst5.front 4 rfl rfl).front 4 rfl rfl).front 4 rfl rfl).front 4 rfl rfl) hL hX hD hsr hag hln hok
  exact ⟨_, _, _, rfl, hst'.keepN 1 rfl, c', (by rw [tier_none hgn]; rfl), rfl, href'⟩

set_option maxHeartbeats 4000000 in
theorem FailedR_spec {w : World} {R c : Hp} {m : Nat} {s : PS} (k : Pl) (e : Int) (hI : 0 ≤ e) (hI2 : e ≤ 1000000) (hs : Sats w R [c]) (href : RefP R m s c) (hn : s.n ≤ 1000000000) :
    Calls Tryd.prog 32 #[ptr m 0, kk k, int e] w (Comes' w R [c] fun v' R' L' => ∃ c', v' = .tuple #[] ∧ L' = [c'] ∧ RefP R' m (s.failed k e) c') := by
 obtain ⟨xs, vL, vD, cL, cX, cD, hce, hd1, hd2, hd3, hL, hX, hD, hsr, hag, hln, hok⟩ := href
 have hst1 : Step w R [c] w R [uni (refB m s vL vD) (tri cL cX cD)] := by have h0 := Step.refl hs; rw [hce] at h0 ⊢; exact h0
 have hst := RefP.opened hst1 hd1 hd2 hd3
 clear hst1 hce hd1 hd2 hd3
 obtain ⟨hb1, hb2⟩ := hok.sample
 obtain ⟨hb3, hb4⟩ := hok.warm
 obtain ⟨hb5, hb6⟩ := hok.hot
 obtain ⟨hb7, hb8⟩ := hok.cold
 have hb9 := hok.decs
 have hple := pos_le xs k
 refine calls_of_W (n := 44) Tryd.func32 rfl Tryd.ntmps32 (Nat.le_of_ble_eq_true rfl) ?_
 refine W_seq ?_
 refine W_region_lit ?_
 refine L_new hst (v := fun b => ptr b 0) (ob := .cells #[(int k.1), (int k.2)] 43 (0, 0)) rfl rfl rfl (by kernel_rfl) (fun b1 w2 hst3 => ?_)
 refine L_nil ?_
 refine W_seq ?_
 refine W_region_lit ?_
 refine Lq (ptr m 0) rfl rfl rfl rfl ?_
 refine Lq (.agg #[(int k.1), (int k.2)]) rfl rfl rfl (x_load rfl rfl (run_loadVar_agg ti_43 (hst3.b 0) (l := [(int k.1), (int k.2)]) rfl rfl)) ?_
 refine L_callG hst3 (v := (.tuple #[(int (((pos xs k) : Nat) : Int)), (.bool (thr xs k))])) rfl rfl rfl (x_call (vs := #[(ptr m 0), (.agg #[(int k.1), (int k.2)])]) rfl rfl (by kernel_rfl) ent_45) (place_spec (s := s) (xs := xs) k (hst3.g 1) (OwnL.freeze hL hst3.rle' (hst3.g 2)) (Le.refl _) (by omega)) (fun w4 hst5 => ?_)
 refine Lq (.tuple #[(int (((pos xs k) : Nat) : Int)), (.bool (thr xs k))]) rfl rfl rfl rfl ?_
 refine Lq (int (((pos xs k) : Nat) : Int)) rfl rfl rfl (by kernel_rfl) ?_
 refine Lq (.bool (thr xs k)) rfl rfl rfl (by kernel_rfl) ?_
 refine Lq (int (((pos xs k) : Nat) : Int)) rfl rfl rfl rfl ?_
 refine Lq (.bool (thr xs k)) rfl rfl rfl rfl ?_
 refine L_nil ?_
 refine W_seq ?_
 refine W_seq ?_
 rcases Bool.eq_false_or_eq_true (thr xs k) with hth | hth
 ·
  obtain ⟨hj, r, v, hx, hgr, hset⟩ := thr_open hth hsr hag
  have hrc := PS.rc_some hgr
  have hro := hok.recs k r hgr
  obtain ⟨hr6, hr7⟩ := hro.tier
  obtain ⟨hr8, hr9⟩ := hro.calls
  obtain ⟨hr10, hr11⟩ := hro.count
  obtain ⟨hr12, hr13⟩ := hro.failures
  have hvone : v.oneCell' = true := by obtain ⟨_, _, he_, _⟩ := hX.look _ hj; rw [hx] at he_; exact spOne he_
  refine W_region_lit ?_
  refine Lq (.bool (thr xs k)) rfl rfl rfl rfl ?_
  refine Lq (.bool (!(thr xs k))) rfl rfl rfl rfl ?_
  refine Lq (.bool (!(thr xs k))) rfl rfl rfl rfl ?_
  refine L_guard rfl rfl rfl rfl (by rw [hth]; rfl) ?_
  refine Lq (ptr m 0) rfl rfl rfl rfl ?_
  refine L_guard rfl rfl rfl rfl (by rw [hth]; rfl) ?_
  refine Lq (ptr m 0) rfl rfl rfl rfl ?_
  refine L_guard rfl rfl rfl rfl (by rw [hth]; rfl) ?_
  refine Lq (ptr m 4) rfl rfl rfl (by kernel_rfl) ?_
  refine L_guard rfl rfl rfl rfl (by rw [hth]; rfl) ?_
  refine Lq vL rfl rfl rfl (x_load rfl rfl (run_loadVar_one ti_38 (hst5.b 1) rfl)) ?_
  refine L_guard rfl rfl rfl rfl (by rw [hth]; rfl) ?_
  refine Lq (int (((pos xs k) : Nat) : Int)) rfl rfl rfl rfl ?_
  refine L_guard rfl rfl rfl rfl (by rw [hth]; rfl) ?_
  obtain ⟨a14, cap15, e16, hc17⟩ := hL.value
  subst e16
  obtain ⟨b18, cap19, N20, e21, hc22, hrow23, hback24⟩ := OwnL.row hL (by omega)
  obtain ⟨rfl, hl25, rfl⟩ := Value.slice.inj e21
  try rw [← hl25] at hback24
  obtain ⟨cl26, cs27, hr28, hcb29, hsg30⟩ := Row.at hrow23 (pos xs k) (by omega)
  rw [hx] at hr28
  obtain rfl := tySp_open hr28
  refine Lq (ptr b18 (0 + (pos xs k) * 7)) rfl rfl rfl (x_indexAddr' rfl sl_38 ti_96 rfl rfl (by omega)) ?_
  refine L_guard rfl rfl rfl rfl (by rw [hth]; rfl) ?_
  refine Lq (ptr b18 (0 + (pos xs k) * 7 + 2)) rfl rfl rfl (by kernel_rfl) ?_
  refine L_guard rfl rfl rfl rfl (by rw [hth]; rfl) ?_
  refine Lq (int r.tier) rfl rfl rfl (x_load rfl rfl (run_loadVar_one ti_3 ((hst5.g 2) _ _ hcb29) (seg_get (j := 2) hsg30 rfl))) ?_
  refine L_guard rfl rfl rfl rfl (by rw [hth]; rfl) ?_
  refine Lq (.bool (decide (r.tier < 1))) rfl rfl rfl (by kernel_rfl) ?_
  refine Lq (.bool (decide (r.tier < 1))) rfl rfl rfl (x_pick rfl rfl (by rw [hth]; rfl)) ?_
  refine Lq (.bool (decide (r.tier < 1))) rfl rfl rfl rfl ?_
  rcases Bool.eq_false_or_eq_true (decide (r.tier < 1)) with c31 | c31
  ·
   have q32 := of_decide_eq_true c31
   refine L_unwanted rfl rfl rfl rfl (by rw [c31]; try rfl) rfl rfl ?_
   refine L_unwanted rfl rfl rfl rfl (by rw [c31]; try rfl) rfl rfl ?_
   refine Lq (.bool true) rfl rfl rfl (x_pick rfl rfl (by rw [c31]; rfl)) ?_
   refine L_nil ?_
   refine W_cond_true (by show Value.bool _ = _; exact congrArg Value.bool rfl) ?_
   refine W_ret ?_
   refine ⟨_, _, res_run (rs := []) (vs := []) Tryd.results32 .nil rfl, ?_⟩
   have he := failed_not (s := s) (e := e) hgr (.inl (of_decide_eq_true c31))
   rw [he]
   obtain ⟨c', hst', href'⟩ := RefP.close (s := s) (xs := xs) ((((hst5.front 4 rfl rfl).front 4 rfl rfl).front 4 rfl rfl).front 4 rfl rfl) (hback24 R xs cL (by first | rfl | (simp only [List.length_set]; done) | (simp only [List.length_set]; omega) | omega) hrow23) hX hD hsr hag hln hok
   exact ⟨_, _, _, rfl, hst'.keepN 1 rfl, c', rfl, rfl, href'⟩
  ·
   have q33 := of_decide_eq_false c31
   refine L_guard rfl rfl rfl rfl c31 ?_
   refine Lq (int e) rfl rfl rfl rfl ?_
   refine L_guard rfl rfl rfl rfl c31 ?_
   refine Lq (.bool (e == 0)) rfl rfl rfl (by kernel_rfl) ?_
   refine Lq (.bool (e == 0)) rfl rfl rfl (x_pick rfl rfl (by rw [c31]; rfl)) ?_
   refine L_nil ?_
   rcases Bool.eq_false_or_eq_true (e == 0) with c34 | c34
   ·
    have q35 := eq_of_beq c34
    refine W_cond_true (by show Value.bool _ = _; exact congrArg Value.bool c34) ?_
    refine W_ret ?_
    refine ⟨_, _, res_run (rs := []) (vs := []) Tryd.results32 .nil rfl, ?_⟩
    have he := failed_not (s := s) (e := e) hgr (.inr (eq_of_beq c34))
    rw [he]
    obtain ⟨c', hst', href'⟩ := RefP.close (s := s) (xs := xs) ((((hst5.front 4 rfl rfl).front 4 rfl rfl).front 4 rfl rfl).front 4 rfl rfl) (hback24 R xs cL (by first | rfl | (simp only [List.length_set]; done) | (simp only [List.length_set]; omega) | omega) hrow23) hX hD hsr hag hln hok
    exact ⟨_, _, _, rfl, hst'.keepN 1 rfl, c', rfl, rfl, href'⟩
   ·
    have q36 := ne_of_beq_false c34
    refine W_cond_false (by show Value.bool _ = _; exact congrArg Value.bool c34) ?_
    refine W_skip ?_
    refine W_seq ?_
    refine W_region_lit ?_
    refine Lq (ptr m 0) rfl rfl rfl rfl ?_
    refine Lq (ptr m 0) rfl rfl rfl rfl ?_
    refine Lq (ptr m 4) rfl rfl rfl (by kernel_rfl) ?_
    refine Lq (.slice (some ⟨b18, 0, none⟩) xs.length cap15) rfl rfl rfl (x_load rfl rfl (run_loadVar_one ti_38 (hst5.b 1) rfl)) ?_
    refine Lq (int (((pos xs k) : Nat) : Int)) rfl rfl rfl rfl ?_
    obtain ⟨cl37, cs38, hr39, hcb40, hsg41⟩ := Row.at hrow23 (pos xs k) (by omega)
    rw [hx] at hr39
    obtain rfl := tySp_open hr39
    refine Lq (ptr b18 (0 + (pos xs k) * 7)) rfl rfl rfl (x_indexAddr' rfl sl_38 ti_96 rfl rfl (by omega)) ?_
    refine Lq (ptr b18 (0 + (pos xs k) * 7 + 4)) rfl rfl rfl (by kernel_rfl) ?_
    obtain ⟨c42, w43, hr44, hrow45, hst46⟩ := Row.storeF (P := Tryd.prog) (v := (int 0)) (y := (Sp.mk k ⟨r.tier, r.calls, 0, r.failures, r.exits⟩ v)) (cl := (spCells (Sp.mk k ⟨r.tier, r.calls, r.count, r.failures, r.exits⟩ v))) hrow23 (hst5.front 2 rfl rfl) ti_3 (pos xs k) (by omega) 4 (by decide) (fun c1 h1 => by rw [hx] at h1; exact h1.1) rfl rfl (tySp_is rfl hvone)
    refine L_skip rfl rfl (x_store rfl rfl rfl hr44) ?_
    refine L_nil ?_
    refine W_region_lit ?_
    refine Lq (ptr m 0) rfl rfl rfl rfl ?_
    refine Lq (int (((pos xs k) : Nat) : Int)) rfl rfl rfl rfl ?_
    refine Lq (int e) rfl rfl rfl rfl ?_
    refine L_callG hst46 (v := (.string ((Wd.i e).txt))) rfl rfl rfl (x_call (vs := #[(int e)]) rfl rfl (by kernel_rfl) ent_42) (Decimal_spec e (by omega) (by omega) (Le.refl _)) (fun w47 hst48 => ?_)
    obtain ⟨t49, ht50⟩ : ∃ t_ : ByteArray, t_ = ⟨#[101, 114, 114, 111, 114, 32]⟩ ++ ((Wd.i e).txt) := ⟨_, rfl⟩
    have ht50z := size_app_le (show ByteArray.size ⟨#[101, 114, 114, 111, 114, 32]⟩ ≤ 100 from by decide) (txt_i_le (n := e) (by constructor <;> omega))
    rw [← ht50] at ht50z
    simp only [Nat.reduceAdd] at ht50z
    refine Lq (.string t49) rfl rfl rfl (by rw [ht50]; exact (x_strcat rfl rfl rfl (room_le (show ByteArray.size ⟨#[101, 114, 114, 111, 114, 32]⟩ ≤ 100 from by decide) (txt_i_le (n := e) (by constructor <;> omega)) (by decide)))) ?_
    refine L_call rfl rfl rfl (x_call (vs := #[(ptr m 0), (int (((pos xs k) : Nat) : Int)), (int 0), (.string t49)]) rfl rfl (by kernel_rfl) ent_50) ?_ (fun _ _ h => h)
    refine calls_of_W (n := 45) Tryd.func50 rfl Tryd.ntmps50 (Nat.le_of_ble_eq_true rfl) ?_
    refine W_seq ?_
    refine W_region_lit ?_
    refine Lq (ptr m 0) rfl rfl rfl rfl ?_
    refine Lq (ptr m 0) rfl rfl rfl rfl ?_
    refine Lq (ptr m 4) rfl rfl rfl (by kernel_rfl) ?_
    refine Lq (.slice (some ⟨b18, 0, none⟩) xs.length cap15) rfl rfl rfl (x_load rfl rfl (run_loadVar_one ti_38 (hst48.b 2) rfl)) ?_
    refine Lq (int (((pos xs k) : Nat) : Int)) rfl rfl rfl rfl ?_
    obtain ⟨cl51, cs52, hr53, hcb54, hsg55⟩ := Row.at hrow45 (pos xs k) (by simp only [List.length_set]; omega)
    rw [List.getElem_set_self] at hr53
    obtain rfl := tySp_open hr53
    refine Lq (ptr b18 (0 + (pos xs k) * 7)) rfl rfl rfl (x_indexAddr' rfl sl_38 ti_96 rfl rfl (by omega)) ?_
    refine Lq (ptr b18 (0 + (pos xs k) * 7 + 5)) rfl rfl rfl (by kernel_rfl) ?_
    refine Lq (int r.failures) rfl rfl rfl (x_load rfl rfl (run_loadVar_one ti_3 ((hst48.g 0) _ _ hcb54) (seg_get (j := 5) hsg55 rfl))) ?_
    refine Lq (int (r.failures + 1)) rfl rfl rfl (x_add rfl rfl rfl (by constructor <;> omega)) ?_
    obtain ⟨cl56, cs57, hr58, hcb59, hsg60⟩ := Row.at hrow45 (pos xs k) (by simp only [List.length_set]; omega)
    rw [List.getElem_set_self] at hr58
    obtain rfl := tySp_open hr58
    refine Lq (ptr b18 (0 + (pos xs k) * 7)) rfl rfl rfl (x_indexAddr' rfl sl_38 ti_96 rfl rfl (by omega)) ?_
    refine Lq (ptr b18 (0 + (pos xs k) * 7 + 5)) rfl rfl rfl (by kernel_rfl) ?_
    obtain ⟨c61, w62, hr63, hrow64, hst65⟩ := Row.storeF (P := Tryd.prog) (v := (int (r.failures + 1))) (y := (Sp.mk k ⟨r.tier, r.calls, 0, r.failures + 1, r.exits⟩ v)) (cl := (spCells (Sp.mk k ⟨r.tier, r.calls, 0, r.failures, r.exits⟩ v))) hrow45 hst48 ti_3 (pos xs k) (by simp only [List.length_set]; omega) 5 (by decide) (fun c1 h1 => by rw [List.getElem_set_self] at h1; exact h1.1) rfl rfl (tySp_is rfl hvone)
    rw [List.set_set] at hrow64
    refine L_skip rfl rfl (x_store rfl rfl rfl hr63) ?_
    refine L_nil ?_
    refine W_seq ?_
    refine W_region_lit ?_
    refine Lq (ptr m 0) rfl rfl rfl rfl ?_
    refine Lq (ptr m 0) rfl rfl rfl rfl ?_
    refine Lq (ptr m 4) rfl rfl rfl (by kernel_rfl) ?_
    refine Lq (.slice (some ⟨b18, 0, none⟩) xs.length cap15) rfl rfl rfl (x_load rfl rfl (run_loadVar_one ti_38 (hst65.b 2) rfl)) ?_
    refine Lq (int (((pos xs k) : Nat) : Int)) rfl rfl rfl rfl ?_
    obtain ⟨cl66, cs67, hr68, hcb69, hsg70⟩ := Row.at hrow64 (pos xs k) (by simp only [List.length_set]; omega)
    rw [List.getElem_set_self] at hr68
    obtain rfl := tySp_open hr68
    refine Lq (ptr b18 (0 + (pos xs k) * 7)) rfl rfl rfl (x_indexAddr' rfl sl_38 ti_96 rfl rfl (by omega)) ?_
    refine Lq (ptr b18 (0 + (pos xs k) * 7 + 6)) rfl rfl rfl (by kernel_rfl) ?_
    obtain ⟨c71, w72, hr73, hrow74, hst75⟩ := Row.storeF (P := Tryd.prog) (v := (.slice none 0 0)) (y := (Sp.mk k ⟨r.tier, r.calls, 0, r.failures + 1, []⟩ (.slice none 0 0))) (cl := (spCells (Sp.mk k ⟨r.tier, r.calls, 0, r.failures + 1, r.exits⟩ v))) hrow64 hst65 ti_94 (pos xs k) (by simp only [List.length_set]; omega) 6 (by decide) (fun c1 h1 => by rw [List.getElem_set_self] at h1; exact h1.1) rfl rfl (tySp_is rfl rfl)
    rw [List.set_set] at hrow74
    refine L_skip rfl rfl (x_store rfl rfl rfl hr73) ?_
    refine L_nil ?_
    refine W_seq ?_
    refine W_seq ?_
    refine W_region_lit ?_
    refine Lq (ptr m 0) rfl rfl rfl rfl ?_
    refine Lq (ptr m 0) rfl rfl rfl rfl ?_
    refine Lq (ptr m 4) rfl rfl rfl (by kernel_rfl) ?_
    refine Lq (.slice (some ⟨b18, 0, none⟩) xs.length cap15) rfl rfl rfl (x_load rfl rfl (run_loadVar_one ti_38 (hst75.b 2) rfl)) ?_
    refine Lq (int (((pos xs k) : Nat) : Int)) rfl rfl rfl rfl ?_
    obtain ⟨cl76, cs77, hr78, hcb79, hsg80⟩ := Row.at hrow74 (pos xs k) (by simp only [List.length_set]; omega)
    rw [List.getElem_set_self] at hr78
    obtain rfl := tySp_open hr78
    refine Lq (ptr b18 (0 + (pos xs k) * 7)) rfl rfl rfl (x_indexAddr' rfl sl_38 ti_96 rfl rfl (by omega)) ?_
    refine Lq (ptr b18 (0 + (pos xs k) * 7 + 5)) rfl rfl rfl (by kernel_rfl) ?_
    refine Lq (int (r.failures + 1)) rfl rfl rfl (x_load rfl rfl (run_loadVar_one ti_3 ((hst75.g 0) _ _ hcb79) (seg_get (j := 5) hsg80 rfl))) ?_
    refine Lq (.bool ((r.failures + 1) == 3)) rfl rfl rfl (by kernel_rfl) ?_
    refine L_nil ?_
    rcases Bool.eq_false_or_eq_true ((r.failures + 1) == 3) with c81 | c81
    ·
     have q82 := eq_of_beq c81
     refine W_cond_true (by show Value.bool _ = _; exact congrArg Value.bool c81) ?_
     refine W_seq ?_
     refine W_region_lit ?_
     refine Lq (ptr m 0) rfl rfl rfl rfl ?_
     refine Lq (int (((pos xs k) : Nat) : Int)) rfl rfl rfl rfl ?_
     refine Lq (.string t49) rfl rfl rfl rfl ?_
     obtain ⟨t83, ht84⟩ : ∃ t_ : ByteArray, t_ = t49 ++ ⟨#[44, 32, 103, 105, 118, 101, 110, 32, 117, 112]⟩ := ⟨_, rfl⟩
     have ht84z := size_app_le ht50z (show ByteArray.size ⟨#[44, 32, 103, 105, 118, 101, 110, 32, 117, 112]⟩ ≤ 100 from by decide)
     rw [← ht84] at ht84z
     simp only [Nat.reduceAdd] at ht84z
     refine Lq (.string t83) rfl rfl rfl (by rw [ht84]; exact (x_strcat rfl rfl rfl (room_le ht50z (show ByteArray.size ⟨#[44, 32, 103, 105, 118, 101, 110, 32, 117, 112]⟩ ≤ 100 from by decide) (by decide)))) ?_
     refine L_call rfl rfl rfl (x_call (vs := #[(ptr m 0), (int (((pos xs k) : Nat) : Int)), (int (-1)), (.string t83)]) rfl rfl (by kernel_rfl) ent_51) ?_ (fun _ _ h => h)
     refine calls_of_W (n := 36) Tryd.func51 rfl Tryd.ntmps51 (Nat.le_of_ble_eq_true rfl) ?_
     refine W_seq ?_
     refine W_region_lit ?_
     refine Lq (ptr m 0) rfl rfl rfl rfl ?_
     refine Lq (ptr m 0) rfl rfl rfl rfl ?_
     refine Lq (ptr m 4) rfl rfl rfl (by kernel_rfl) ?_
     refine Lq (.slice (some ⟨b18, 0, none⟩) xs.length cap15) rfl rfl rfl (x_load rfl rfl (run_loadVar_one ti_38 (hst75.b 2) rfl)) ?_
     refine Lq (int (((pos xs k) : Nat) : Int)) rfl rfl rfl rfl ?_
     refine Lq (int (-1)) rfl rfl rfl rfl ?_
     obtain ⟨cl85, cs86, hr87, hcb88, hsg89⟩ := Row.at hrow74 (pos xs k) (by simp only [List.length_set]; omega)
     rw [List.getElem_set_self] at hr87
     obtain rfl := tySp_open hr87
     refine Lq (ptr b18 (0 + (pos xs k) * 7)) rfl rfl rfl (x_indexAddr' rfl sl_38 ti_96 rfl rfl (by omega)) ?_
     refine Lq (ptr b18 (0 + (pos xs k) * 7 + 2)) rfl rfl rfl (by kernel_rfl) ?_
     obtain ⟨c90, w91, hr92, hrow93, hst94⟩ := Row.storeF (P := Tryd.prog) (v := (int (-1))) (y := (Sp.mk k ⟨(-1), r.calls, 0, r.failures + 1, []⟩ (.slice none 0 0))) (cl := (spCells (Sp.mk k ⟨r.tier, r.calls, 0, r.failures + 1, []⟩ (.slice none 0 0)))) hrow74 hst75 ti_3 (pos xs k) (by simp only [List.length_set]; omega) 2 (by decide) (fun c1 h1 => by rw [List.getElem_set_self] at h1; exact h1.1) rfl rfl (tySp_is rfl rfl)
     rw [List.set_set] at hrow93
     refine L_skip rfl rfl (x_store rfl rfl rfl hr92) ?_
     refine L_nil ?_
     refine W_region_draw [20] (fun w => Le R (hp w) ∧ Le c90 (hp w) ∧ Le (one b1 (.cells #[(int k.1), (int k.2)] 43 (0, 0))) (hp w) ∧ Le (one m (.cells #[(int s.sample), (int s.warm), (int s.hot), (int s.cold), (.slice (some ⟨b18, 0, none⟩) xs.length cap15), vD] 41 (0, 0))) (hp w) ∧ Le cX (hp w)) hmix (by decide +kernel) (fun _ _ h => h) ?_
     have hst96 := hst94.draws (w91.drawn + 1)
     generalize draws w91 (w91.drawn + 1) = w95 at hst96 ⊢
     refine LP (ptr m 0) 0 rfl rfl rfl (fun u98 => rfl) ⟨hst96.rle', hst96.g 0, hst96.g 1, hst96.g 2, hst96.g 3⟩ ?_
     refine LP (ptr m 0) 1 rfl rfl rfl (fun u101 => rfl) ⟨hst96.rle', hst96.g 0, hst96.g 1, hst96.g 2, hst96.g 3⟩ ?_
     refine LP (ptr m 0) 2 rfl rfl rfl (fun u104 => rfl) ⟨hst96.rle', hst96.g 0, hst96.g 1, hst96.g 2, hst96.g 3⟩ ?_
     refine LP (ptr m 5) 3 rfl rfl rfl (fun u107 => (by kernel_rfl)) ⟨hst96.rle', hst96.g 0, hst96.g 1, hst96.g 2, hst96.g 3⟩ ?_
     refine LT vD 4 rfl rfl rfl (fun u110 hF111 => (x_load rfl rfl (run_loadVar_one ti_39 (hF111.2.2.2.1 _ _ (one_self _ _)) rfl))) ⟨hst96.rle', hst96.g 0, hst96.g 1, hst96.g 2, hst96.g 3⟩ ?_
     refine LP (ptr m 0) 5 rfl rfl rfl (fun u113 => rfl) ⟨hst96.rle', hst96.g 0, hst96.g 1, hst96.g 2, hst96.g 3⟩ ?_
     refine LP (ptr m 0) 6 rfl rfl rfl (fun u116 => rfl) ⟨hst96.rle', hst96.g 0, hst96.g 1, hst96.g 2, hst96.g 3⟩ ?_
     refine LP (ptr m 4) 7 rfl rfl rfl (fun u119 => (by kernel_rfl)) ⟨hst96.rle', hst96.g 0, hst96.g 1, hst96.g 2, hst96.g 3⟩ ?_
     refine LT (.slice (some ⟨b18, 0, none⟩) xs.length cap15) 8 rfl rfl rfl (fun u122 hF123 => (x_load rfl rfl (run_loadVar_one ti_38 (hF123.2.2.2.1 _ _ (one_self _ _)) rfl))) ⟨hst96.rle', hst96.g 0, hst96.g 1, hst96.g 2, hst96.g 3⟩ ?_
     refine LP (int (((pos xs k) : Nat) : Int)) 9 rfl rfl rfl (fun u125 => rfl) ⟨hst96.rle', hst96.g 0, hst96.g 1, hst96.g 2, hst96.g 3⟩ ?_
     obtain ⟨cl130, cs131, hr132, hcb133, hsg134⟩ := Row.at hrow93 (pos xs k) (by simp only [List.length_set]; omega)
     rw [List.getElem_set_self] at hr132
     obtain rfl := tySp_open hr132
     refine LP (ptr b18 (0 + (pos xs k) * 7)) 10 rfl rfl rfl (fun u128 => (x_indexAddr' rfl sl_38 ti_96 rfl rfl (by omega))) ⟨hst96.rle', hst96.g 0, hst96.g 1, hst96.g 2, hst96.g 3⟩ ?_
     refine LP (ptr b18 (0 + (pos xs k) * 7)) 11 rfl rfl rfl (fun u136 => (by kernel_rfl)) ⟨hst96.rle', hst96.g 0, hst96.g 1, hst96.g 2, hst96.g 3⟩ ?_
     refine LT (.agg #[(int k.1), (int k.2)]) 12 rfl rfl rfl (fun u139 hF140 => (x_load rfl rfl (run_loadVar_agg ti_43 (hF140.2.1 _ _ hcb133) (seg_part hsg134 0 2 rfl rfl) rfl))) ⟨hst96.rle', hst96.g 0, hst96.g 1, hst96.g 2, hst96.g 3⟩ ?_
     refine LP (int (-1)) 13 rfl rfl rfl (fun u142 => rfl) ⟨hst96.rle', hst96.g 0, hst96.g 1, hst96.g 2, hst96.g 3⟩ ?_
     refine LP (.string t83) 14 rfl rfl rfl (fun u145 => rfl) ⟨hst96.rle', hst96.g 0, hst96.g 1, hst96.g 2, hst96.g 3⟩ ?_
     refine LP (.agg #[(int k.1), (int k.2), (int (-1)), (.string t83)]) 15 rfl rfl rfl (fun u148 => (by kernel_rfl)) ⟨hst96.rle', hst96.g 0, hst96.g 1, hst96.g 2, hst96.g 3⟩ ?_
     refine LA_all [16] (by decide +kernel) (by simp) ?_
     intro i_ hi_
     simp only [List.mem_cons, List.not_mem_nil, or_false] at hi_
     subst hi_
     refine One_new hst96 (i := 16) (v := fun b => .slice (some ⟨b, 0, none⟩) 1 1) (ob := .cells #[(int k.1), (int k.2), (int (-1)), (.string t83)] 99 (0, 0)) rfl rfl rfl (Want.plain rfl) (by kernel_rfl) (fun b153 w154 hst155 => ?_)
     refine ⟨(fun _ => ⟨hst155.rle', hst155.g 1, hst155.g 2, hst155.g 3, hst155.g 4⟩), ?_⟩
     refine LA_all [17] (by decide +kernel) (by simp) ?_
     intro i_ hi_
     simp only [List.mem_cons, List.not_mem_nil, or_false] at hi_
     subst hi_
     refine One_append (j := 17) hst155 (t := 39) (e := 99) (ys := [Dec.mk k (-1) t83]) (src := [(int k.1), (int k.2), (int (-1)), (.string t83)]) 5 rfl rfl rfl (Want.plain rfl) rfl rfl rfl sl_39 ti_99 rfl rfl rfl hD (src_own (hst155.b 0)) (Encs.one (tyDec_mk _ _ _ _ _)) rfl (by first | omega | (simp only [List.length_append, List.length_cons, List.length_nil]; omega)) (by first | (simp only [maxLen]; omega) | (simp only [List.length_append, List.length_cons, List.length_nil, maxLen]; omega)) (fun v159 c160 w161 ho162 hst163 => ?_)
     refine ⟨(fun _ => ⟨hst163.rle', hst163.g 2, hst163.g 3, hst163.g 4, hst163.g 5⟩), ?_⟩
     refine LP (ptr m 0) 18 rfl rfl rfl (fun u165 => rfl) ⟨hst163.rle', hst163.g 2, hst163.g 3, hst163.g 4, hst163.g 5⟩ ?_
     refine LP (ptr m 5) 19 rfl rfl rfl (fun u168 => (by kernel_rfl)) ⟨hst163.rle', hst163.g 2, hst163.g 3, hst163.g 4, hst163.g 5⟩ ?_
     refine LA_all [20] (by decide +kernel) (by simp) ?_
     intro i_ hi_
     simp only [List.mem_cons, List.not_mem_nil, or_false] at hi_
     subst hi_
     obtain ⟨a171, cap172, e173, hc174⟩ := ho162.value
     subst e173
     obtain ⟨w175, hr177, hst176⟩ := run_storeW (P := Tryd.prog) (b := m) (off := 5) (v := (.slice a171 ((s.decs ++ [Dec.mk k (-1) t83]).length) cap172)) hst163 4 ti_39 rfl rfl rfl rfl rfl rfl
     change Step _ _ _ _ _ [c160, one b153 (.cells #[(int k.1), (int k.2), (int (-1)), (.string t83)] 99 (0, 0)), c90, one b1 (.cells #[(int k.1), (int k.2)] 43 (0, 0)), one m (.cells #[(int s.sample), (int s.warm), (int s.hot), (int s.cold), (.slice (some ⟨b18, 0, none⟩) xs.length cap15), (.slice a171 ((s.decs ++ [Dec.mk k (-1) t83]).length) cap172)] 41 (0, 0)), cX] at hst176
     refine One_skip (i := 20) rfl rfl (Want.plain rfl) (x_store rfl rfl rfl hr177) (fun h => absurd h (by decide +kernel)) ?_
     refine LA_done (by decide +kernel) ?_
     refine ⟨_, _, res_run (rs := []) (vs := []) Tryd.results51 .nil rfl, ?_⟩
     refine ⟨_, rfl, ?_⟩
     refine L_nil ?_
     refine W_ret ?_
     refine ⟨_, _, res_run (rs := []) (vs := []) Tryd.results50 .nil rfl, ?_⟩
     refine ⟨_, rfl, ?_⟩
     refine L_nil ?_
     refine ⟨_, _, res_run (rs := []) (vs := []) Tryd.results32 .nil rfl, ?_⟩
     have he := failed_back (s := s) hgr (of_decide_eq_false c31) (ne_of_beq_false c34)
     rw [he]
     have hro2 : Rec.Ok s.n r := hro
     have he2 := setBack_up (s := s) (k := k) (t := 0) (l := [Wd.s wError, Wd.i e]) (r := { r with count := 0 }) (eq_of_beq c81)
     have hok2 := hok.setBack (k := k) (t := 0) (ex := r.exits) (c := 0) (l := [Wd.s wError, Wd.i e]) hro2 (by constructor <;> omega) (by decide) (Sm2 (Sm_s (by decide)) (Sm_i (by constructor <;> omega))) (Nat.le_of_ble_eq_true rfl)
     rw [show s.setBack k { r with count := 0 } 0 [Wd.s wError, Wd.i e] = _ from he2] at hok2
     rw [he2]
     obtain ⟨c178, hst179, hX180⟩ := Exs.dropAt (hst176.front 5 rfl rfl) hX hj (y := (Sp.mk k ⟨(-1), r.calls, 0, r.failures + 1, []⟩ (.slice none 0 0))) rfl rfl
     obtain ⟨c', hst', href'⟩ := RefP.close (s := s.decide k ⟨r.tier, r.calls, 0, r.failures + 1, []⟩ (-1) (joinW [Wd.s (joinW [Wd.s wError, Wd.i e] ++ wGiven)])) (xs := (List.set xs (pos xs k) (Sp.mk k ⟨(-1), r.calls, 0, r.failures + 1, []⟩ (.slice none 0 0)))) ((((hst179.front 1 rfl rfl).front 1 rfl rfl).front 3 rfl rfl).front 5 rfl rfl) (hback24 R (List.set xs (pos xs k) (Sp.mk k ⟨(-1), r.calls, 0, r.failures + 1, []⟩ (.slice none 0 0))) c90 (by first | rfl | (simp only [List.length_set]; done) | (simp only [List.length_set]; omega) | omega) hrow93) hX180 (Eq.mp (congrArg (fun l_ => OwnL tyDec 99 R (.slice a171 ((s.decs ++ [Dec.mk k (-1) t83]).length) cap172) l_ c160) (show (s.decs ++ [Dec.mk k (-1) t83]) = (s.decide k ⟨r.tier, r.calls, 0, r.failures + 1, []⟩ (-1) (joinW [Wd.s (joinW [Wd.s wError, Wd.i e] ++ wGiven)])).decs from congrArg (fun t_ => s.decs ++ [Dec.mk k (-1) t_]) (by rw [ht84, ht50, (dec_error _)]; exact dec_given))) ho162) (hset (Sp.mk k ⟨(-1), r.calls, 0, r.failures + 1, []⟩ (.slice none 0 0)) rfl).1 (Agr.decide (r := ⟨r.tier, r.calls, 0, r.failures + 1, []⟩) (hset (Sp.mk k ⟨(-1), r.calls, 0, r.failures + 1, []⟩ (.slice none 0 0)) rfl).2 hag) (by simp only [List.length_set]; show _ ≤ s.n + 1; omega) hok2
     exact ⟨_, _, _, rfl, hst'.keepN 1 rfl, c', rfl, rfl, href'⟩
    ·
     have q181 := ne_of_beq_false c81
     refine W_cond_false (by show Value.bool _ = _; exact congrArg Value.bool c81) ?_
     refine W_skip ?_
     refine W_region_lit ?_
     refine Lq (ptr m 0) rfl rfl rfl rfl ?_
     refine Lq (int (((pos xs k) : Nat) : Int)) rfl rfl rfl rfl ?_
     refine Lq (int 0) rfl rfl rfl rfl ?_
     refine Lq (.string t49) rfl rfl rfl rfl ?_
     refine L_call rfl rfl rfl (x_call (vs := #[(ptr m 0), (int (((pos xs k) : Nat) : Int)), (int 0), (.string t49)]) rfl rfl (by kernel_rfl) ent_51) ?_ (fun _ _ h => h)
     refine calls_of_W (n := 36) Tryd.func51 rfl Tryd.ntmps51 (Nat.le_of_ble_eq_true rfl) ?_
     refine W_seq ?_
     refine W_region_lit ?_
     refine Lq (ptr m 0) rfl rfl rfl rfl ?_
     refine Lq (ptr m 0) rfl rfl rfl rfl ?_
     refine Lq (ptr m 4) rfl rfl rfl (by kernel_rfl) ?_
     refine Lq (.slice (some ⟨b18, 0, none⟩) xs.length cap15) rfl rfl rfl (x_load rfl rfl (run_loadVar_one ti_38 (hst75.b 2) rfl)) ?_
     refine Lq (int (((pos xs k) : Nat) : Int)) rfl rfl rfl rfl ?_
     refine Lq (int 0) rfl rfl rfl rfl ?_
     obtain ⟨cl182, cs183, hr184, hcb185, hsg186⟩ := Row.at hrow74 (pos xs k) (by simp only [List.length_set]; omega)
     rw [List.getElem_set_self] at hr184
     obtain rfl := tySp_open hr184
     refine Lq (ptr b18 (0 + (pos xs k) * 7)) rfl rfl rfl (x_indexAddr' rfl sl_38 ti_96 rfl rfl (by omega)) ?_
     refine Lq (ptr b18 (0 + (pos xs k) * 7 + 2)) rfl rfl rfl (by kernel_rfl) ?_
     obtain ⟨c187, w188, hr189, hrow190, hst191⟩ := Row.storeF (P := Tryd.prog) (v := (int 0)) (y := (Sp.mk k ⟨0, r.calls, 0, r.failures + 1, []⟩ (.slice none 0 0))) (cl := (spCells (Sp.mk k ⟨r.tier, r.calls, 0, r.failures + 1, []⟩ (.slice none 0 0)))) hrow74 hst75 ti_3 (pos xs k) (by simp only [List.length_set]; omega) 2 (by decide) (fun c1 h1 => by rw [List.getElem_set_self] at h1; exact h1.1) rfl rfl (tySp_is rfl rfl)
     rw [List.set_set] at hrow190
     refine L_skip rfl rfl (x_store rfl rfl rfl hr189) ?_
     refine L_nil ?_
     refine W_region_draw [20] (fun w => Le R (hp w) ∧ Le c187 (hp w) ∧ Le (one b1 (.cells #[(int k.1), (int k.2)] 43 (0, 0))) (hp w) ∧ Le (one m (.cells #[(int s.sample), (int s.warm), (int s.hot), (int s.cold), (.slice (some ⟨b18, 0, none⟩) xs.length cap15), vD] 41 (0, 0))) (hp w) ∧ Le cX (hp w)) hmix (by decide +kernel) (fun _ _ h => h) ?_
     have hst193 := hst191.draws (w188.drawn + 1)
     generalize draws w188 (w188.drawn + 1) = w192 at hst193 ⊢
     refine LP (ptr m 0) 0 rfl rfl rfl (fun u195 => rfl) ⟨hst193.rle', hst193.g 0, hst193.g 1, hst193.g 2, hst193.g 3⟩ ?_
     refine LP (ptr m 0) 1 rfl rfl rfl (fun u198 => rfl) ⟨hst193.rle', hst193.g 0, hst193.g 1, hst193.g 2, hst193.g 3⟩ ?_
     refine LP (ptr m 0) 2 rfl rfl rfl (fun u201 => rfl) ⟨hst193.rle', hst193.g 0, hst193.g 1, hst193.g 2, hst193.g 3⟩ ?_
     refine LP (ptr m 5) 3 rfl rfl rfl (fun u204 => (by kernel_rfl)) ⟨hst193.rle', hst193.g 0, hst193.g 1, hst193.g 2, hst193.g 3⟩ ?_
     refine LT vD 4 rfl rfl rfl (fun u207 hF208 => (x_load rfl rfl (run_loadVar_one ti_39 (hF208.2.2.2.1 _ _ (one_self _ _)) rfl))) ⟨hst193.rle', hst193.g 0, hst193.g 1, hst193.g 2, hst193.g 3⟩ ?_
     refine LP (ptr m 0) 5 rfl rfl rfl (fun u210 => rfl) ⟨hst193.rle', hst193.g 0, hst193.g 1, hst193.g 2, hst193.g 3⟩ ?_
     refine LP (ptr m 0) 6 rfl rfl rfl (fun u213 => rfl) ⟨hst193.rle', hst193.g 0, hst193.g 1, hst193.g 2, hst193.g 3⟩ ?_
     refine LP (ptr m 4) 7 rfl rfl rfl (fun u216 => (by kernel_rfl)) ⟨hst193.rle', hst193.g 0, hst193.g 1, hst193.g 2, hst193.g 3⟩ ?_
     refine LT (.slice (some ⟨b18, 0, none⟩) xs.length cap15) 8 rfl rfl rfl (fun u219 hF220 => (x_load rfl rfl (run_loadVar_one ti_38 (hF220.2.2.2.1 _ _ (one_self _ _)) rfl))) ⟨hst193.rle', hst193.g 0, hst193.g 1, hst193.g 2, hst193.g 3⟩ ?_
     refine LP (int (((pos xs k) : Nat) : Int)) 9 rfl rfl rfl (fun u222 => rfl) ⟨hst193.rle', hst193.g 0, hst193.g 1, hst193.g 2, hst193.g 3⟩ ?_
     obtain ⟨cl227, cs228, hr229, hcb230, hsg231⟩ := Row.at hrow190 (pos xs k) (by simp only [List.length_set]; omega)
     rw [List.getElem_set_self] at hr229
     obtain rfl := tySp_open hr229
     refine LP (ptr b18 (0 + (pos xs k) * 7)) 10 rfl rfl rfl (fun u225 => (x_indexAddr' rfl sl_38 ti_96 rfl rfl (by omega))) ⟨hst193.rle', hst193.g 0, hst193.g 1, hst193.g 2, hst193.g 3⟩ ?_
     refine LP (ptr b18 (0 + (pos xs k) * 7)) 11 rfl rfl rfl (fun u233 => (by kernel_rfl)) ⟨hst193.rle', hst193.g 0, hst193.g 1, hst193.g 2, hst193.g 3⟩ ?_
     refine LT (.agg #[(int k.1), (int k.2)]) 12 rfl rfl rfl (fun u236 hF237 => (x_load rfl rfl (run_loadVar_agg ti_43 (hF237.2.1 _ _ hcb230) (seg_part hsg231 0 2 rfl rfl) rfl))) ⟨hst193.rle', hst193.g 0, hst193.g 1, hst193.g 2, hst193.g 3⟩ ?_
     refine LP (int 0) 13 rfl rfl rfl (fun u239 => rfl) ⟨hst193.rle', hst193.g 0, hst193.g 1, hst193.g 2, hst193.g 3⟩ ?_
     refine LP (.string t49) 14 rfl rfl rfl (fun u242 => rfl) ⟨hst193.rle', hst193.g 0, hst193.g 1, hst193.g 2, hst193.g 3⟩ ?_
     refine LP (.agg #[(int k.1), (int k.2), (int 0), (.string t49)]) 15 rfl rfl rfl (fun u245 => (by kernel_rfl)) ⟨hst193.rle', hst193.g 0, hst193.g 1, hst193.g 2, hst193.g 3⟩ ?_
     refine LA_all [16] (by decide +kernel) (by simp) ?_
     intro i_ hi_
     simp only [List.mem_cons, List.not_mem_nil, or_false] at hi_
     subst hi_
     refine One_new hst193 (i := 16) (v := fun b => .slice (some ⟨b, 0, none⟩) 1 1) (ob := .cells #[(int k.1), (int k.2), (int 0), (.string t49)] 99 (0, 0)) rfl rfl rfl (Want.plain rfl) (by kernel_rfl) (fun b250 w251 hst252 => ?_)
     refine ⟨(fun _ => ⟨hst252.rle', hst252.g 1, hst252.g 2, hst252.g 3, hst252.g 4⟩), ?_⟩
     refine LA_all [17] (by decide +kernel) (by simp) ?_
     intro i_ hi_
     simp only [List.mem_cons, List.not_mem_nil, or_false] at hi_
     subst hi_
     refine One_append (j := 17) hst252 (t := 39) (e := 99) (ys := [Dec.mk k 0 t49]) (src := [(int k.1), (int k.2), (int 0), (.string t49)]) 5 rfl rfl rfl (Want.plain rfl) rfl rfl rfl sl_39 ti_99 rfl rfl rfl hD (src_own (hst252.b 0)) (Encs.one (tyDec_mk _ _ _ _ _)) rfl (by first | omega | (simp only [List.length_append, List.length_cons, List.length_nil]; omega)) (by first | (simp only [maxLen]; omega) | (simp only [List.length_append, List.length_cons, List.length_nil, maxLen]; omega)) (fun v256 c257 w258 ho259 hst260 => ?_)
     refine ⟨(fun _ => ⟨hst260.rle', hst260.g 2, hst260.g 3, hst260.g 4, hst260.g 5⟩), ?_⟩
     refine LP (ptr m 0) 18 rfl rfl rfl (fun u262 => rfl) ⟨hst260.rle', hst260.g 2, hst260.g 3, hst260.g 4, hst260.g 5⟩ ?_
     refine LP (ptr m 5) 19 rfl rfl rfl (fun u265 => (by kernel_rfl)) ⟨hst260.rle', hst260.g 2, hst260.g 3, hst260.g 4, hst260.g 5⟩ ?_
     refine LA_all [20] (by decide +kernel) (by simp) ?_
     intro i_ hi_
     simp only [List.mem_cons, List.not_mem_nil, or_false] at hi_
     subst hi_
     obtain ⟨a268, cap269, e270, hc271⟩ := ho259.value
     subst e270
     obtain ⟨w272, hr274, hst273⟩ := run_storeW (P := Tryd.prog) (b := m) (off := 5) (v := (.slice a268 ((s.decs ++ [Dec.mk k 0 t49]).length) cap269)) hst260 4 ti_39 rfl rfl rfl rfl rfl rfl
     change Step _ _ _ _ _ [c257, one b250 (.cells #[(int k.1), (int k.2), (int 0), (.string t49)] 99 (0, 0)), c187, one b1 (.cells #[(int k.1), (int k.2)] 43 (0, 0)), one m (.cells #[(int s.sample), (int s.warm), (int s.hot), (int s.cold), (.slice (some ⟨b18, 0, none⟩) xs.length cap15), (.slice a268 ((s.decs ++ [Dec.mk k 0 t49]).length) cap269)] 41 (0, 0)), cX] at hst273
     refine One_skip (i := 20) rfl rfl (Want.plain rfl) (x_store rfl rfl rfl hr274) (fun h => absurd h (by decide +kernel)) ?_
     refine LA_done (by decide +kernel) ?_
     refine ⟨_, _, res_run (rs := []) (vs := []) Tryd.results51 .nil rfl, ?_⟩
     refine ⟨_, rfl, ?_⟩
     refine L_nil ?_
     refine ⟨_, _, res_run (rs := []) (vs := []) Tryd.results50 .nil rfl, ?_⟩
     refine ⟨_, rfl, ?_⟩
     refine L_nil ?_
     refine ⟨_, _, res_run (rs := []) (vs := []) Tryd.results32 .nil rfl, ?_⟩
     have he := failed_back (s := s) hgr (of_decide_eq_false c31) (ne_of_beq_false c34)
     rw [he]
     have hro2 : Rec.Ok s.n r := hro
     have he2 := setBack_on (s := s) (k := k) (t := 0) (l := [Wd.s wError, Wd.i e]) (r := { r with count := 0 }) (ne_of_beq_false c81)
     have hok2 := hok.setBack (k := k) (t := 0) (ex := r.exits) (c := 0) (l := [Wd.s wError, Wd.i e]) hro2 (by constructor <;> omega) (by decide) (Sm2 (Sm_s (by decide)) (Sm_i (by constructor <;> omega))) (Nat.le_of_ble_eq_true rfl)
     rw [show s.setBack k { r with count := 0 } 0 [Wd.s wError, Wd.i e] = _ from he2] at hok2
     rw [he2]
     obtain ⟨c275, hst276, hX277⟩ := Exs.dropAt (hst273.front 5 rfl rfl) hX hj (y := (Sp.mk k ⟨0, r.calls, 0, r.failures + 1, []⟩ (.slice none 0 0))) rfl rfl
     obtain ⟨c', hst', href'⟩ := RefP.close (s := s.decide k ⟨r.tier, r.calls, 0, r.failures + 1, []⟩ 0 (joinW [Wd.s (joinW [Wd.s wError, Wd.i e])])) (xs := (List.set xs (pos xs k) (Sp.mk k ⟨0, r.calls, 0, r.failures + 1, []⟩ (.slice none 0 0)))) ((((hst276.front 1 rfl rfl).front 1 rfl rfl).front 3 rfl rfl).front 5 rfl rfl) (hback24 R (List.set xs (pos xs k) (Sp.mk k ⟨0, r.calls, 0, r.failures + 1, []⟩ (.slice none 0 0))) c187 (by first | rfl | (simp only [List.length_set]; done) | (simp only [List.length_set]; omega) | omega) hrow190) hX277 (Eq.mp (congrArg (fun l_ => OwnL tyDec 99 R (.slice a268 ((s.decs ++ [Dec.mk k 0 t49]).length) cap269) l_ c257) (show (s.decs ++ [Dec.mk k 0 t49]) = (s.decide k ⟨r.tier, r.calls, 0, r.failures + 1, []⟩ 0 (joinW [Wd.s (joinW [Wd.s wError, Wd.i e])])).decs from congrArg (fun t_ => s.decs ++ [Dec.mk k 0 t_]) (by rw [ht50]; exact (dec_error _).trans (joinW1 _).symm))) ho259) (hset (Sp.mk k ⟨0, r.calls, 0, r.failures + 1, []⟩ (.slice none 0 0)) rfl).1 (Agr.decide (r := ⟨r.tier, r.calls, 0, r.failures + 1, []⟩) (hset (Sp.mk k ⟨0, r.calls, 0, r.failures + 1, []⟩ (.slice none 0 0)) rfl).2 hag) (by simp only [List.length_set]; show _ ≤ s.n + 1; omega) hok2
     exact ⟨_, _, _, rfl, hst'.keepN 1 rfl, c', rfl, rfl, href'⟩
 ·
  have hgn : AL.get s.recs k = none := by rw [← hag k]; exact get_nthr hsr hth
  refine W_region_lit ?_
  refine Lq (.bool (thr xs k)) rfl rfl rfl rfl ?_
  refine Lq (.bool (!(thr xs k))) rfl rfl rfl rfl ?_
  refine Lq (.bool (!(thr xs k))) rfl rfl rfl rfl ?_
  refine L_unwanted rfl rfl rfl rfl (by rw [hth]; try rfl) rfl rfl ?_
  refine L_unwanted rfl rfl rfl rfl (by rw [hth]; try rfl) rfl rfl ?_
  refine L_unwanted rfl rfl rfl rfl (by rw [hth]; try rfl) rfl rfl ?_
  refine L_unwanted rfl rfl rfl rfl (by rw [hth]; try rfl) rfl rfl ?_
  refine L_unwanted rfl rfl rfl rfl (by rw [hth]; try rfl) rfl rfl ?_
  refine L_unwanted rfl rfl rfl rfl (by rw [hth]; try rfl) rfl rfl ?_
  refine L_unwanted rfl rfl rfl rfl (by rw [hth]; try rfl) rfl rfl ?_
  refine L_unwanted rfl rfl rfl rfl (by rw [hth]; try rfl) rfl rfl ?_
  refine L_unwanted rfl rfl rfl rfl (by rw [hth]; try rfl) rfl rfl ?_
  refine Lq (.bool true) rfl rfl rfl (x_pick rfl rfl (by rw [hth]; rfl)) ?_
  refine Lq (.bool true) rfl rfl rfl rfl ?_
  refine L_unwanted rfl rfl rfl rfl rfl rfl rfl ?_
  refine L_unwanted rfl rfl rfl rfl rfl rfl rfl ?_
  refine Lq (.bool true) rfl rfl rfl rfl ?_
  refine L_nil ?_
  refine W_cond_true (by show Value.bool _ = _; exact congrArg Value.bool rfl) ?_
  refine W_ret ?_
  refine ⟨_, _, res_run (rs := []) (vs := []) Tryd.results32 .nil rfl, ?_⟩
  rw [failed_none (s := s) (k := k) e hgn]
  obtain ⟨c', hst', href'⟩ := RefP.close (s := s) (xs := xs) ((((hst5.front 4 rfl rfl).front 4 rfl rfl).front 4 rfl rfl).front 4 rfl rfl) hL hX hD hsr hag hln hok
  exact ⟨_, _, _, rfl, hst'.keepN 1 rfl, c', rfl, rfl, href'⟩

set_option maxHeartbeats 4000000 in
theorem LeftR_spec {w : World} {R c : Hp} {m : Nat} {s : PS} (k : Pl) (e : Int) (hI : I64 e) (hI2 : e ≤ 1000000) (hex : ∀ r, AL.get s.recs k = some r → r.exits.length ≤ 1000000000) (hs : Sats w R [c]) (href : RefP R m s c) (hn : s.n ≤ 1000000000) :
    Calls Tryd.prog 31 #[ptr m 0, kk k, int e] w (Comes' w R [c] fun v' R' L' => ∃ c', v' = .bool (s.left k e).2 ∧ L' = [c'] ∧ RefP R' m ((s.left k e).1) c') := by
 obtain ⟨xs, vL, vD, cL, cX, cD, hce, hd1, hd2, hd3, hL, hX, hD, hsr, hag, hln, hok⟩ := href
 have hst1 : Step w R [c] w R [uni (refB m s vL vD) (tri cL cX cD)] := by have h0 := Step.refl hs; rw [hce] at h0 ⊢; exact h0
 have hst := RefP.opened hst1 hd1 hd2 hd3
 clear hst1 hce hd1 hd2 hd3
 obtain ⟨hb1, hb2⟩ := hok.sample
 obtain ⟨hb3, hb4⟩ := hok.warm
 obtain ⟨hb5, hb6⟩ := hok.hot
 obtain ⟨hb7, hb8⟩ := hok.cold
 have hb9 := hok.decs
 have hple := pos_le xs k
 obtain ⟨hi1, hi2⟩ := hI
 refine calls_of_W (n := 149) Tryd.func31 rfl Tryd.ntmps31 (Nat.le_of_ble_eq_true rfl) ?_
 refine W_seq ?_
 refine W_region_lit ?_
 refine L_new hst (v := fun b => ptr b 0) (ob := .cells #[(int k.1), (int k.2)] 43 (0, 0)) rfl rfl rfl (by kernel_rfl) (fun b1 w2 hst3 => ?_)
 refine Lq (.bool false) rfl rfl rfl rfl ?_
 refine L_nil ?_
 refine W_seq ?_
 refine W_region_lit ?_
 refine Lq (ptr m 0) rfl rfl rfl rfl ?_
 refine Lq (.agg #[(int k.1), (int k.2)]) rfl rfl rfl (x_load rfl rfl (run_loadVar_agg ti_43 (hst3.b 0) (l := [(int k.1), (int k.2)]) rfl rfl)) ?_
 refine L_callG hst3 (v := (.tuple #[(int (((pos xs k) : Nat) : Int)), (.bool (thr xs k))])) rfl rfl rfl (x_call (vs := #[(ptr m 0), (.agg #[(int k.1), (int k.2)])]) rfl rfl (by kernel_rfl) ent_45) (place_spec (s := s) (xs := xs) k (hst3.g 1) (OwnL.freeze hL hst3.rle' (hst3.g 2)) (Le.refl _) (by omega)) (fun w4 hst5 => ?_)
 refine Lq (.tuple #[(int (((pos xs k) : Nat) : Int)), (.bool (thr xs k))]) rfl rfl rfl rfl ?_
 refine Lq (int (((pos xs k) : Nat) : Int)) rfl rfl rfl (by kernel_rfl) ?_
 refine Lq (.bool (thr xs k)) rfl rfl rfl (by kernel_rfl) ?_
 refine Lq (int (((pos xs k) : Nat) : Int)) rfl rfl rfl rfl ?_
 refine Lq (.bool (thr xs k)) rfl rfl rfl rfl ?_
 refine L_nil ?_
 refine W_seq ?_
 refine W_seq ?_
 rcases Bool.eq_false_or_eq_true (thr xs k) with hth | hth
 ·
  obtain ⟨hj, r, v, hx, hgr, hset⟩ := thr_open hth hsr hag
  have hrc := PS.rc_some hgr
  have hro := hok.recs k r hgr
  obtain ⟨hr6, hr7⟩ := hro.tier
  obtain ⟨hr8, hr9⟩ := hro.calls
  obtain ⟨hr10, hr11⟩ := hro.count
  obtain ⟨hr12, hr13⟩ := hro.failures
  obtain ⟨hxb1, hxb2⟩ := hro.exit e
  have hxl := hex r hgr
  obtain ⟨cE, cR, hE, rfl, hd4, hback⟩ := hX.look _ hj
  have hst14 := (hst5.front 3 rfl rfl).split hd4
  have hE1 : OwnL tyEx 110 R v r.exits cE := by rw [hx] at hE; exact hE
  clear hE
  obtain ⟨ea, ecap, hve, hec⟩ := hE1.value
  subst hve
  refine W_region_lit ?_
  refine Lq (.bool (thr xs k)) rfl rfl rfl rfl ?_
  refine Lq (.bool (!(thr xs k))) rfl rfl rfl rfl ?_
  refine Lq (.bool (!(thr xs k))) rfl rfl rfl rfl ?_
  refine L_guard rfl rfl rfl rfl (by rw [hth]; rfl) ?_
  refine Lq (ptr m 0) rfl rfl rfl rfl ?_
  refine L_guard rfl rfl rfl rfl (by rw [hth]; rfl) ?_
  refine Lq (ptr m 0) rfl rfl rfl rfl ?_
  refine L_guard rfl rfl rfl rfl (by rw [hth]; rfl) ?_
  refine Lq (ptr m 4) rfl rfl rfl (by kernel_rfl) ?_
  refine L_guard rfl rfl rfl rfl (by rw [hth]; rfl) ?_
  refine Lq vL rfl rfl rfl (x_load rfl rfl (run_loadVar_one ti_38 (hst14.b 3) rfl)) ?_
  refine L_guard rfl rfl rfl rfl (by rw [hth]; rfl) ?_
  refine Lq (int (((pos xs k) : Nat) : Int)) rfl rfl rfl rfl ?_
  refine L_guard rfl rfl rfl rfl (by rw [hth]; rfl) ?_
  obtain ⟨a15, cap16, e17, hc18⟩ := hL.value
  subst e17
  obtain ⟨b19, cap20, N21, e22, hc23, hrow24, hback25⟩ := OwnL.row hL (by omega)
  obtain ⟨rfl, hl26, rfl⟩ := Value.slice.inj e22
  try rw [← hl26] at hback25
  obtain ⟨cl27, cs28, hr29, hcb30, hsg31⟩ := Row.at hrow24 (pos xs k) (by omega)
  rw [hx] at hr29
  obtain rfl := tySp_open hr29
  refine Lq (ptr b19 (0 + (pos xs k) * 7)) rfl rfl rfl (x_indexAddr' rfl sl_38 ti_96 rfl rfl (by omega)) ?_
  refine L_guard rfl rfl rfl rfl (by rw [hth]; rfl) ?_
  refine Lq (ptr b19 (0 + (pos xs k) * 7 + 2)) rfl rfl rfl (by kernel_rfl) ?_
  refine L_guard rfl rfl rfl rfl (by rw [hth]; rfl) ?_
  refine Lq (int r.tier) rfl rfl rfl (x_load rfl rfl (run_loadVar_one ti_3 ((hst14.g 4) _ _ hcb30) (seg_get (j := 2) hsg31 rfl))) ?_
  refine L_guard rfl rfl rfl rfl (by rw [hth]; rfl) ?_
  refine Lq (.bool (r.tier != 2)) rfl rfl rfl (by kernel_rfl) ?_
  refine Lq (.bool (r.tier != 2)) rfl rfl rfl (x_pick rfl rfl (by rw [hth]; rfl)) ?_
  refine Lq (.bool (r.tier != 2)) rfl rfl rfl rfl ?_
  rcases Bool.eq_false_or_eq_true (r.tier != 2) with c32 | c32
  ·
   have q33 : ¬ r.tier = 2 := by simpa using c32
   refine L_unwanted rfl rfl rfl rfl (by rw [c32]; try rfl) rfl rfl ?_
   refine L_unwanted rfl rfl rfl rfl (by rw [c32]; try rfl) rfl rfl ?_
   refine Lq (.bool true) rfl rfl rfl (x_pick rfl rfl (by rw [c32]; rfl)) ?_
   refine L_nil ?_
   refine W_cond_true (by show Value.bool _ = _; exact congrArg Value.bool rfl) ?_
   refine W_seq ?_
   refine W_region_lit ?_
   refine Lq (.bool false) rfl rfl rfl rfl ?_
   refine L_nil ?_
   refine W_ret ?_
   refine ⟨_, _, res_run (rs := [.tmp 6]) (vs := [(.bool false)]) Tryd.results31 (.cons (.tmp rfl) .nil) rfl, ?_⟩
   have he := left_not (s := s) (e := e) hgr (.inl (by simpa using c32))
   rw [he]
   obtain ⟨c', hst', href'⟩ := RefP.closeE (s := s) (xs := xs) (v := (.slice ea r.exits.length ecap)) (ex := r.exits) (((((hst14.front 5 rfl rfl).front 2 rfl rfl).front 2 rfl rfl).front 5 rfl rfl).front 5 rfl rfl) (hback25 R xs cL (by first | rfl | (simp only [List.length_set]; done) | (simp only [List.length_set]; omega) | omega) hrow24) hE1 (fun c1 h d => by have h_ := hback R ⟨k, r, (.slice ea r.exits.length ecap)⟩ c1 (Le.refl _) h d; rw [← hx, List.set_getElem_self] at h_; exact h_) hD hsr hag hln hok
   exact ⟨_, _, _, rfl, hst'.keepN 1 rfl, c', rfl, rfl, href'⟩
  ·
   have q34 : r.tier = 2 := by simpa using c32
   refine L_guard rfl rfl rfl rfl c32 ?_
   refine Lq (int e) rfl rfl rfl rfl ?_
   refine L_guard rfl rfl rfl rfl c32 ?_
   refine Lq (.bool (decide (e < 0))) rfl rfl rfl (by kernel_rfl) ?_
   refine Lq (.bool (decide (e < 0))) rfl rfl rfl (x_pick rfl rfl (by rw [c32]; rfl)) ?_
   refine L_nil ?_
   rcases Bool.eq_false_or_eq_true (decide (e < 0)) with c35 | c35
   ·
    have q36 := of_decide_eq_true c35
    refine W_cond_true (by show Value.bool _ = _; exact congrArg Value.bool c35) ?_
    refine W_seq ?_
    refine W_region_lit ?_
    refine Lq (.bool false) rfl rfl rfl rfl ?_
    refine L_nil ?_
    refine W_ret ?_
    refine ⟨_, _, res_run (rs := [.tmp 6]) (vs := [(.bool false)]) Tryd.results31 (.cons (.tmp rfl) .nil) rfl, ?_⟩
    have he := left_not (s := s) (e := e) hgr (.inr (of_decide_eq_true c35))
    rw [he]
    obtain ⟨c', hst', href'⟩ := RefP.closeE (s := s) (xs := xs) (v := (.slice ea r.exits.length ecap)) (ex := r.exits) (((((hst14.front 5 rfl rfl).front 2 rfl rfl).front 2 rfl rfl).front 5 rfl rfl).front 5 rfl rfl) (hback25 R xs cL (by first | rfl | (simp only [List.length_set]; done) | (simp only [List.length_set]; omega) | omega) hrow24) hE1 (fun c1 h d => by have h_ := hback R ⟨k, r, (.slice ea r.exits.length ecap)⟩ c1 (Le.refl _) h d; rw [← hx, List.set_getElem_self] at h_; exact h_) hD hsr hag hln hok
    exact ⟨_, _, _, rfl, hst'.keepN 1 rfl, c', rfl, rfl, href'⟩
   ·
    have q37 := of_decide_eq_false c35
    refine W_cond_false (by show Value.bool _ = _; exact congrArg Value.bool c35) ?_
    refine W_skip ?_
    refine W_seq ?_
    refine W_region_lit ?_
    refine Lq (int 0) rfl rfl rfl rfl ?_
    refine L_nil ?_
    refine W_seq ?_
    refine W_block ?_
    refine W_loop (I := fun σ w_ m_ => ∃ (σ0 : Fr) (j_ : Nat), σ = upd (upd (upd (upd (upd (upd (upd (upd (upd (upd (upd (upd (upd (upd (upd (upd (upd (upd (upd (upd (upd (upd (upd (upd (upd (upd (upd (upd (upd (upd (upd σ0 0 (ptr m 0)) 1 (.agg #[(int k.1), (int k.2)])) 2 (int e)) 4 (ptr b1 0)) 6 (.bool false)) 7 (int (((pos xs k) : Nat) : Int))) 8 (.bool (thr xs k))) 9 (int (j_ : Int))) 10 (.tuple #[(int (((pos xs k) : Nat) : Int)), (.bool (thr xs k))])) 11 (ptr m 0)) 12 (.agg #[(int k.1), (int k.2)])) 13 (.tuple #[(int (((pos xs k) : Nat) : Int)), (.bool (thr xs k))])) 14 (int (((pos xs k) : Nat) : Int))) 15 (.bool (thr xs k))) 16 (.bool (thr xs k))) 17 (.bool (!(thr xs k)))) 18 (.bool (!(thr xs k)))) 19 (ptr m 0)) 20 (ptr m 0)) 21 (ptr m 4)) 22 (.slice (some ⟨b19, 0, none⟩) xs.length cap16)) 23 (int (((pos xs k) : Nat) : Int))) 24 (ptr b19 (0 + (pos xs k) * 7))) 25 (ptr b19 (0 + (pos xs k) * 7 + 2))) 26 (int r.tier)) 27 (.bool (r.tier != 2))) 28 (.bool (r.tier != 2))) 29 (.bool (r.tier != 2))) 30 (int e)) 31 (.bool (decide (e < 0)))) 32 (.bool (decide (e < 0))) ∧ mks (σ0 0) = [] ∧ Step w R [c] w_ R [cE, cR, one b1 (.cells #[(int k.1), (int k.2)] 43 (0, 0)), one m (.cells #[(int s.sample), (int s.warm), (int s.hot), (int s.cold), (.slice (some ⟨b19, 0, none⟩) xs.length cap16), vD] 41 (0, 0)), cL, cD] ∧ j_ ≤ r.exits.length ∧ AL.get (List.take j_ r.exits) e = none ∧ m_ = r.exits.length - j_) (m := r.exits.length - 0) ?_ ?_
    ·
     exact ⟨_, 0, (upd_of (upd_of (upd_of (upd_of (upd_of (upd_of (upd_of (upd_of (upd_of (upd_of (upd_of (upd_of (upd_of (upd_of (upd_of (upd_of (upd_of (upd_of (upd_of (upd_of (upd_of (upd_of (upd_of (upd_of (upd_of (upd_of (upd_of (upd_of (upd_of (upd_of (upd_of rfl rfl) rfl) rfl) rfl) rfl) rfl) rfl) rfl) rfl) rfl) rfl) rfl) rfl) rfl) rfl) rfl) rfl) rfl) rfl) rfl) rfl) rfl) rfl) rfl) rfl) rfl) rfl) rfl) rfl) rfl) rfl), rfl, ((((((hst14.front 5 rfl rfl).front 5 rfl rfl).front 5 rfl rfl).front 5 rfl rfl).front 5 rfl rfl).front 5 rfl rfl), (by omega), rfl, rfl⟩
    ·
     rintro m46 σ_ w40 ⟨s44, j_45, rfl, hmk38, hst39, hf42, hf43, rfl⟩
     refine W_seq ?_
     refine W_seq ?_
     refine W_region_lit ?_
     refine Lq (int (j_45 : Int)) rfl rfl rfl rfl ?_
     refine Lq (ptr m 0) rfl rfl rfl rfl ?_
     refine Lq (ptr m 0) rfl rfl rfl rfl ?_
     refine Lq (ptr m 4) rfl rfl rfl (by kernel_rfl) ?_
     refine Lq (.slice (some ⟨b19, 0, none⟩) xs.length cap16) rfl rfl rfl (x_load rfl rfl (run_loadVar_one ti_38 (hst39.b 3) rfl)) ?_
     refine Lq (int (((pos xs k) : Nat) : Int)) rfl rfl rfl rfl ?_
     obtain ⟨cl47, cs48, hr49, hcb50, hsg51⟩ := Row.at hrow24 (pos xs k) (by omega)
     rw [hx] at hr49
     obtain rfl := tySp_open hr49
     refine Lq (ptr b19 (0 + (pos xs k) * 7)) rfl rfl rfl (x_indexAddr' rfl sl_38 ti_96 rfl rfl (by omega)) ?_
     refine Lq (ptr b19 (0 + (pos xs k) * 7 + 6)) rfl rfl rfl (by kernel_rfl) ?_
     refine Lq (.slice ea r.exits.length ecap) rfl rfl rfl (x_load rfl rfl (run_loadVar_one ti_94 ((hst39.g 4) _ _ hcb50) (seg_get (j := 6) hsg51 rfl))) ?_
     refine Lq (int (r.exits.length : Int)) rfl rfl rfl (x_len_slice rfl sl_94 rfl) ?_
     refine Lq (.bool (decide ((j_45 : Int) < (r.exits.length : Int)))) rfl rfl rfl (by kernel_rfl) ?_
     refine Lq (.bool (decide ((j_45 : Int) < (r.exits.length : Int)))) rfl rfl rfl rfl ?_
     rcases Bool.eq_false_or_eq_true (decide ((j_45 : Int) < (r.exits.length : Int))) with c52 | c52
     ·
      have q53 := of_decide_eq_true c52
      refine L_guard rfl rfl rfl rfl c52 ?_
      refine Lq (ptr m 0) rfl rfl rfl rfl ?_
      refine L_guard rfl rfl rfl rfl c52 ?_
      refine Lq (ptr m 0) rfl rfl rfl rfl ?_
      refine L_guard rfl rfl rfl rfl c52 ?_
      refine Lq (ptr m 4) rfl rfl rfl (by kernel_rfl) ?_
      refine L_guard rfl rfl rfl rfl c52 ?_
      refine Lq (.slice (some ⟨b19, 0, none⟩) xs.length cap16) rfl rfl rfl (x_load rfl rfl (run_loadVar_one ti_38 (hst39.b 3) rfl)) ?_
      refine L_guard rfl rfl rfl rfl c52 ?_
      refine Lq (int (((pos xs k) : Nat) : Int)) rfl rfl rfl rfl ?_
      refine L_guard rfl rfl rfl rfl c52 ?_
      obtain ⟨cl54, cs55, hr56, hcb57, hsg58⟩ := Row.at hrow24 (pos xs k) (by omega)
      rw [hx] at hr56
      obtain rfl := tySp_open hr56
      refine Lq (ptr b19 (0 + (pos xs k) * 7)) rfl rfl rfl (x_indexAddr' rfl sl_38 ti_96 rfl rfl (by omega)) ?_
      refine L_guard rfl rfl rfl rfl c52 ?_
      refine Lq (ptr b19 (0 + (pos xs k) * 7 + 6)) rfl rfl rfl (by kernel_rfl) ?_
      refine L_guard rfl rfl rfl rfl c52 ?_
      refine Lq (.slice ea r.exits.length ecap) rfl rfl rfl (x_load rfl rfl (run_loadVar_one ti_94 ((hst39.g 4) _ _ hcb57) (seg_get (j := 6) hsg58 rfl))) ?_
      refine L_guard rfl rfl rfl rfl c52 ?_
      refine Lq (int (j_45 : Int)) rfl rfl rfl rfl ?_
      refine L_guard rfl rfl rfl rfl c52 ?_
      obtain ⟨b59, cap60, N61, e62, hc63, hrow64, hback65⟩ := OwnL.row hE1 (by omega)
      obtain ⟨rfl, hl66, rfl⟩ := Value.slice.inj e62
      try rw [← hl66] at hback65
      obtain ⟨cl67, cs68, hr69, hcb70, hsg71⟩ := Row.at hrow64 j_45 (by omega)
      obtain ⟨x72, hx73⟩ : ∃ x_, x_ = (r.exits[j_45]'(by omega)) := ⟨_, rfl⟩
      rw [← hx73] at hr69
      obtain rfl := tyEx_open hr69
      refine Lq (ptr b59 (0 + j_45 * 2)) rfl rfl rfl (x_indexAddr' rfl sl_94 ti_110 rfl rfl (by omega)) ?_
      refine L_guard rfl rfl rfl rfl c52 ?_
      refine Lq (ptr b59 (0 + j_45 * 2)) rfl rfl rfl (by kernel_rfl) ?_
      refine L_guard rfl rfl rfl rfl c52 ?_
      refine Lq (int x72.1) rfl rfl rfl (x_load rfl rfl (run_loadVar_one ti_3 ((hst39.g 0) _ _ hcb70) (seg_get (j := 0) hsg71 rfl))) ?_
      refine L_guard rfl rfl rfl rfl c52 ?_
      refine Lq (int e) rfl rfl rfl rfl ?_
      refine L_guard rfl rfl rfl rfl c52 ?_
      refine Lq (.bool (x72.1 != e)) rfl rfl rfl (by kernel_rfl) ?_
      refine Lq (.bool (x72.1 != e)) rfl rfl rfl (x_pick rfl rfl (by rw [c52]; rfl)) ?_
      refine L_nil ?_
      rcases Bool.eq_false_or_eq_true (x72.1 != e) with c74 | c74
      ·
       have q75 : ¬ x72.1 = e := by simpa using c74
       refine W_cond_true (by show Value.bool _ = _; exact congrArg Value.bool c74) ?_
       refine W_skip ?_
       refine W_block ?_
       refine W_region_lit ?_
       refine Lq (int (j_45 : Int)) rfl rfl rfl rfl ?_
       refine Lq (int ((j_45 + 1 : Nat) : Int)) rfl rfl rfl (x_add_nat rfl rfl rfl (by omega)) ?_
       refine Lq (int ((j_45 + 1 : Nat) : Int)) rfl rfl rfl rfl ?_
       refine L_nil ?_
       refine ⟨r.exits.length - (j_45 + 1), by first | omega | (simp only [List.length_append, List.length_cons, List.length_nil]; omega), ?_⟩
       exact ⟨_, (j_45 + 1), (upd_of (upd_of (upd_of (upd_of (upd_of (upd_of (upd_of (upd_of (upd_of (upd_of (upd_of (upd_of (upd_of (upd_of (upd_of (upd_of (upd_of (upd_of (upd_of (upd_of (upd_of (upd_of (upd_of (upd_of (upd_of (upd_of (upd_of (upd_of (upd_of (upd_of (upd_of rfl rfl) rfl) rfl) rfl) rfl) rfl) rfl) rfl) rfl) rfl) rfl) rfl) rfl) rfl) rfl) rfl) rfl) rfl) rfl) rfl) rfl) rfl) rfl) rfl) rfl) rfl) rfl) rfl) rfl) rfl) rfl), hmk38, ((((((hst39.front 5 rfl rfl).front 5 rfl rfl).front 5 rfl rfl).front 5 rfl rfl).front 5 rfl rfl).front 5 rfl rfl), (by omega), (get_take_succ (by omega) hf43 hx73 (by simpa using c74)), rfl⟩
      ·
       have q76 : x72.1 = e := by simpa using c74
       refine W_cond_false (by show Value.bool _ = _; exact congrArg Value.bool c74) ?_
       refine W_exit ?_
       refine W_seq ?_
       refine W_seq ?_
       refine W_region_lit ?_
       refine Lq (int (j_45 : Int)) rfl rfl rfl rfl ?_
       refine Lq (ptr m 0) rfl rfl rfl rfl ?_
       refine Lq (ptr m 0) rfl rfl rfl rfl ?_
       refine Lq (ptr m 4) rfl rfl rfl (by kernel_rfl) ?_
       refine Lq (.slice (some ⟨b19, 0, none⟩) xs.length cap16) rfl rfl rfl (x_load rfl rfl (run_loadVar_one ti_38 (hst39.b 3) rfl)) ?_
       refine Lq (int (((pos xs k) : Nat) : Int)) rfl rfl rfl rfl ?_
       obtain ⟨cl77, cs78, hr79, hcb80, hsg81⟩ := Row.at hrow24 (pos xs k) (by omega)
       rw [hx] at hr79
       obtain rfl := tySp_open hr79
       refine Lq (ptr b19 (0 + (pos xs k) * 7)) rfl rfl rfl (x_indexAddr' rfl sl_38 ti_96 rfl rfl (by omega)) ?_
       refine Lq (ptr b19 (0 + (pos xs k) * 7 + 6)) rfl rfl rfl (by kernel_rfl) ?_
       refine Lq (.slice (some ⟨b59, 0, none⟩) r.exits.length ecap) rfl rfl rfl (x_load rfl rfl (run_loadVar_one ti_94 ((hst39.g 4) _ _ hcb80) (seg_get (j := 6) hsg81 rfl))) ?_
       refine Lq (int (r.exits.length : Int)) rfl rfl rfl (x_len_slice rfl sl_94 rfl) ?_
       refine Lq (.bool ((j_45 : Int) == (r.exits.length : Int))) rfl rfl rfl (by kernel_rfl) ?_
       refine L_nil ?_
       have c82 : ((j_45 : Int) == (r.exits.length : Int)) = false := beq_false_of_ne (by omega)
       have q83 := ne_of_beq_false c82
       refine W_cond_false (by show Value.bool _ = _; exact congrArg Value.bool c82) ?_
       refine W_skip ?_
       refine W_seq ?_
       have hne_ : x72.1 = e := by simpa using c74
       obtain ⟨hg1, hsa⟩ := set_at (by omega) hf43 hx73 hne_
       have hgd : (AL.get r.exits e).getD 0 = x72.2 := by rw [hg1]; rfl
       rw [hgd] at hxb1 hxb2
       have hxe : r.exits[j_45]'(by omega) = (x72.1, x72.2) := by rw [← hx73]
       have hfin : List.set r.exits j_45 (x72.1, x72.2 + 1) = AL.set r.exits e ((AL.get r.exits e).getD 0 + 1) := by rw [hgd, hsa, hne_]
       refine W_region_lit ?_
       refine Lq (ptr m 0) rfl rfl rfl rfl ?_
       refine Lq (ptr m 0) rfl rfl rfl rfl ?_
       refine Lq (ptr m 4) rfl rfl rfl (by kernel_rfl) ?_
       refine Lq (.slice (some ⟨b19, 0, none⟩) xs.length cap16) rfl rfl rfl (x_load rfl rfl (run_loadVar_one ti_38 (hst39.b 3) rfl)) ?_
       refine Lq (int (((pos xs k) : Nat) : Int)) rfl rfl rfl rfl ?_
       obtain ⟨cl84, cs85, hr86, hcb87, hsg88⟩ := Row.at hrow24 (pos xs k) (by omega)
       rw [hx] at hr86
       obtain rfl := tySp_open hr86
       refine Lq (ptr b19 (0 + (pos xs k) * 7)) rfl rfl rfl (x_indexAddr' rfl sl_38 ti_96 rfl rfl (by omega)) ?_
       refine Lq (ptr b19 (0 + (pos xs k) * 7 + 6)) rfl rfl rfl (by kernel_rfl) ?_
       refine Lq (.slice (some ⟨b59, 0, none⟩) r.exits.length ecap) rfl rfl rfl (x_load rfl rfl (run_loadVar_one ti_94 ((hst39.g 4) _ _ hcb87) (seg_get (j := 6) hsg88 rfl))) ?_
       refine Lq (int (j_45 : Int)) rfl rfl rfl rfl ?_
       obtain ⟨cl89, cs90, hr91, hcb92, hsg93⟩ := Row.at hrow64 j_45 (by omega)
       rw [hxe] at hr91
       obtain rfl := tyEx_open hr91
       refine Lq (ptr b59 (0 + j_45 * 2)) rfl rfl rfl (x_indexAddr' rfl sl_94 ti_110 rfl rfl (by omega)) ?_
       refine Lq (ptr b59 (0 + j_45 * 2 + 1)) rfl rfl rfl (by kernel_rfl) ?_
       refine Lq (int x72.2) rfl rfl rfl (x_load rfl rfl (run_loadVar_one ti_3 ((hst39.g 0) _ _ hcb92) (seg_get (j := 1) hsg93 rfl))) ?_
       refine Lq (int (x72.2 + 1)) rfl rfl rfl (x_add rfl rfl rfl (by constructor <;> omega)) ?_
       obtain ⟨cl94, cs95, hr96, hcb97, hsg98⟩ := Row.at hrow64 j_45 (by omega)
       rw [hxe] at hr96
       obtain rfl := tyEx_open hr96
       refine Lq (ptr b59 (0 + j_45 * 2)) rfl rfl rfl (x_indexAddr' rfl sl_94 ti_110 rfl rfl (by omega)) ?_
       refine Lq (ptr b59 (0 + j_45 * 2 + 1)) rfl rfl rfl (by kernel_rfl) ?_
       obtain ⟨c99, w100, hr101, hrow102, hst103⟩ := Row.storeF (P := Tryd.prog) (v := (int (x72.2 + 1))) (y := (x72.1, x72.2 + 1)) (cl := [(int x72.1), (int x72.2)]) hrow64 hst39 ti_3 j_45 (by omega) 1 (by decide) (fun c1 h1 => by rw [hxe] at h1; exact tyEx_fun h1) rfl rfl (tyEx_is rfl)
       refine L_skip rfl rfl (x_store rfl rfl rfl hr101) ?_
       refine L_nil ?_
       refine W_seq ?_
       refine W_seq ?_
       refine W_region_draw [] (fun w => Le R (hp w) ∧ Le c99 (hp w) ∧ Le cR (hp w) ∧ Le (one b1 (.cells #[(int k.1), (int k.2)] 43 (0, 0))) (hp w) ∧ Le (one m (.cells #[(int s.sample), (int s.warm), (int s.hot), (int s.cold), (.slice (some ⟨b19, 0, none⟩) xs.length cap16), vD] 41 (0, 0))) (hp w) ∧ Le cL (hp w) ∧ Le cD (hp w)) hmix (by decide +kernel) (fun _ _ h => h) ?_
       have hst105 := hst103.draws (w100.drawn + 1)
       generalize draws w100 (w100.drawn + 1) = w104 at hst105 ⊢
       refine LP (ptr m 0) 0 rfl rfl rfl (fun u107 => rfl) hst105.a6 ?_
       refine LP (ptr m 0) 1 rfl rfl rfl (fun u110 => rfl) hst105.a6 ?_
       refine LP (ptr m 4) 2 rfl rfl rfl (fun u113 => (by kernel_rfl)) hst105.a6 ?_
       refine LT (.slice (some ⟨b19, 0, none⟩) xs.length cap16) 3 rfl rfl rfl (fun u116 hF117 => (x_load rfl rfl (run_loadVar_one ti_38 (hF117.2.2.2.2.1 _ _ (one_self _ _)) rfl))) hst105.a6 ?_
       refine LP (int (((pos xs k) : Nat) : Int)) 4 rfl rfl rfl (fun u119 => rfl) hst105.a6 ?_
       obtain ⟨cl124, cs125, hr126, hcb127, hsg128⟩ := Row.at hrow24 (pos xs k) (by omega)
       rw [hx] at hr126
       obtain rfl := tySp_open hr126
       refine LP (ptr b19 (0 + (pos xs k) * 7)) 5 rfl rfl rfl (fun u122 => (x_indexAddr' rfl sl_38 ti_96 rfl rfl (by omega))) hst105.a6 ?_
       refine LP (ptr b19 (0 + (pos xs k) * 7 + 6)) 6 rfl rfl rfl (fun u130 => (by kernel_rfl)) hst105.a6 ?_
       refine LT (.slice (some ⟨b59, 0, none⟩) r.exits.length ecap) 7 rfl rfl rfl (fun u133 hF134 => (x_load rfl rfl (run_loadVar_one ti_94 (hF134.2.2.2.2.2.1 _ _ hcb127) (seg_get (j := 6) hsg128 rfl)))) hst105.a6 ?_
       refine LP (int (j_45 : Int)) 8 rfl rfl rfl (fun u136 => rfl) hst105.a6 ?_
       obtain ⟨cl141, cs142, hr143, hcb144, hsg145⟩ := Row.at hrow102 j_45 (by simp only [List.length_set]; omega)
       rw [List.getElem_set_self] at hr143
       obtain rfl := tyEx_open hr143
       refine LP (ptr b59 (0 + j_45 * 2)) 9 rfl rfl rfl (fun u139 => (x_indexAddr' rfl sl_94 ti_110 rfl rfl (by omega))) hst105.a6 ?_
       refine LP (ptr b59 (0 + j_45 * 2 + 1)) 10 rfl rfl rfl (fun u147 => (by kernel_rfl)) hst105.a6 ?_
       refine LT (int (x72.2 + 1)) 11 rfl rfl rfl (fun u150 hF151 => (x_load rfl rfl (run_loadVar_one ti_3 (hF151.2.1 _ _ hcb144) (seg_get (j := 1) hsg145 rfl)))) hst105.a6 ?_
       refine LP (ptr m 0) 12 rfl rfl rfl (fun u153 => rfl) hst105.a6 ?_
       refine LP (ptr m 0) 13 rfl rfl rfl (fun u156 => rfl) hst105.a6 ?_
       refine LP (ptr m 3) 14 rfl rfl rfl (fun u159 => (by kernel_rfl)) hst105.a6 ?_
       refine LT (int s.cold) 15 rfl rfl rfl (fun u162 hF163 => (x_load rfl rfl (run_loadVar_one ti_3 (hF163.2.2.2.2.1 _ _ (one_self _ _)) rfl))) hst105.a6 ?_
       refine LP (.bool (decide (x72.2 + 1 < s.cold))) 16 rfl rfl rfl (fun u165 => (by kernel_rfl)) hst105.a6 ?_
       refine LA_done (by decide +kernel) ?_
       rcases Bool.eq_false_or_eq_true (decide (x72.2 + 1 < s.cold)) with c167 | c167
       ·
        have q168 := of_decide_eq_true c167
        refine W_cond_true (by show Value.bool _ = _; exact congrArg Value.bool c167) ?_
        refine W_seq ?_
        refine W_region_lit ?_
        refine Lq (.bool false) rfl rfl rfl rfl ?_
        refine L_nil ?_
        refine W_ret ?_
        refine ⟨_, _, res_run (rs := [.tmp 6]) (vs := [(.bool false)]) Tryd.results31 (.cons (.tmp rfl) .nil) hmk38, ?_⟩
        have he := left_stay (s := s) hgr (by simpa using c32) (of_decide_eq_false c35) (by rw [hgd]; simpa using of_decide_eq_true c167)
        rw [he]
        obtain ⟨c', hst', href'⟩ := RefP.closeE (s := s.put k { r with exits := (AL.set r.exits e ((AL.get r.exits e).getD 0 + 1)) }) (xs := List.set xs (pos xs k) (Sp.mk k ⟨r.tier, r.calls, r.count, r.failures, (AL.set r.exits e ((AL.get r.exits e).getD 0 + 1))⟩ (.slice (some ⟨b59, 0, none⟩) r.exits.length ecap))) (v := (.slice (some ⟨b59, 0, none⟩) r.exits.length ecap)) (ex := (AL.set r.exits e ((AL.get r.exits e).getD 0 + 1))) (((((hst105.front 5 rfl rfl).front 2 rfl rfl).front 2 rfl rfl).front 5 rfl rfl).front 5 rfl rfl) (setExL (hback25 R xs cL (by first | rfl | (simp only [List.length_set]; done) | (simp only [List.length_set]; omega) | omega) hrow24) hj (by rw [hx]; rfl) (by rw [hx])) (Eq.mp (congrArg (fun l_ => OwnL tyEx 110 R (.slice (some ⟨b59, 0, none⟩) r.exits.length ecap) l_ c99) hfin) (hback65 R (List.set r.exits j_45 (x72.1, x72.2 + 1)) c99 (by first | rfl | (simp only [List.length_set]; done) | (simp only [List.length_set]; omega) | omega) hrow102)) (fun c1 h d => hback R (Sp.mk k ⟨r.tier, r.calls, r.count, r.failures, (AL.set r.exits e ((AL.get r.exits e).getD 0 + 1))⟩ (.slice (some ⟨b59, 0, none⟩) r.exits.length ecap)) c1 (Le.refl _) h d) hD (hset (Sp.mk k ⟨r.tier, r.calls, r.count, r.failures, (AL.set r.exits e ((AL.get r.exits e).getD 0 + 1))⟩ (.slice (some ⟨b59, 0, none⟩) r.exits.length ecap)) rfl).1 (Agr.put (hset (Sp.mk k ⟨r.tier, r.calls, r.count, r.failures, (AL.set r.exits e ((AL.get r.exits e).getD 0 + 1))⟩ (.slice (some ⟨b59, 0, none⟩) r.exits.length ecap)) rfl).2 hag) (by simp only [List.length_set]; show _ ≤ s.n + 1; omega) (hok.put k (hro.exit1 e))
        exact ⟨_, _, _, rfl, hst'.keepN 1 rfl, c', rfl, rfl, href'⟩
       ·
        have q169 := of_decide_eq_false c167
        refine W_cond_false (by show Value.bool _ = _; exact congrArg Value.bool c167) ?_
        refine W_skip ?_
        refine W_seq ?_
        refine W_region_draw [11] (fun w => Le R (hp w) ∧ Le c99 (hp w) ∧ Le cR (hp w) ∧ Le (one b1 (.cells #[(int k.1), (int k.2)] 43 (0, 0))) (hp w) ∧ Le (one m (.cells #[(int s.sample), (int s.warm), (int s.hot), (int s.cold), (.slice (some ⟨b19, 0, none⟩) xs.length cap16), vD] 41 (0, 0))) (hp w) ∧ Le cL (hp w) ∧ Le cD (hp w)) hmix (by decide +kernel) (fun _ _ h => h) ?_
        have hst171 := hst105.draws (w104.drawn + 1)
        generalize draws w104 (w104.drawn + 1) = w170 at hst171 ⊢
        refine LP (ptr m 0) 0 rfl rfl rfl (fun u173 => rfl) hst171.a6 ?_
        refine LP (ptr m 0) 1 rfl rfl rfl (fun u176 => rfl) hst171.a6 ?_
        refine LP (ptr m 4) 2 rfl rfl rfl (fun u179 => (by kernel_rfl)) hst171.a6 ?_
        refine LT (.slice (some ⟨b19, 0, none⟩) xs.length cap16) 3 rfl rfl rfl (fun u182 hF183 => (x_load rfl rfl (run_loadVar_one ti_38 (hF183.2.2.2.2.1 _ _ (one_self _ _)) rfl))) hst171.a6 ?_
        refine LP (int (((pos xs k) : Nat) : Int)) 4 rfl rfl rfl (fun u185 => rfl) hst171.a6 ?_
        refine LP (ptr m 0) 5 rfl rfl rfl (fun u188 => rfl) hst171.a6 ?_
        refine LP (ptr m 0) 6 rfl rfl rfl (fun u191 => rfl) hst171.a6 ?_
        refine LP (ptr m 1) 7 rfl rfl rfl (fun u194 => (by kernel_rfl)) hst171.a6 ?_
        refine LT (int s.warm) 8 rfl rfl rfl (fun u197 hF198 => (x_load rfl rfl (run_loadVar_one ti_3 (hF198.2.2.2.2.1 _ _ (one_self _ _)) rfl))) hst171.a6 ?_
        obtain ⟨cl202, cs203, hr204, hcb205, hsg206⟩ := Row.at hrow24 (pos xs k) (by omega)
        rw [hx] at hr204
        obtain rfl := tySp_open hr204
        refine LP (ptr b19 (0 + (pos xs k) * 7)) 9 rfl rfl rfl (fun u200 => (x_indexAddr' rfl sl_38 ti_96 rfl rfl (by omega))) hst171.a6 ?_
        refine LP (ptr b19 (0 + (pos xs k) * 7 + 4)) 10 rfl rfl rfl (fun u208 => (by kernel_rfl)) hst171.a6 ?_
        refine LA_all [11] (by decide +kernel) (by simp) ?_
        intro i_ hi_
        simp only [List.mem_cons, List.not_mem_nil, or_false] at hi_
        subst hi_
        obtain ⟨c211, w212, hr213, hrow214, hst215⟩ := Row.storeF (P := Tryd.prog) (v := (int s.warm)) (y := (Sp.mk k ⟨r.tier, r.calls, s.warm, r.failures, r.exits⟩ (.slice (some ⟨b59, 0, none⟩) r.exits.length ecap))) (cl := (spCells (Sp.mk k ⟨r.tier, r.calls, r.count, r.failures, r.exits⟩ (.slice (some ⟨b59, 0, none⟩) r.exits.length ecap)))) hrow24 (hst171.front 4 rfl rfl) ti_3 (pos xs k) (by omega) 4 (by decide) (fun c1 h1 => by rw [hx] at h1; exact h1.1) rfl rfl (tySp_is rfl rfl)
        refine One_skip (i := 11) rfl rfl (Want.plain rfl) (x_store rfl rfl rfl hr213) (fun h => absurd h (by decide +kernel)) ?_
        refine LA_done (by decide +kernel) ?_
        refine W_seq ?_
        refine W_region_draw [] (fun w => Le R (hp w) ∧ Le (one b1 (.cells #[(int k.1), (int k.2)] 43 (0, 0))) (hp w)) hmix (by decide +kernel) (fun _ _ h => h) ?_
        have hst217 := hst215.draws (w212.drawn + 1)
        generalize draws w212 (w212.drawn + 1) = w216 at hst217 ⊢
        refine LP (ptr m 0) 0 rfl rfl rfl (fun u219 => rfl) ⟨hst217.rle', hst217.g 3⟩ ?_
        refine LP (int (((pos xs k) : Nat) : Int)) 1 rfl rfl rfl (fun u222 => rfl) ⟨hst217.rle', hst217.g 3⟩ ?_
        refine LP (int e) 2 rfl rfl rfl (fun u225 => rfl) ⟨hst217.rle', hst217.g 3⟩ ?_
        refine LP (ptr m 0) 6 rfl rfl rfl (fun u230 => rfl) ⟨hst217.rle', hst217.g 3⟩ ?_
        refine LP (ptr m 0) 7 rfl rfl rfl (fun u235 => rfl) ⟨hst217.rle', hst217.g 3⟩ ?_
        refine LP (ptr m 3) 8 rfl rfl rfl (fun u240 => (by kernel_rfl)) ⟨hst217.rle', hst217.g 3⟩ ?_
        refine LA_all [3, 9] (by decide +kernel) (by simp) ?_
        intro i_ hi_
        simp only [List.mem_cons, List.not_mem_nil, or_false] at hi_
        rcases hi_ with rfl | rfl
        ·
         refine One_call (i := 3) rfl rfl rfl (Want.plain rfl) (x_call (vs := #[(int e)]) rfl rfl (by kernel_rfl) ent_42) (Decimal_spec e (by omega) (by omega) (Le.refl _)) ?_
         rintro e249 w247 ⟨rfl, hw250⟩
         have hst248 := hst217.grown hw250
         refine ⟨_, rfl, (fun _ => ⟨hst248.rle', hst248.g 3⟩), ?_⟩
         obtain ⟨t254, ht255⟩ : ∃ t_ : ByteArray, t_ = ⟨#[101, 120, 105, 116, 32]⟩ ++ ((Wd.i e).txt) := ⟨_, rfl⟩
         have ht255z := size_app_le (show ByteArray.size ⟨#[101, 120, 105, 116, 32]⟩ ≤ 100 from by decide) (txt_i_le (n := e) (by constructor <;> omega))
         rw [← ht255] at ht255z
         simp only [Nat.reduceAdd] at ht255z
         refine LP (.string t254) 4 rfl rfl rfl (fun u252 => (by rw [ht255]; exact (x_strcat rfl rfl rfl (room_le (show ByteArray.size ⟨#[101, 120, 105, 116, 32]⟩ ≤ 100 from by decide) (txt_i_le (n := e) (by constructor <;> omega)) (by decide))))) ⟨hst248.rle', hst248.g 3⟩ ?_
         obtain ⟨t259, ht260⟩ : ∃ t_ : ByteArray, t_ = t254 ++ ⟨#[32, 108, 101, 102, 116, 32]⟩ := ⟨_, rfl⟩
         have ht260z := size_app_le ht255z (show ByteArray.size ⟨#[32, 108, 101, 102, 116, 32]⟩ ≤ 100 from by decide)
         rw [← ht260] at ht260z
         simp only [Nat.reduceAdd] at ht260z
         refine LP (.string t259) 5 rfl rfl rfl (fun u257 => (by rw [ht260]; exact (x_strcat rfl rfl rfl (room_le ht255z (show ByteArray.size ⟨#[32, 108, 101, 102, 116, 32]⟩ ≤ 100 from by decide) (by decide))))) ⟨hst248.rle', hst248.g 3⟩ ?_
         refine LA_all [9] (by decide +kernel) (by simp) ?_
         intro i_ hi_
         simp only [List.mem_cons, List.not_mem_nil, or_false] at hi_
         subst hi_
         refine One_val (i := 9) (v := (int s.cold)) rfl rfl rfl (Want.plain rfl) (x_load rfl rfl (run_loadVar_one ti_3 (hst248.b 4) rfl)) (fun _ => ⟨hst248.rle', hst248.g 3⟩) ?_
         refine LA_all [10] (by decide +kernel) (by simp) ?_
         intro i_ hi_
         simp only [List.mem_cons, List.not_mem_nil, or_false] at hi_
         subst hi_
         refine One_call (i := 10) rfl rfl rfl (Want.plain rfl) (x_call (vs := #[(int s.cold)]) rfl rfl (by kernel_rfl) ent_42) (Decimal_spec s.cold (by omega) (by omega) (Le.refl _)) ?_
         rintro e269 w267 ⟨rfl, hw270⟩
         have hst268 := hst248.grown hw270
         refine ⟨_, rfl, (fun _ => ⟨hst268.rle', hst268.g 3⟩), ?_⟩
         obtain ⟨t274, ht275⟩ : ∃ t_ : ByteArray, t_ = t259 ++ ((Wd.i s.cold).txt) := ⟨_, rfl⟩
         have ht275z := size_app_le ht260z (txt_i_le (n := s.cold) (by constructor <;> omega))
         rw [← ht275] at ht275z
         simp only [Nat.reduceAdd] at ht275z
         refine LP (.string t274) 11 rfl rfl rfl (fun u272 => (by rw [ht275]; exact (x_strcat rfl rfl rfl (room_le ht260z (txt_i_le (n := s.cold) (by constructor <;> omega)) (by decide))))) ⟨hst268.rle', hst268.g 3⟩ ?_
         obtain ⟨t279, ht280⟩ : ∃ t_ : ByteArray, t_ = t274 ++ ⟨#[32, 116, 105, 109, 101, 115]⟩ := ⟨_, rfl⟩
         have ht280z := size_app_le ht275z (show ByteArray.size ⟨#[32, 116, 105, 109, 101, 115]⟩ ≤ 100 from by decide)
         rw [← ht280] at ht280z
         simp only [Nat.reduceAdd] at ht280z
         refine LP (.string t279) 12 rfl rfl rfl (fun u277 => (by rw [ht280]; exact (x_strcat rfl rfl rfl (room_le ht275z (show ByteArray.size ⟨#[32, 116, 105, 109, 101, 115]⟩ ≤ 100 from by decide) (by decide))))) ⟨hst268.rle', hst268.g 3⟩ ?_
         refine LA_all [13] (by decide +kernel) (by simp) ?_
         intro i_ hi_
         simp only [List.mem_cons, List.not_mem_nil, or_false] at hi_
         subst hi_
         refine One_call (i := 13) rfl rfl rfl (Want.plain rfl) (x_call (vs := #[(ptr m 0), (int (((pos xs k) : Nat) : Int)), (int 1), (.string t279)]) rfl rfl (by kernel_rfl) ent_50) ?_ (fun _ _ h => h)
         refine calls_of_W (n := 45) Tryd.func50 rfl Tryd.ntmps50 (Nat.le_of_ble_eq_true rfl) ?_
         refine W_seq ?_
         refine W_region_lit ?_
         refine Lq (ptr m 0) rfl rfl rfl rfl ?_
         refine Lq (ptr m 0) rfl rfl rfl rfl ?_
         refine Lq (ptr m 4) rfl rfl rfl (by kernel_rfl) ?_
         refine Lq (.slice (some ⟨b19, 0, none⟩) xs.length cap16) rfl rfl rfl (x_load rfl rfl (run_loadVar_one ti_38 (hst268.b 4) rfl)) ?_
         refine Lq (int (((pos xs k) : Nat) : Int)) rfl rfl rfl rfl ?_
         obtain ⟨cl284, cs285, hr286, hcb287, hsg288⟩ := Row.at hrow214 (pos xs k) (by simp only [List.length_set]; omega)
         rw [List.getElem_set_self] at hr286
         obtain rfl := tySp_open hr286
         refine Lq (ptr b19 (0 + (pos xs k) * 7)) rfl rfl rfl (x_indexAddr' rfl sl_38 ti_96 rfl rfl (by omega)) ?_
         refine Lq (ptr b19 (0 + (pos xs k) * 7 + 5)) rfl rfl rfl (by kernel_rfl) ?_
         refine Lq (int r.failures) rfl rfl rfl (x_load rfl rfl (run_loadVar_one ti_3 ((hst268.g 0) _ _ hcb287) (seg_get (j := 5) hsg288 rfl))) ?_
         refine Lq (int (r.failures + 1)) rfl rfl rfl (x_add rfl rfl rfl (by constructor <;> omega)) ?_
         obtain ⟨cl289, cs290, hr291, hcb292, hsg293⟩ := Row.at hrow214 (pos xs k) (by simp only [List.length_set]; omega)
         rw [List.getElem_set_self] at hr291
         obtain rfl := tySp_open hr291
         refine Lq (ptr b19 (0 + (pos xs k) * 7)) rfl rfl rfl (x_indexAddr' rfl sl_38 ti_96 rfl rfl (by omega)) ?_
         refine Lq (ptr b19 (0 + (pos xs k) * 7 + 5)) rfl rfl rfl (by kernel_rfl) ?_
         obtain ⟨c294, w295, hr296, hrow297, hst298⟩ := Row.storeF (P := Tryd.prog) (v := (int (r.failures + 1))) (y := (Sp.mk k ⟨r.tier, r.calls, s.warm, r.failures + 1, r.exits⟩ (.slice (some ⟨b59, 0, none⟩) r.exits.length ecap))) (cl := (spCells (Sp.mk k ⟨r.tier, r.calls, s.warm, r.failures, r.exits⟩ (.slice (some ⟨b59, 0, none⟩) r.exits.length ecap)))) hrow214 hst268 ti_3 (pos xs k) (by simp only [List.length_set]; omega) 5 (by decide) (fun c1 h1 => by rw [List.getElem_set_self] at h1; exact h1.1) rfl rfl (tySp_is rfl rfl)
         rw [List.set_set] at hrow297
         refine L_skip rfl rfl (x_store rfl rfl rfl hr296) ?_
         refine L_nil ?_
         refine W_seq ?_
         refine W_region_lit ?_
         refine Lq (ptr m 0) rfl rfl rfl rfl ?_
         refine Lq (ptr m 0) rfl rfl rfl rfl ?_
         refine Lq (ptr m 4) rfl rfl rfl (by kernel_rfl) ?_
         refine Lq (.slice (some ⟨b19, 0, none⟩) xs.length cap16) rfl rfl rfl (x_load rfl rfl (run_loadVar_one ti_38 (hst298.b 4) rfl)) ?_
         refine Lq (int (((pos xs k) : Nat) : Int)) rfl rfl rfl rfl ?_
         obtain ⟨cl299, cs300, hr301, hcb302, hsg303⟩ := Row.at hrow297 (pos xs k) (by simp only [List.length_set]; omega)
         rw [List.getElem_set_self] at hr301
         obtain rfl := tySp_open hr301
         refine Lq (ptr b19 (0 + (pos xs k) * 7)) rfl rfl rfl (x_indexAddr' rfl sl_38 ti_96 rfl rfl (by omega)) ?_
         refine Lq (ptr b19 (0 + (pos xs k) * 7 + 6)) rfl rfl rfl (by kernel_rfl) ?_
         obtain ⟨c304, w305, hr306, hrow307, hst308⟩ := Row.storeF (P := Tryd.prog) (v := (.slice none 0 0)) (y := (Sp.mk k ⟨r.tier, r.calls, s.warm, r.failures + 1, []⟩ (.slice none 0 0))) (cl := (spCells (Sp.mk k ⟨r.tier, r.calls, s.warm, r.failures + 1, r.exits⟩ (.slice (some ⟨b59, 0, none⟩) r.exits.length ecap)))) hrow297 hst298 ti_94 (pos xs k) (by simp only [List.length_set]; omega) 6 (by decide) (fun c1 h1 => by rw [List.getElem_set_self] at h1; exact h1.1) rfl rfl (tySp_is rfl rfl)
         rw [List.set_set] at hrow307
         refine L_skip rfl rfl (x_store rfl rfl rfl hr306) ?_
         refine L_nil ?_
         refine W_seq ?_
         refine W_seq ?_
         refine W_region_lit ?_
         refine Lq (ptr m 0) rfl rfl rfl rfl ?_
         refine Lq (ptr m 0) rfl rfl rfl rfl ?_
         refine Lq (ptr m 4) rfl rfl rfl (by kernel_rfl) ?_
         refine Lq (.slice (some ⟨b19, 0, none⟩) xs.length cap16) rfl rfl rfl (x_load rfl rfl (run_loadVar_one ti_38 (hst308.b 4) rfl)) ?_
         refine Lq (int (((pos xs k) : Nat) : Int)) rfl rfl rfl rfl ?_
         obtain ⟨cl309, cs310, hr311, hcb312, hsg313⟩ := Row.at hrow307 (pos xs k) (by simp only [List.length_set]; omega)
         rw [List.getElem_set_self] at hr311
         obtain rfl := tySp_open hr311
         refine Lq (ptr b19 (0 + (pos xs k) * 7)) rfl rfl rfl (x_indexAddr' rfl sl_38 ti_96 rfl rfl (by omega)) ?_
         refine Lq (ptr b19 (0 + (pos xs k) * 7 + 5)) rfl rfl rfl (by kernel_rfl) ?_
         refine Lq (int (r.failures + 1)) rfl rfl rfl (x_load rfl rfl (run_loadVar_one ti_3 ((hst308.g 0) _ _ hcb312) (seg_get (j := 5) hsg313 rfl))) ?_
         refine Lq (.bool ((r.failures + 1) == 3)) rfl rfl rfl (by kernel_rfl) ?_
         refine L_nil ?_
         rcases Bool.eq_false_or_eq_true ((r.failures + 1) == 3) with c314 | c314
         ·
          have q315 := eq_of_beq c314
          refine W_cond_true (by show Value.bool _ = _; exact congrArg Value.bool c314) ?_
          refine W_seq ?_
          refine W_region_lit ?_
          refine Lq (ptr m 0) rfl rfl rfl rfl ?_
          refine Lq (int (((pos xs k) : Nat) : Int)) rfl rfl rfl rfl ?_
          refine Lq (.string t279) rfl rfl rfl rfl ?_
          obtain ⟨t316, ht317⟩ : ∃ t_ : ByteArray, t_ = t279 ++ ⟨#[44, 32, 103, 105, 118, 101, 110, 32, 117, 112]⟩ := ⟨_, rfl⟩
          have ht317z := size_app_le ht280z (show ByteArray.size ⟨#[44, 32, 103, 105, 118, 101, 110, 32, 117, 112]⟩ ≤ 100 from by decide)
          rw [← ht317] at ht317z
          simp only [Nat.reduceAdd] at ht317z
          refine Lq (.string t316) rfl rfl rfl (by rw [ht317]; exact (x_strcat rfl rfl rfl (room_le ht280z (show ByteArray.size ⟨#[44, 32, 103, 105, 118, 101, 110, 32, 117, 112]⟩ ≤ 100 from by decide) (by decide)))) ?_
          refine L_call rfl rfl rfl (x_call (vs := #[(ptr m 0), (int (((pos xs k) : Nat) : Int)), (int (-1)), (.string t316)]) rfl rfl (by kernel_rfl) ent_51) ?_ (fun _ _ h => h)
          refine calls_of_W (n := 36) Tryd.func51 rfl Tryd.ntmps51 (Nat.le_of_ble_eq_true rfl) ?_
          refine W_seq ?_
          refine W_region_lit ?_
          refine Lq (ptr m 0) rfl rfl rfl rfl ?_
          refine Lq (ptr m 0) rfl rfl rfl rfl ?_
          refine Lq (ptr m 4) rfl rfl rfl (by kernel_rfl) ?_
          refine Lq (.slice (some ⟨b19, 0, none⟩) xs.length cap16) rfl rfl rfl (x_load rfl rfl (run_loadVar_one ti_38 (hst308.b 4) rfl)) ?_
          refine Lq (int (((pos xs k) : Nat) : Int)) rfl rfl rfl rfl ?_
          refine Lq (int (-1)) rfl rfl rfl rfl ?_
          obtain ⟨cl318, cs319, hr320, hcb321, hsg322⟩ := Row.at hrow307 (pos xs k) (by simp only [List.length_set]; omega)
          rw [List.getElem_set_self] at hr320
          obtain rfl := tySp_open hr320
          refine Lq (ptr b19 (0 + (pos xs k) * 7)) rfl rfl rfl (x_indexAddr' rfl sl_38 ti_96 rfl rfl (by omega)) ?_
          refine Lq (ptr b19 (0 + (pos xs k) * 7 + 2)) rfl rfl rfl (by kernel_rfl) ?_
          obtain ⟨c323, w324, hr325, hrow326, hst327⟩ := Row.storeF (P := Tryd.prog) (v := (int (-1))) (y := (Sp.mk k ⟨(-1), r.calls, s.warm, r.failures + 1, []⟩ (.slice none 0 0))) (cl := (spCells (Sp.mk k ⟨r.tier, r.calls, s.warm, r.failures + 1, []⟩ (.slice none 0 0)))) hrow307 hst308 ti_3 (pos xs k) (by simp only [List.length_set]; omega) 2 (by decide) (fun c1 h1 => by rw [List.getElem_set_self] at h1; exact h1.1) rfl rfl (tySp_is rfl rfl)
          rw [List.set_set] at hrow326
          refine L_skip rfl rfl (x_store rfl rfl rfl hr325) ?_
          refine L_nil ?_
          refine W_region_draw [20] (fun w => Le R (hp w) ∧ Le c323 (hp w) ∧ Le c99 (hp w) ∧ Le cR (hp w) ∧ Le (one b1 (.cells #[(int k.1), (int k.2)] 43 (0, 0))) (hp w) ∧ Le (one m (.cells #[(int s.sample), (int s.warm), (int s.hot), (int s.cold), (.slice (some ⟨b19, 0, none⟩) xs.length cap16), vD] 41 (0, 0))) (hp w)) hmix (by decide +kernel) (fun _ _ h => h) ?_
          have hst329 := hst327.draws (w324.drawn + 1)
          generalize draws w324 (w324.drawn + 1) = w328 at hst329 ⊢
          refine LP (ptr m 0) 0 rfl rfl rfl (fun u331 => rfl) ⟨hst329.rle', hst329.g 0, hst329.g 1, hst329.g 2, hst329.g 3, hst329.g 4⟩ ?_
          refine LP (ptr m 0) 1 rfl rfl rfl (fun u334 => rfl) ⟨hst329.rle', hst329.g 0, hst329.g 1, hst329.g 2, hst329.g 3, hst329.g 4⟩ ?_
          refine LP (ptr m 0) 2 rfl rfl rfl (fun u337 => rfl) ⟨hst329.rle', hst329.g 0, hst329.g 1, hst329.g 2, hst329.g 3, hst329.g 4⟩ ?_
          refine LP (ptr m 5) 3 rfl rfl rfl (fun u340 => (by kernel_rfl)) ⟨hst329.rle', hst329.g 0, hst329.g 1, hst329.g 2, hst329.g 3, hst329.g 4⟩ ?_
          refine LT vD 4 rfl rfl rfl (fun u343 hF344 => (x_load rfl rfl (run_loadVar_one ti_39 (hF344.2.2.2.2.2 _ _ (one_self _ _)) rfl))) ⟨hst329.rle', hst329.g 0, hst329.g 1, hst329.g 2, hst329.g 3, hst329.g 4⟩ ?_
          refine LP (ptr m 0) 5 rfl rfl rfl (fun u346 => rfl) ⟨hst329.rle', hst329.g 0, hst329.g 1, hst329.g 2, hst329.g 3, hst329.g 4⟩ ?_
          refine LP (ptr m 0) 6 rfl rfl rfl (fun u349 => rfl) ⟨hst329.rle', hst329.g 0, hst329.g 1, hst329.g 2, hst329.g 3, hst329.g 4⟩ ?_
          refine LP (ptr m 4) 7 rfl rfl rfl (fun u352 => (by kernel_rfl)) ⟨hst329.rle', hst329.g 0, hst329.g 1, hst329.g 2, hst329.g 3, hst329.g 4⟩ ?_
          refine LT (.slice (some ⟨b19, 0, none⟩) xs.length cap16) 8 rfl rfl rfl (fun u355 hF356 => (x_load rfl rfl (run_loadVar_one ti_38 (hF356.2.2.2.2.2 _ _ (one_self _ _)) rfl))) ⟨hst329.rle', hst329.g 0, hst329.g 1, hst329.g 2, hst329.g 3, hst329.g 4⟩ ?_
          refine LP (int (((pos xs k) : Nat) : Int)) 9 rfl rfl rfl (fun u358 => rfl) ⟨hst329.rle', hst329.g 0, hst329.g 1, hst329.g 2, hst329.g 3, hst329.g 4⟩ ?_
          obtain ⟨cl363, cs364, hr365, hcb366, hsg367⟩ := Row.at hrow326 (pos xs k) (by simp only [List.length_set]; omega)
          rw [List.getElem_set_self] at hr365
          obtain rfl := tySp_open hr365
          refine LP (ptr b19 (0 + (pos xs k) * 7)) 10 rfl rfl rfl (fun u361 => (x_indexAddr' rfl sl_38 ti_96 rfl rfl (by omega))) ⟨hst329.rle', hst329.g 0, hst329.g 1, hst329.g 2, hst329.g 3, hst329.g 4⟩ ?_
          refine LP (ptr b19 (0 + (pos xs k) * 7)) 11 rfl rfl rfl (fun u369 => (by kernel_rfl)) ⟨hst329.rle', hst329.g 0, hst329.g 1, hst329.g 2, hst329.g 3, hst329.g 4⟩ ?_
          refine LT (.agg #[(int k.1), (int k.2)]) 12 rfl rfl rfl (fun u372 hF373 => (x_load rfl rfl (run_loadVar_agg ti_43 (hF373.2.1 _ _ hcb366) (seg_part hsg367 0 2 rfl rfl) rfl))) ⟨hst329.rle', hst329.g 0, hst329.g 1, hst329.g 2, hst329.g 3, hst329.g 4⟩ ?_
          refine LP (int (-1)) 13 rfl rfl rfl (fun u375 => rfl) ⟨hst329.rle', hst329.g 0, hst329.g 1, hst329.g 2, hst329.g 3, hst329.g 4⟩ ?_
          refine LP (.string t316) 14 rfl rfl rfl (fun u378 => rfl) ⟨hst329.rle', hst329.g 0, hst329.g 1, hst329.g 2, hst329.g 3, hst329.g 4⟩ ?_
          refine LP (.agg #[(int k.1), (int k.2), (int (-1)), (.string t316)]) 15 rfl rfl rfl (fun u381 => (by kernel_rfl)) ⟨hst329.rle', hst329.g 0, hst329.g 1, hst329.g 2, hst329.g 3, hst329.g 4⟩ ?_
          refine LA_all [16] (by decide +kernel) (by simp) ?_
          intro i_ hi_
          simp only [List.mem_cons, List.not_mem_nil, or_false] at hi_
          subst hi_
          refine One_new hst329 (i := 16) (v := fun b => .slice (some ⟨b, 0, none⟩) 1 1) (ob := .cells #[(int k.1), (int k.2), (int (-1)), (.string t316)] 99 (0, 0)) rfl rfl rfl (Want.plain rfl) (by kernel_rfl) (fun b386 w387 hst388 => ?_)
          refine ⟨(fun _ => ⟨hst388.rle', hst388.g 1, hst388.g 2, hst388.g 3, hst388.g 4, hst388.g 5⟩), ?_⟩
          refine LA_all [17] (by decide +kernel) (by simp) ?_
          intro i_ hi_
          simp only [List.mem_cons, List.not_mem_nil, or_false] at hi_
          subst hi_
          refine One_append (j := 17) hst388 (t := 39) (e := 99) (ys := [Dec.mk k (-1) t316]) (src := [(int k.1), (int k.2), (int (-1)), (.string t316)]) 6 rfl rfl rfl (Want.plain rfl) rfl rfl rfl sl_39 ti_99 rfl rfl rfl hD (src_own (hst388.b 0)) (Encs.one (tyDec_mk _ _ _ _ _)) rfl (by first | omega | (simp only [List.length_append, List.length_cons, List.length_nil]; omega)) (by first | (simp only [maxLen]; omega) | (simp only [List.length_append, List.length_cons, List.length_nil, maxLen]; omega)) (fun v392 c393 w394 ho395 hst396 => ?_)
          refine ⟨(fun _ => ⟨hst396.rle', hst396.g 2, hst396.g 3, hst396.g 4, hst396.g 5, hst396.g 6⟩), ?_⟩
          refine LP (ptr m 0) 18 rfl rfl rfl (fun u398 => rfl) ⟨hst396.rle', hst396.g 2, hst396.g 3, hst396.g 4, hst396.g 5, hst396.g 6⟩ ?_
          refine LP (ptr m 5) 19 rfl rfl rfl (fun u401 => (by kernel_rfl)) ⟨hst396.rle', hst396.g 2, hst396.g 3, hst396.g 4, hst396.g 5, hst396.g 6⟩ ?_
          refine LA_all [20] (by decide +kernel) (by simp) ?_
          intro i_ hi_
          simp only [List.mem_cons, List.not_mem_nil, or_false] at hi_
          subst hi_
          obtain ⟨a404, cap405, e406, hc407⟩ := ho395.value
          subst e406
          obtain ⟨w408, hr410, hst409⟩ := run_storeW (P := Tryd.prog) (b := m) (off := 5) (v := (.slice a404 ((s.decs ++ [Dec.mk k (-1) t316]).length) cap405)) hst396 6 ti_39 rfl rfl rfl rfl rfl rfl
          change Step _ _ _ _ _ [c393, one b386 (.cells #[(int k.1), (int k.2), (int (-1)), (.string t316)] 99 (0, 0)), c323, c99, cR, one b1 (.cells #[(int k.1), (int k.2)] 43 (0, 0)), one m (.cells #[(int s.sample), (int s.warm), (int s.hot), (int s.cold), (.slice (some ⟨b19, 0, none⟩) xs.length cap16), (.slice a404 ((s.decs ++ [Dec.mk k (-1) t316]).length) cap405)] 41 (0, 0))] at hst409
          refine One_skip (i := 20) rfl rfl (Want.plain rfl) (x_store rfl rfl rfl hr410) (fun h => absurd h (by decide +kernel)) ?_
          refine LA_done (by decide +kernel) ?_
          refine ⟨_, _, res_run (rs := []) (vs := []) Tryd.results51 .nil rfl, ?_⟩
          refine ⟨_, rfl, ?_⟩
          refine L_nil ?_
          refine W_ret ?_
          refine ⟨_, _, res_run (rs := []) (vs := []) Tryd.results50 .nil rfl, ?_⟩
          refine ⟨_, rfl, (fun _ => ⟨hst409.rle', hst409.g 5⟩), ?_⟩
          refine LA_done (by decide +kernel) ?_
          refine W_seq ?_
          refine W_region_lit ?_
          refine Lq (.bool true) rfl rfl rfl rfl ?_
          refine L_nil ?_
          refine W_ret ?_
          refine ⟨_, _, res_run (rs := [.tmp 6]) (vs := [(.bool true)]) Tryd.results31 (.cons (.tmp rfl) .nil) hmk38, ?_⟩
          have he := left_back (s := s) hgr (by simpa using c32) (of_decide_eq_false c35) (by rw [hgd]; simpa using of_decide_eq_false c167)
          rw [he]
          have hro2 : Rec.Ok s.n r := hro
          have he2 := setBack_up (s := s) (k := k) (t := 1) (l := [Wd.s wExit, Wd.i e, Wd.s wLeft, Wd.i s.cold, Wd.s wTimes]) (r := { r with exits := AL.set r.exits e ((AL.get r.exits e).getD 0 + 1), count := s.warm }) (eq_of_beq c314)
          have hok2 := hok.setBack (k := k) (t := 1) (ex := AL.set r.exits e ((AL.get r.exits e).getD 0 + 1)) (c := s.warm) (l := [Wd.s wExit, Wd.i e, Wd.s wLeft, Wd.i s.cold, Wd.s wTimes]) hro2 (by constructor <;> omega) (by decide) (Sm5 (Sm_s (by decide)) (Sm_i (by constructor <;> omega)) (Sm_s (by decide)) (Sm_i (by constructor <;> omega)) (Sm_s (by decide))) (Nat.le_of_ble_eq_true rfl)
          rw [show s.setBack k { r with exits := AL.set r.exits e ((AL.get r.exits e).getD 0 + 1), count := s.warm } 1 [Wd.s wExit, Wd.i e, Wd.s wLeft, Wd.i s.cold, Wd.s wTimes] = _ from he2] at hok2
          rw [he2]
          obtain ⟨c', hst', href'⟩ := RefP.close (s := s.decide k ⟨r.tier, r.calls, s.warm, r.failures + 1, []⟩ (-1) (joinW [Wd.s (joinW [Wd.s wExit, Wd.i e, Wd.s wLeft, Wd.i s.cold, Wd.s wTimes] ++ wGiven)])) (xs := (List.set xs (pos xs k) (Sp.mk k ⟨(-1), r.calls, s.warm, r.failures + 1, []⟩ (.slice none 0 0)))) (((hst409.front 4 rfl rfl).front 3 rfl rfl).front 6 rfl rfl) (hback25 R (List.set xs (pos xs k) (Sp.mk k ⟨(-1), r.calls, s.warm, r.failures + 1, []⟩ (.slice none 0 0))) c323 (by first | rfl | (simp only [List.length_set]; done) | (simp only [List.length_set]; omega) | omega) hrow326) (by have h_ := hback R (Sp.mk k ⟨(-1), r.calls, s.warm, r.failures + 1, []⟩ (.slice none 0 0)) non (Le.refl _) (OwnL.empty _ _ _) (fun b => .inl rfl); rw [non_uni] at h_; exact h_) (Eq.mp (congrArg (fun l_ => OwnL tyDec 99 R (.slice a404 ((s.decs ++ [Dec.mk k (-1) t316]).length) cap405) l_ c393) (show (s.decs ++ [Dec.mk k (-1) t316]) = (s.decide k ⟨r.tier, r.calls, s.warm, r.failures + 1, []⟩ (-1) (joinW [Wd.s (joinW [Wd.s wExit, Wd.i e, Wd.s wLeft, Wd.i s.cold, Wd.s wTimes] ++ wGiven)])).decs from congrArg (fun t_ => s.decs ++ [Dec.mk k (-1) t_]) (by rw [ht317, ht280, ht275, ht260, ht255, (dec_exit _ _)]; exact dec_given))) ho395) (hset (Sp.mk k ⟨(-1), r.calls, s.warm, r.failures + 1, []⟩ (.slice none 0 0)) rfl).1 (Agr.decide (r := ⟨r.tier, r.calls, s.warm, r.failures + 1, []⟩) (hset (Sp.mk k ⟨(-1), r.calls, s.warm, r.failures + 1, []⟩ (.slice none 0 0)) rfl).2 hag) (by simp only [List.length_set]; show _ ≤ s.n + 1; omega) hok2
          exact ⟨_, _, _, rfl, hst'.keepN 1 rfl, c', rfl, rfl, href'⟩
         ·
          have q411 := ne_of_beq_false c314
          refine W_cond_false (by show Value.bool _ = _; exact congrArg Value.bool c314) ?_
          refine W_skip ?_
          refine W_region_lit ?_
          refine Lq (ptr m 0) rfl rfl rfl rfl ?_
          refine Lq (int (((pos xs k) : Nat) : Int)) rfl rfl rfl rfl ?_
          refine Lq (int 1) rfl rfl rfl rfl ?_
          refine Lq (.string t279) rfl rfl rfl rfl ?_
          refine L_call rfl rfl rfl (x_call (vs := #[(ptr m 0), (int (((pos xs k) : Nat) : Int)), (int 1), (.string t279)]) rfl rfl (by kernel_rfl) ent_51) ?_ (fun _ _ h => h)
          refine calls_of_W (n := 36) Tryd.func51 rfl Tryd.ntmps51 (Nat.le_of_ble_eq_true rfl) ?_
          refine W_seq ?_
          refine W_region_lit ?_
          refine Lq (ptr m 0) rfl rfl rfl rfl ?_
          refine Lq (ptr m 0) rfl rfl rfl rfl ?_
          refine Lq (ptr m 4) rfl rfl rfl (by kernel_rfl) ?_
          refine Lq (.slice (some ⟨b19, 0, none⟩) xs.length cap16) rfl rfl rfl (x_load rfl rfl (run_loadVar_one ti_38 (hst308.b 4) rfl)) ?_
          refine Lq (int (((pos xs k) : Nat) : Int)) rfl rfl rfl rfl ?_
          refine Lq (int 1) rfl rfl rfl rfl ?_
          obtain ⟨cl412, cs413, hr414, hcb415, hsg416⟩ := Row.at hrow307 (pos xs k) (by simp only [List.length_set]; omega)
          rw [List.getElem_set_self] at hr414
          obtain rfl := tySp_open hr414
          refine Lq (ptr b19 (0 + (pos xs k) * 7)) rfl rfl rfl (x_indexAddr' rfl sl_38 ti_96 rfl rfl (by omega)) ?_
          refine Lq (ptr b19 (0 + (pos xs k) * 7 + 2)) rfl rfl rfl (by kernel_rfl) ?_
          obtain ⟨c417, w418, hr419, hrow420, hst421⟩ := Row.storeF (P := Tryd.prog) (v := (int 1)) (y := (Sp.mk k ⟨1, r.calls, s.warm, r.failures + 1, []⟩ (.slice none 0 0))) (cl := (spCells (Sp.mk k ⟨r.tier, r.calls, s.warm, r.failures + 1, []⟩ (.slice none 0 0)))) hrow307 hst308 ti_3 (pos xs k) (by simp only [List.length_set]; omega) 2 (by decide) (fun c1 h1 => by rw [List.getElem_set_self] at h1; exact h1.1) rfl rfl (tySp_is rfl rfl)
          rw [List.set_set] at hrow420
          refine L_skip rfl rfl (x_store rfl rfl rfl hr419) ?_
          refine L_nil ?_
          refine W_region_draw [20] (fun w => Le R (hp w) ∧ Le c417 (hp w) ∧ Le c99 (hp w) ∧ Le cR (hp w) ∧ Le (one b1 (.cells #[(int k.1), (int k.2)] 43 (0, 0))) (hp w) ∧ Le (one m (.cells #[(int s.sample), (int s.warm), (int s.hot), (int s.cold), (.slice (some ⟨b19, 0, none⟩) xs.length cap16), vD] 41 (0, 0))) (hp w)) hmix (by decide +kernel) (fun _ _ h => h) ?_
          have hst423 := hst421.draws (w418.drawn + 1)
          generalize draws w418 (w418.drawn + 1) = w422 at hst423 ⊢
          refine LP (ptr m 0) 0 rfl rfl rfl (fun u425 => rfl) ⟨hst423.rle', hst423.g 0, hst423.g 1, hst423.g 2, hst423.g 3, hst423.g 4⟩ ?_
          refine LP (ptr m 0) 1 rfl rfl rfl (fun u428 => rfl) ⟨hst423.rle', hst423.g 0, hst423.g 1, hst423.g 2, hst423.g 3, hst423.g 4⟩ ?_
          refine LP (ptr m 0) 2 rfl rfl rfl (fun u431 => rfl) ⟨hst423.rle', hst423.g 0, hst423.g 1, hst423.g 2, hst423.g 3, hst423.g 4⟩ ?_
          refine LP (ptr m 5) 3 rfl rfl rfl (fun u434 => (by kernel_rfl)) ⟨hst423.rle', hst423.g 0, hst423.g 1, hst423.g 2, hst423.g 3, hst423.g 4⟩ ?_
          refine LT vD 4 rfl rfl rfl (fun u437 hF438 => (x_load rfl rfl (run_loadVar_one ti_39 (hF438.2.2.2.2.2 _ _ (one_self _ _)) rfl))) ⟨hst423.rle', hst423.g 0, hst423.g 1, hst423.g 2, hst423.g 3, hst423.g 4⟩ ?_
          refine LP (ptr m 0) 5 rfl rfl rfl (fun u440 => rfl) ⟨hst423.rle', hst423.g 0, hst423.g 1, hst423.g 2, hst423.g 3, hst423.g 4⟩ ?_
          refine LP (ptr m 0) 6 rfl rfl rfl (fun u443 => rfl) ⟨hst423.rle', hst423.g 0, hst423.g 1, hst423.g 2, hst423.g 3, hst423.g 4⟩ ?_
          refine LP (ptr m 4) 7 rfl rfl rfl (fun u446 => (by kernel_rfl)) ⟨hst423.rle', hst423.g 0, hst423.g 1, hst423.g 2, hst423.g 3, hst423.g 4⟩ ?_
          refine LT (.slice (some ⟨b19, 0, none⟩) xs.length cap16) 8 rfl rfl rfl (fun u449 hF450 => (x_load rfl rfl (run_loadVar_one ti_38 (hF450.2.2.2.2.2 _ _ (one_self _ _)) rfl))) ⟨hst423.rle', hst423.g 0, hst423.g 1, hst423.g 2, hst423.g 3, hst423.g 4⟩ ?_
          refine LP (int (((pos xs k) : Nat) : Int)) 9 rfl rfl rfl (fun u452 => rfl) ⟨hst423.rle', hst423.g 0, hst423.g 1, hst423.g 2, hst423.g 3, hst423.g 4⟩ ?_
          obtain ⟨cl457, cs458, hr459, hcb460, hsg461⟩ := Row.at hrow420 (pos xs k) (by simp only [List.length_set]; omega)
          rw [List.getElem_set_self] at hr459
          obtain rfl := tySp_open hr459
          refine LP (ptr b19 (0 + (pos xs k) * 7)) 10 rfl rfl rfl (fun u455 => (x_indexAddr' rfl sl_38 ti_96 rfl rfl (by omega))) ⟨hst423.rle', hst423.g 0, hst423.g 1, hst423.g 2, hst423.g 3, hst423.g 4⟩ ?_
          refine LP (ptr b19 (0 + (pos xs k) * 7)) 11 rfl rfl rfl (fun u463 => (by kernel_rfl)) ⟨hst423.rle', hst423.g 0, hst423.g 1, hst423.g 2, hst423.g 3, hst423.g 4⟩ ?_
          refine LT (.agg #[(int k.1), (int k.2)]) 12 rfl rfl rfl (fun u466 hF467 => (x_load rfl rfl (run_loadVar_agg ti_43 (hF467.2.1 _ _ hcb460) (seg_part hsg461 0 2 rfl rfl) rfl))) ⟨hst423.rle', hst423.g 0, hst423.g 1, hst423.g 2, hst423.g 3, hst423.g 4⟩ ?_
          refine LP (int 1) 13 rfl rfl rfl (fun u469 => rfl) ⟨hst423.rle', hst423.g 0, hst423.g 1, hst423.g 2, hst423.g 3, hst423.g 4⟩ ?_
          refine LP (.string t279) 14 rfl rfl rfl (fun u472 => rfl) ⟨hst423.rle', hst423.g 0, hst423.g 1, hst423.g 2, hst423.g 3, hst423.g 4⟩ ?_
          refine LP (.agg #[(int k.1), (int k.2), (int 1), (.string t279)]) 15 rfl rfl rfl (fun u475 => (by kernel_rfl)) ⟨hst423.rle', hst423.g 0, hst423.g 1, hst423.g 2, hst423.g 3, hst423.g 4⟩ ?_
          refine LA_all [16] (by decide +kernel) (by simp) ?_
          intro i_ hi_
          simp only [List.mem_cons, List.not_mem_nil, or_false] at hi_
          subst hi_
          refine One_new hst423 (i := 16) (v := fun b => .slice (some ⟨b, 0, none⟩) 1 1) (ob := .cells #[(int k.1), (int k.2), (int 1), (.string t279)] 99 (0, 0)) rfl rfl rfl (Want.plain rfl) (by kernel_rfl) (fun b480 w481 hst482 => ?_)
          refine ⟨(fun _ => ⟨hst482.rle', hst482.g 1, hst482.g 2, hst482.g 3, hst482.g 4, hst482.g 5⟩), ?_⟩
          refine LA_all [17] (by decide +kernel) (by simp) ?_
          intro i_ hi_
          simp only [List.mem_cons, List.not_mem_nil, or_false] at hi_
          subst hi_
          refine One_append (j := 17) hst482 (t := 39) (e := 99) (ys := [Dec.mk k 1 t279]) (src := [(int k.1), (int k.2), (int 1), (.string t279)]) 6 rfl rfl rfl (Want.plain rfl) rfl rfl rfl sl_39 ti_99 rfl rfl rfl hD (src_own (hst482.b 0)) (Encs.one (tyDec_mk _ _ _ _ _)) rfl (by first | omega | (simp only [List.length_append, List.length_cons, List.length_nil]; omega)) (by first | (simp only [maxLen]; omega) | (simp only [List.length_append, List.length_cons, List.length_nil, maxLen]; omega)) (fun v486 c487 w488 ho489 hst490 => ?_)
          refine ⟨(fun _ => ⟨hst490.rle', hst490.g 2, hst490.g 3, hst490.g 4, hst490.g 5, hst490.g 6⟩), ?_⟩
          refine LP (ptr m 0) 18 rfl rfl rfl (fun u492 => rfl) ⟨hst490.rle', hst490.g 2, hst490.g 3, hst490.g 4, hst490.g 5, hst490.g 6⟩ ?_
          refine LP (ptr m 5) 19 rfl rfl rfl (fun u495 => (by kernel_rfl)) ⟨hst490.rle', hst490.g 2, hst490.g 3, hst490.g 4, hst490.g 5, hst490.g 6⟩ ?_
          refine LA_all [20] (by decide +kernel) (by simp) ?_
          intro i_ hi_
          simp only [List.mem_cons, List.not_mem_nil, or_false] at hi_
          subst hi_
          obtain ⟨a498, cap499, e500, hc501⟩ := ho489.value
          subst e500
          obtain ⟨w502, hr504, hst503⟩ := run_storeW (P := Tryd.prog) (b := m) (off := 5) (v := (.slice a498 ((s.decs ++ [Dec.mk k 1 t279]).length) cap499)) hst490 6 ti_39 rfl rfl rfl rfl rfl rfl
          change Step _ _ _ _ _ [c487, one b480 (.cells #[(int k.1), (int k.2), (int 1), (.string t279)] 99 (0, 0)), c417, c99, cR, one b1 (.cells #[(int k.1), (int k.2)] 43 (0, 0)), one m (.cells #[(int s.sample), (int s.warm), (int s.hot), (int s.cold), (.slice (some ⟨b19, 0, none⟩) xs.length cap16), (.slice a498 ((s.decs ++ [Dec.mk k 1 t279]).length) cap499)] 41 (0, 0))] at hst503
          refine One_skip (i := 20) rfl rfl (Want.plain rfl) (x_store rfl rfl rfl hr504) (fun h => absurd h (by decide +kernel)) ?_
          refine LA_done (by decide +kernel) ?_
          refine ⟨_, _, res_run (rs := []) (vs := []) Tryd.results51 .nil rfl, ?_⟩
          refine ⟨_, rfl, ?_⟩
          refine L_nil ?_
          refine ⟨_, _, res_run (rs := []) (vs := []) Tryd.results50 .nil rfl, ?_⟩
          refine ⟨_, rfl, (fun _ => ⟨hst503.rle', hst503.g 5⟩), ?_⟩
          refine LA_done (by decide +kernel) ?_
          refine W_seq ?_
          refine W_region_lit ?_
          refine Lq (.bool true) rfl rfl rfl rfl ?_
          refine L_nil ?_
          refine W_ret ?_
          refine ⟨_, _, res_run (rs := [.tmp 6]) (vs := [(.bool true)]) Tryd.results31 (.cons (.tmp rfl) .nil) hmk38, ?_⟩
          have he := left_back (s := s) hgr (by simpa using c32) (of_decide_eq_false c35) (by rw [hgd]; simpa using of_decide_eq_false c167)
          rw [he]
          have hro2 : Rec.Ok s.n r := hro
          have he2 := setBack_on (s := s) (k := k) (t := 1) (l := [Wd.s wExit, Wd.i e, Wd.s wLeft, Wd.i s.cold, Wd.s wTimes]) (r := { r with exits := AL.set r.exits e ((AL.get r.exits e).getD 0 + 1), count := s.warm }) (ne_of_beq_false c314)
          have hok2 := hok.setBack (k := k) (t := 1) (ex := AL.set r.exits e ((AL.get r.exits e).getD 0 + 1)) (c := s.warm) (l := [Wd.s wExit, Wd.i e, Wd.s wLeft, Wd.i s.cold, Wd.s wTimes]) hro2 (by constructor <;> omega) (by decide) (Sm5 (Sm_s (by decide)) (Sm_i (by constructor <;> omega)) (Sm_s (by decide)) (Sm_i (by constructor <;> omega)) (Sm_s (by decide))) (Nat.le_of_ble_eq_true rfl)
          rw [show s.setBack k { r with exits := AL.set r.exits e ((AL.get r.exits e).getD 0 + 1), count := s.warm } 1 [Wd.s wExit, Wd.i e, Wd.s wLeft, Wd.i s.cold, Wd.s wTimes] = _ from he2] at hok2
          rw [he2]
          obtain ⟨c', hst', href'⟩ := RefP.close (s := s.decide k ⟨r.tier, r.calls, s.warm, r.failures + 1, []⟩ 1 (joinW [Wd.s (joinW [Wd.s wExit, Wd.i e, Wd.s wLeft, Wd.i s.cold, Wd.s wTimes])])) (xs := (List.set xs (pos xs k) (Sp.mk k ⟨1, r.calls, s.warm, r.failures + 1, []⟩ (.slice none 0 0)))) (((hst503.front 4 rfl rfl).front 3 rfl rfl).front 6 rfl rfl) (hback25 R (List.set xs (pos xs k) (Sp.mk k ⟨1, r.calls, s.warm, r.failures + 1, []⟩ (.slice none 0 0))) c417 (by first | rfl | (simp only [List.length_set]; done) | (simp only [List.length_set]; omega) | omega) hrow420) (by have h_ := hback R (Sp.mk k ⟨1, r.calls, s.warm, r.failures + 1, []⟩ (.slice none 0 0)) non (Le.refl _) (OwnL.empty _ _ _) (fun b => .inl rfl); rw [non_uni] at h_; exact h_) (Eq.mp (congrArg (fun l_ => OwnL tyDec 99 R (.slice a498 ((s.decs ++ [Dec.mk k 1 t279]).length) cap499) l_ c487) (show (s.decs ++ [Dec.mk k 1 t279]) = (s.decide k ⟨r.tier, r.calls, s.warm, r.failures + 1, []⟩ 1 (joinW [Wd.s (joinW [Wd.s wExit, Wd.i e, Wd.s wLeft, Wd.i s.cold, Wd.s wTimes])])).decs from congrArg (fun t_ => s.decs ++ [Dec.mk k 1 t_]) (by rw [ht280, ht275, ht260, ht255]; exact (dec_exit _ _).trans (joinW1 _).symm))) ho489) (hset (Sp.mk k ⟨1, r.calls, s.warm, r.failures + 1, []⟩ (.slice none 0 0)) rfl).1 (Agr.decide (r := ⟨r.tier, r.calls, s.warm, r.failures + 1, []⟩) (hset (Sp.mk k ⟨1, r.calls, s.warm, r.failures + 1, []⟩ (.slice none 0 0)) rfl).2 hag) (by simp only [List.length_set]; show _ ≤ s.n + 1; omega) hok2
          exact ⟨_, _, _, rfl, hst'.keepN 1 rfl, c', rfl, rfl, href'⟩
        ·
         refine One_val (i := 9) (v := (int s.cold)) rfl rfl rfl (Want.plain rfl) (x_load rfl rfl (run_loadVar_one ti_3 (hst217.b 4) rfl)) (fun _ => ⟨hst217.rle', hst217.g 3⟩) ?_
         refine LA_all [3] (by decide +kernel) (by simp) ?_
         intro i_ hi_
         simp only [List.mem_cons, List.not_mem_nil, or_false] at hi_
         subst hi_
         refine One_call (i := 3) rfl rfl rfl (Want.plain rfl) (x_call (vs := #[(int e)]) rfl rfl (by kernel_rfl) ent_42) (Decimal_spec e (by omega) (by omega) (Le.refl _)) ?_
         rintro e510 w508 ⟨rfl, hw511⟩
         have hst509 := hst217.grown hw511
         refine ⟨_, rfl, (fun _ => ⟨hst509.rle', hst509.g 3⟩), ?_⟩
         obtain ⟨t515, ht516⟩ : ∃ t_ : ByteArray, t_ = ⟨#[101, 120, 105, 116, 32]⟩ ++ ((Wd.i e).txt) := ⟨_, rfl⟩
         have ht516z := size_app_le (show ByteArray.size ⟨#[101, 120, 105, 116, 32]⟩ ≤ 100 from by decide) (txt_i_le (n := e) (by constructor <;> omega))
         rw [← ht516] at ht516z
         simp only [Nat.reduceAdd] at ht516z
         refine LP (.string t515) 4 rfl rfl rfl (fun u513 => (by rw [ht516]; exact (x_strcat rfl rfl rfl (room_le (show ByteArray.size ⟨#[101, 120, 105, 116, 32]⟩ ≤ 100 from by decide) (txt_i_le (n := e) (by constructor <;> omega)) (by decide))))) ⟨hst509.rle', hst509.g 3⟩ ?_
         obtain ⟨t520, ht521⟩ : ∃ t_ : ByteArray, t_ = t515 ++ ⟨#[32, 108, 101, 102, 116, 32]⟩ := ⟨_, rfl⟩
         have ht521z := size_app_le ht516z (show ByteArray.size ⟨#[32, 108, 101, 102, 116, 32]⟩ ≤ 100 from by decide)
         rw [← ht521] at ht521z
         simp only [Nat.reduceAdd] at ht521z
         refine LP (.string t520) 5 rfl rfl rfl (fun u518 => (by rw [ht521]; exact (x_strcat rfl rfl rfl (room_le ht516z (show ByteArray.size ⟨#[32, 108, 101, 102, 116, 32]⟩ ≤ 100 from by decide) (by decide))))) ⟨hst509.rle', hst509.g 3⟩ ?_
         refine LA_all [10] (by decide +kernel) (by simp) ?_
         intro i_ hi_
         simp only [List.mem_cons, List.not_mem_nil, or_false] at hi_
         subst hi_
         refine One_call (i := 10) rfl rfl rfl (Want.plain rfl) (x_call (vs := #[(int s.cold)]) rfl rfl (by kernel_rfl) ent_42) (Decimal_spec s.cold (by omega) (by omega) (Le.refl _)) ?_
         rintro e527 w525 ⟨rfl, hw528⟩
         have hst526 := hst509.grown hw528
         refine ⟨_, rfl, (fun _ => ⟨hst526.rle', hst526.g 3⟩), ?_⟩
         obtain ⟨t532, ht533⟩ : ∃ t_ : ByteArray, t_ = t520 ++ ((Wd.i s.cold).txt) := ⟨_, rfl⟩
         have ht533z := size_app_le ht521z (txt_i_le (n := s.cold) (by constructor <;> omega))
         rw [← ht533] at ht533z
         simp only [Nat.reduceAdd] at ht533z
         refine LP (.string t532) 11 rfl rfl rfl (fun u530 => (by rw [ht533]; exact (x_strcat rfl rfl rfl (room_le ht521z (txt_i_le (n := s.cold) (by constructor <;> omega)) (by decide))))) ⟨hst526.rle', hst526.g 3⟩ ?_
         obtain ⟨t537, ht538⟩ : ∃ t_ : ByteArray, t_ = t532 ++ ⟨#[32, 116, 105, 109, 101, 115]⟩ := ⟨_, rfl⟩
         have ht538z := size_app_le ht533z (show ByteArray.size ⟨#[32, 116, 105, 109, 101, 115]⟩ ≤ 100 from by decide)
         rw [← ht538] at ht538z
         simp only [Nat.reduceAdd] at ht538z
         refine LP (.string t537) 12 rfl rfl rfl (fun u535 => (by rw [ht538]; exact (x_strcat rfl rfl rfl (room_le ht533z (show ByteArray.size ⟨#[32, 116, 105, 109, 101, 115]⟩ ≤ 100 from by decide) (by decide))))) ⟨hst526.rle', hst526.g 3⟩ ?_
         refine LA_all [13] (by decide +kernel) (by simp) ?_
         intro i_ hi_
         simp only [List.mem_cons, List.not_mem_nil, or_false] at hi_
         subst hi_
         refine One_call (i := 13) rfl rfl rfl (Want.plain rfl) (x_call (vs := #[(ptr m 0), (int (((pos xs k) : Nat) : Int)), (int 1), (.string t537)]) rfl rfl (by kernel_rfl) ent_50) ?_ (fun _ _ h => h)
         refine calls_of_W (n := 45) Tryd.func50 rfl Tryd.ntmps50 (Nat.le_of_ble_eq_true rfl) ?_
         refine W_seq ?_
         refine W_region_lit ?_
         refine Lq (ptr m 0) rfl rfl rfl rfl ?_
         refine Lq (ptr m 0) rfl rfl rfl rfl ?_
         refine Lq (ptr m 4) rfl rfl rfl (by kernel_rfl) ?_
         refine Lq (.slice (some ⟨b19, 0, none⟩) xs.length cap16) rfl rfl rfl (x_load rfl rfl (run_loadVar_one ti_38 (hst526.b 4) rfl)) ?_
         refine Lq (int (((pos xs k) : Nat) : Int)) rfl rfl rfl rfl ?_
         obtain ⟨cl542, cs543, hr544, hcb545, hsg546⟩ := Row.at hrow214 (pos xs k) (by simp only [List.length_set]; omega)
         rw [List.getElem_set_self] at hr544
         obtain rfl := tySp_open hr544
         refine Lq (ptr b19 (0 + (pos xs k) * 7)) rfl rfl rfl (x_indexAddr' rfl sl_38 ti_96 rfl rfl (by omega)) ?_
         refine Lq (ptr b19 (0 + (pos xs k) * 7 + 5)) rfl rfl rfl (by kernel_rfl) ?_
         refine Lq (int r.failures) rfl rfl rfl (x_load rfl rfl (run_loadVar_one ti_3 ((hst526.g 0) _ _ hcb545) (seg_get (j := 5) hsg546 rfl))) ?_
         refine Lq (int (r.failures + 1)) rfl rfl rfl (x_add rfl rfl rfl (by constructor <;> omega)) ?_
         obtain ⟨cl547, cs548, hr549, hcb550, hsg551⟩ := Row.at hrow214 (pos xs k) (by simp only [List.length_set]; omega)
         rw [List.getElem_set_self] at hr549
         obtain rfl := tySp_open hr549
         refine Lq (ptr b19 (0 + (pos xs k) * 7)) rfl rfl rfl (x_indexAddr' rfl sl_38 ti_96 rfl rfl (by omega)) ?_
         refine Lq (ptr b19 (0 + (pos xs k) * 7 + 5)) rfl rfl rfl (by kernel_rfl) ?_
         obtain ⟨c552, w553, hr554, hrow555, hst556⟩ := Row.storeF (P := Tryd.prog) (v := (int (r.failures + 1))) (y := (Sp.mk k ⟨r.tier, r.calls, s.warm, r.failures + 1, r.exits⟩ (.slice (some ⟨b59, 0, none⟩) r.exits.length ecap))) (cl := (spCells (Sp.mk k ⟨r.tier, r.calls, s.warm, r.failures, r.exits⟩ (.slice (some ⟨b59, 0, none⟩) r.exits.length ecap)))) hrow214 hst526 ti_3 (pos xs k) (by simp only [List.length_set]; omega) 5 (by decide) (fun c1 h1 => by rw [List.getElem_set_self] at h1; exact h1.1) rfl rfl (tySp_is rfl rfl)
         rw [List.set_set] at hrow555
         refine L_skip rfl rfl (x_store rfl rfl rfl hr554) ?_
         refine L_nil ?_
         refine W_seq ?_
         refine W_region_lit ?_
         refine Lq (ptr m 0) rfl rfl rfl rfl ?_
         refine Lq (ptr m 0) rfl rfl rfl rfl ?_
         refine Lq (ptr m 4) rfl rfl rfl (by kernel_rfl) ?_
         refine Lq (.slice (some ⟨b19, 0, none⟩) xs.length cap16) rfl rfl rfl (x_load rfl rfl (run_loadVar_one ti_38 (hst556.b 4) rfl)) ?_
         refine Lq (int (((pos xs k) : Nat) : Int)) rfl rfl rfl rfl ?_
         obtain ⟨cl557, cs558, hr559, hcb560, hsg561⟩ := Row.at hrow555 (pos xs k) (by simp only [List.length_set]; omega)
         rw [List.getElem_set_self] at hr559
         obtain rfl := tySp_open hr559
         refine Lq (ptr b19 (0 + (pos xs k) * 7)) rfl rfl rfl (x_indexAddr' rfl sl_38 ti_96 rfl rfl (by omega)) ?_
         refine Lq (ptr b19 (0 + (pos xs k) * 7 + 6)) rfl rfl rfl (by kernel_rfl) ?_
         obtain ⟨c562, w563, hr564, hrow565, hst566⟩ := Row.storeF (P := Tryd.prog) (v := (.slice none 0 0)) (y := (Sp.mk k ⟨r.tier, r.calls, s.warm, r.failures + 1, []⟩ (.slice none 0 0))) (cl := (spCells (Sp.mk k ⟨r.tier, r.calls, s.warm, r.failures + 1, r.exits⟩ (.slice (some ⟨b59, 0, none⟩) r.exits.length ecap)))) hrow555 hst556 ti_94 (pos xs k) (by simp only [List.length_set]; omega) 6 (by decide) (fun c1 h1 => by rw [List.getElem_set_self] at h1; exact h1.1) rfl rfl (tySp_is rfl rfl)
         rw [List.set_set] at hrow565
         refine L_skip rfl rfl (x_store rfl rfl rfl hr564) ?_
         refine L_nil ?_
         refine W_seq ?_
         refine W_seq ?_
         refine W_region_lit ?_
         refine Lq (ptr m 0) rfl rfl rfl rfl ?_
         refine Lq (ptr m 0) rfl rfl rfl rfl ?_
         refine Lq (ptr m 4) rfl rfl rfl (by kernel_rfl) ?_
         refine Lq (.slice (some ⟨b19, 0, none⟩) xs.length cap16) rfl rfl rfl (x_load rfl rfl (run_loadVar_one ti_38 (hst566.b 4) rfl)) ?_
         refine Lq (int (((pos xs k) : Nat) : Int)) rfl rfl rfl rfl ?_
         obtain ⟨cl567, cs568, hr569, hcb570, hsg571⟩ := Row.at hrow565 (pos xs k) (by simp only [List.length_set]; omega)
         rw [List.getElem_set_self] at hr569
         obtain rfl := tySp_open hr569
         refine Lq (ptr b19 (0 + (pos xs k) * 7)) rfl rfl rfl (x_indexAddr' rfl sl_38 ti_96 rfl rfl (by omega)) ?_
         refine Lq (ptr b19 (0 + (pos xs k) * 7 + 5)) rfl rfl rfl (by kernel_rfl) ?_
         refine Lq (int (r.failures + 1)) rfl rfl rfl (x_load rfl rfl (run_loadVar_one ti_3 ((hst566.g 0) _ _ hcb570) (seg_get (j := 5) hsg571 rfl))) ?_
         refine Lq (.bool ((r.failures + 1) == 3)) rfl rfl rfl (by kernel_rfl) ?_
         refine L_nil ?_
         rcases Bool.eq_false_or_eq_true ((r.failures + 1) == 3) with c572 | c572
         ·
          have q573 := eq_of_beq c572
          refine W_cond_true (by show Value.bool _ = _; exact congrArg Value.bool c572) ?_
          refine W_seq ?_
          refine W_region_lit ?_
          refine Lq (ptr m 0) rfl rfl rfl rfl ?_
          refine Lq (int (((pos xs k) : Nat) : Int)) rfl rfl rfl rfl ?_
          refine Lq (.string t537) rfl rfl rfl rfl ?_
          obtain ⟨t574, ht575⟩ : ∃ t_ : ByteArray, t_ = t537 ++ ⟨#[44, 32, 103, 105, 118, 101, 110, 32, 117, 112]⟩ := ⟨_, rfl⟩
          have ht575z := size_app_le ht538z (show ByteArray.size ⟨#[44, 32, 103, 105, 118, 101, 110, 32, 117, 112]⟩ ≤ 100 from by decide)
          rw [← ht575] at ht575z
          simp only [Nat.reduceAdd] at ht575z
          refine Lq (.string t574) rfl rfl rfl (by rw [ht575]; exact (x_strcat rfl rfl rfl (room_le ht538z (show ByteArray.size ⟨#[44, 32, 103, 105, 118, 101, 110, 32, 117, 112]⟩ ≤ 100 from by decide) (by decide)))) ?_
          refine L_call rfl rfl rfl (x_call (vs := #[(ptr m 0), (int (((pos xs k) : Nat) : Int)), (int (-1)), (.string t574)]) rfl rfl (by kernel_rfl) ent_51) ?_ (fun _ _ h => h)
          refine calls_of_W (n := 36) Tryd.func51 rfl Tryd.ntmps51 (Nat.le_of_ble_eq_true rfl) ?_
          refine W_seq ?_
          refine W_region_lit ?_
          refine Lq (ptr m 0) rfl rfl rfl rfl ?_
          refine Lq (ptr m 0) rfl rfl rfl rfl ?_
          refine Lq (ptr m 4) rfl rfl rfl (by kernel_rfl) ?_
          refine Lq (.slice (some ⟨b19, 0, none⟩) xs.length cap16) rfl rfl rfl (x_load rfl rfl (run_loadVar_one ti_38 (hst566.b 4) rfl)) ?_
          refine Lq (int (((pos xs k) : Nat) : Int)) rfl rfl rfl rfl ?_
          refine Lq (int (-1)) rfl rfl rfl rfl ?_
          obtain ⟨cl576, cs577, hr578, hcb579, hsg580⟩ := Row.at hrow565 (pos xs k) (by simp only [List.length_set]; omega)
          rw [List.getElem_set_self] at hr578
          obtain rfl := tySp_open hr578
          refine Lq (ptr b19 (0 + (pos xs k) * 7)) rfl rfl rfl (x_indexAddr' rfl sl_38 ti_96 rfl rfl (by omega)) ?_
          refine Lq (ptr b19 (0 + (pos xs k) * 7 + 2)) rfl rfl rfl (by kernel_rfl) ?_
          obtain ⟨c581, w582, hr583, hrow584, hst585⟩ := Row.storeF (P := Tryd.prog) (v := (int (-1))) (y := (Sp.mk k ⟨(-1), r.calls, s.warm, r.failures + 1, []⟩ (.slice none 0 0))) (cl := (spCells (Sp.mk k ⟨r.tier, r.calls, s.warm, r.failures + 1, []⟩ (.slice none 0 0)))) hrow565 hst566 ti_3 (pos xs k) (by simp only [List.length_set]; omega) 2 (by decide) (fun c1 h1 => by rw [List.getElem_set_self] at h1; exact h1.1) rfl rfl (tySp_is rfl rfl)
          rw [List.set_set] at hrow584
          refine L_skip rfl rfl (x_store rfl rfl rfl hr583) ?_
          refine L_nil ?_
          refine W_region_draw [20] (fun w => Le R (hp w) ∧ Le c581 (hp w) ∧ Le c99 (hp w) ∧ Le cR (hp w) ∧ Le (one b1 (.cells #[(int k.1), (int k.2)] 43 (0, 0))) (hp w) ∧ Le (one m (.cells #[(int s.sample), (int s.warm), (int s.hot), (int s.cold), (.slice (some ⟨b19, 0, none⟩) xs.length cap16), vD] 41 (0, 0))) (hp w)) hmix (by decide +kernel) (fun _ _ h => h) ?_
          have hst587 := hst585.draws (w582.drawn + 1)
          generalize draws w582 (w582.drawn + 1) = w586 at hst587 ⊢
          refine LP (ptr m 0) 0 rfl rfl rfl (fun u589 => rfl) ⟨hst587.rle', hst587.g 0, hst587.g 1, hst587.g 2, hst587.g 3, hst587.g 4⟩ ?_
          refine LP (ptr m 0) 1 rfl rfl rfl (fun u592 => rfl) ⟨hst587.rle', hst587.g 0, hst587.g 1, hst587.g 2, hst587.g 3, hst587.g 4⟩ ?_
          refine LP (ptr m 0) 2 rfl rfl rfl (fun u595 => rfl) ⟨hst587.rle', hst587.g 0, hst587.g 1, hst587.g 2, hst587.g 3, hst587.g 4⟩ ?_
          refine LP (ptr m 5) 3 rfl rfl rfl (fun u598 => (by kernel_rfl)) ⟨hst587.rle', hst587.g 0, hst587.g 1, hst587.g 2, hst587.g 3, hst587.g 4⟩ ?_
          refine LT vD 4 rfl rfl rfl (fun u601 hF602 => (x_load rfl rfl (run_loadVar_one ti_39 (hF602.2.2.2.2.2 _ _ (one_self _ _)) rfl))) ⟨hst587.rle', hst587.g 0, hst587.g 1, hst587.g 2, hst587.g 3, hst587.g 4⟩ ?_
          refine LP (ptr m 0) 5 rfl rfl rfl (fun u604 => rfl) ⟨hst587.rle', hst587.g 0, hst587.g 1, hst587.g 2, hst587.g 3, hst587.g 4⟩ ?_
          refine LP (ptr m 0) 6 rfl rfl rfl (fun u607 => rfl) ⟨hst587.rle', hst587.g 0, hst587.g 1, hst587.g 2, hst587.g 3, hst587.g 4⟩ ?_
          refine LP (ptr m 4) 7 rfl rfl rfl (fun u610 => (by kernel_rfl)) ⟨hst587.rle', hst587.g 0, hst587.g 1, hst587.g 2, hst587.g 3, hst587.g 4⟩ ?_
          refine LT (.slice (some ⟨b19, 0, none⟩) xs.length cap16) 8 rfl rfl rfl (fun u613 hF614 => (x_load rfl rfl (run_loadVar_one ti_38 (hF614.2.2.2.2.2 _ _ (one_self _ _)) rfl))) ⟨hst587.rle', hst587.g 0, hst587.g 1, hst587.g 2, hst587.g 3, hst587.g 4⟩ ?_
          refine LP (int (((pos xs k) : Nat) : Int)) 9 rfl rfl rfl (fun u616 => rfl) ⟨hst587.rle', hst587.g 0, hst587.g 1, hst587.g 2, hst587.g 3, hst587.g 4⟩ ?_
          obtain ⟨cl621, cs622, hr623, hcb624, hsg625⟩ := Row.at hrow584 (pos xs k) (by simp only [List.length_set]; omega)
          rw [List.getElem_set_self] at hr623
          obtain rfl := tySp_open hr623
          refine LP (ptr b19 (0 + (pos xs k) * 7)) 10 rfl rfl rfl (fun u619 => (x_indexAddr' rfl sl_38 ti_96 rfl rfl (by omega))) ⟨hst587.rle', hst587.g 0, hst587.g 1, hst587.g 2, hst587.g 3, hst587.g 4⟩ ?_
          refine LP (ptr b19 (0 + (pos xs k) * 7)) 11 rfl rfl rfl (fun u627 => (by kernel_rfl)) ⟨hst587.rle', hst587.g 0, hst587.g 1, hst587.g 2, hst587.g 3, hst587.g 4⟩ ?_
          refine LT (.agg #[(int k.1), (int k.2)]) 12 rfl rfl rfl (fun u630 hF631 => (x_load rfl rfl (run_loadVar_agg ti_43 (hF631.2.1 _ _ hcb624) (seg_part hsg625 0 2 rfl rfl) rfl))) ⟨hst587.rle', hst587.g 0, hst587.g 1, hst587.g 2, hst587.g 3, hst587.g 4⟩ ?_
          refine LP (int (-1)) 13 rfl rfl rfl (fun u633 => rfl) ⟨hst587.rle', hst587.g 0, hst587.g 1, hst587.g 2, hst587.g 3, hst587.g 4⟩ ?_
          refine LP (.string t574) 14 rfl rfl rfl (fun u636 => rfl) ⟨hst587.rle', hst587.g 0, hst587.g 1, hst587.g 2, hst587.g 3, hst587.g 4⟩ ?_
          refine LP (.agg #[(int k.1), (int k.2), (int (-1)), (.string t574)]) 15 rfl rfl rfl (fun u639 => (by kernel_rfl)) ⟨hst587.rle', hst587.g 0, hst587.g 1, hst587.g 2, hst587.g 3, hst587.g 4⟩ ?_
          refine LA_all [16] (by decide +kernel) (by simp) ?_
          intro i_ hi_
          simp only [List.mem_cons, List.not_mem_nil, or_false] at hi_
          subst hi_
          refine One_new hst587 (i := 16) (v := fun b => .slice (some ⟨b, 0, none⟩) 1 1) (ob := .cells #[(int k.1), (int k.2), (int (-1)), (.string t574)] 99 (0, 0)) rfl rfl rfl (Want.plain rfl) (by kernel_rfl) (fun b644 w645 hst646 => ?_)
          refine ⟨(fun _ => ⟨hst646.rle', hst646.g 1, hst646.g 2, hst646.g 3, hst646.g 4, hst646.g 5⟩), ?_⟩
          refine LA_all [17] (by decide +kernel) (by simp) ?_
          intro i_ hi_
          simp only [List.mem_cons, List.not_mem_nil, or_false] at hi_
          subst hi_
          refine One_append (j := 17) hst646 (t := 39) (e := 99) (ys := [Dec.mk k (-1) t574]) (src := [(int k.1), (int k.2), (int (-1)), (.string t574)]) 6 rfl rfl rfl (Want.plain rfl) rfl rfl rfl sl_39 ti_99 rfl rfl rfl hD (src_own (hst646.b 0)) (Encs.one (tyDec_mk _ _ _ _ _)) rfl (by first | omega | (simp only [List.length_append, List.length_cons, List.length_nil]; omega)) (by first | (simp only [maxLen]; omega) | (simp only [List.length_append, List.length_cons, List.length_nil, maxLen]; omega)) (fun v650 c651 w652 ho653 hst654 => ?_)
          refine ⟨(fun _ => ⟨hst654.rle', hst654.g 2, hst654.g 3, hst654.g 4, hst654.g 5, hst654.g 6⟩), ?_⟩
          refine LP (ptr m 0) 18 rfl rfl rfl (fun u656 => rfl) ⟨hst654.rle', hst654.g 2, hst654.g 3, hst654.g 4, hst654.g 5, hst654.g 6⟩ ?_
          refine LP (ptr m 5) 19 rfl rfl rfl (fun u659 => (by kernel_rfl)) ⟨hst654.rle', hst654.g 2, hst654.g 3, hst654.g 4, hst654.g 5, hst654.g 6⟩ ?_
          refine LA_all [20] (by decide +kernel) (by simp) ?_
          intro i_ hi_
          simp only [List.mem_cons, List.not_mem_nil, or_false] at hi_
          subst hi_
          obtain ⟨a662, cap663, e664, hc665⟩ := ho653.value
          subst e664
          obtain ⟨w666, hr668, hst667⟩ := run_storeW (P := Tryd.prog) (b := m) (off := 5) (v := (.slice a662 ((s.decs ++ [Dec.mk k (-1) t574]).length) cap663)) hst654 6 ti_39 rfl rfl rfl rfl rfl rfl
          change Step _ _ _ _ _ [c651, one b644 (.cells #[(int k.1), (int k.2), (int (-1)), (.string t574)] 99 (0, 0)), c581, c99, cR, one b1 (.cells #[(int k.1), (int k.2)] 43 (0, 0)), one m (.cells #[(int s.sample), (int s.warm), (int s.hot), (int s.cold), (.slice (some ⟨b19, 0, none⟩) xs.length cap16), (.slice a662 ((s.decs ++ [Dec.mk k (-1) t574]).length) cap663)] 41 (0, 0))] at hst667
          refine One_skip (i := 20) rfl rfl (Want.plain rfl) (x_store rfl rfl rfl hr668) (fun h => absurd h (by decide +kernel)) ?_
          refine LA_done (by decide +kernel) ?_
          refine ⟨_, _, res_run (rs := []) (vs := []) Tryd.results51 .nil rfl, ?_⟩
          refine ⟨_, rfl, ?_⟩
          refine L_nil ?_
          refine W_ret ?_
          refine ⟨_, _, res_run (rs := []) (vs := []) Tryd.results50 .nil rfl, ?_⟩
          refine ⟨_, rfl, (fun _ => ⟨hst667.rle', hst667.g 5⟩), ?_⟩
          refine LA_done (by decide +kernel) ?_
          refine W_seq ?_
          refine W_region_lit ?_
          refine Lq (.bool true) rfl rfl rfl rfl ?_
          refine L_nil ?_
          refine W_ret ?_
          refine ⟨_, _, res_run (rs := [.tmp 6]) (vs := [(.bool true)]) Tryd.results31 (.cons (.tmp rfl) .nil) hmk38, ?_⟩
          have he := left_back (s := s) hgr (by simpa using c32) (of_decide_eq_false c35) (by rw [hgd]; simpa using of_decide_eq_false c167)
          rw [he]
          have hro2 : Rec.Ok s.n r := hro
          have he2 := setBack_up (s := s) (k := k) (t := 1) (l := [Wd.s wExit, Wd.i e, Wd.s wLeft, Wd.i s.cold, Wd.s wTimes]) (r := { r with exits := AL.set r.exits e ((AL.get r.exits e).getD 0 + 1), count := s.warm }) (eq_of_beq c572)
          have hok2 := hok.setBack (k := k) (t := 1) (ex := AL.set r.exits e ((AL.get r.exits e).getD 0 + 1)) (c := s.warm) (l := [Wd.s wExit, Wd.i e, Wd.s wLeft, Wd.i s.cold, Wd.s wTimes]) hro2 (by constructor <;> omega) (by decide) (Sm5 (Sm_s (by decide)) (Sm_i (by constructor <;> omega)) (Sm_s (by decide)) (Sm_i (by constructor <;> omega)) (Sm_s (by decide))) (Nat.le_of_ble_eq_true rfl)
          rw [show s.setBack k { r with exits := AL.set r.exits e ((AL.get r.exits e).getD 0 + 1), count := s.warm } 1 [Wd.s wExit, Wd.i e, Wd.s wLeft, Wd.i s.cold, Wd.s wTimes] = _ from he2] at hok2
          rw [he2]
          obtain ⟨c', hst', href'⟩ := RefP.close (s := s.decide k ⟨r.tier, r.calls, s.warm, r.failures + 1, []⟩ (-1) (joinW [Wd.s (joinW [Wd.s wExit, Wd.i e, Wd.s wLeft, Wd.i s.cold, Wd.s wTimes] ++ wGiven)])) (xs := (List.set xs (pos xs k) (Sp.mk k ⟨(-1), r.calls, s.warm, r.failures + 1, []⟩ (.slice none 0 0)))) (((hst667.front 4 rfl rfl).front 3 rfl rfl).front 6 rfl rfl) (hback25 R (List.set xs (pos xs k) (Sp.mk k ⟨(-1), r.calls, s.warm, r.failures + 1, []⟩ (.slice none 0 0))) c581 (by first | rfl | (simp only [List.length_set]; done) | (simp only [List.length_set]; omega) | omega) hrow584) (by have h_ := hback R (Sp.mk k ⟨(-1), r.calls, s.warm, r.failures + 1, []⟩ (.slice none 0 0)) non (Le.refl _) (OwnL.empty _ _ _) (fun b => .inl rfl); rw [non_uni] at h_; exact h_) (Eq.mp (congrArg (fun l_ => OwnL tyDec 99 R (.slice a662 ((s.decs ++ [Dec.mk k (-1) t574]).length) cap663) l_ c651) (show (s.decs ++ [Dec.mk k (-1) t574]) = (s.decide k ⟨r.tier, r.calls, s.warm, r.failures + 1, []⟩ (-1) (joinW [Wd.s (joinW [Wd.s wExit, Wd.i e, Wd.s wLeft, Wd.i s.cold, Wd.s wTimes] ++ wGiven)])).decs from congrArg (fun t_ => s.decs ++ [Dec.mk k (-1) t_]) (by rw [ht575, ht538, ht533, ht521, ht516, (dec_exit _ _)]; exact dec_given))) ho653) (hset (Sp.mk k ⟨(-1), r.calls, s.warm, r.failures + 1, []⟩ (.slice none 0 0)) rfl).1 (Agr.decide (r := ⟨r.tier, r.calls, s.warm, r.failures + 1, []⟩) (hset (Sp.mk k ⟨(-1), r.calls, s.warm, r.failures + 1, []⟩ (.slice none 0 0)) rfl).2 hag) (by simp only [List.length_set]; show _ ≤ s.n + 1; omega) hok2
          exact ⟨_, _, _, rfl, hst'.keepN 1 rfl, c', rfl, rfl, href'⟩
         ·
          have q669 := ne_of_beq_false c572
          refine W_cond_false (by show Value.bool _ = _; exact congrArg Value.bool c572) ?_
          refine W_skip ?_
          refine W_region_lit ?_
          refine Lq (ptr m 0) rfl rfl rfl rfl ?_
          refine Lq (int (((pos xs k) : Nat) : Int)) rfl rfl rfl rfl ?_
          refine Lq (int 1) rfl rfl rfl rfl ?_
          refine Lq (.string t537) rfl rfl rfl rfl ?_
          refine L_call rfl rfl rfl (x_call (vs := #[(ptr m 0), (int (((pos xs k) : Nat) : Int)), (int 1), (.string t537)]) rfl rfl (by kernel_rfl) ent_51) ?_ (fun _ _ h => h)
          refine calls_of_W (n := 36) Tryd.func51 rfl Tryd.ntmps51 (Nat.le_of_ble_eq_true rfl) ?_
          refine W_seq ?_
          refine W_region_lit ?_
          refine Lq (ptr m 0) rfl rfl rfl rfl ?_
          refine Lq (ptr m 0) rfl rfl rfl rfl ?_
          refine Lq (ptr m 4) rfl rfl rfl (by kernel_rfl) ?_
          refine Lq (.slice (some ⟨b19, 0, none⟩) xs.length cap16) rfl rfl rfl (x_load rfl rfl (run_loadVar_one ti_38 (hst566.b 4) rfl)) ?_
          refine Lq (int (((pos xs k) : Nat) : Int)) rfl rfl rfl rfl ?_
          refine Lq (int 1) rfl rfl rfl rfl ?_
          obtain ⟨cl670, cs671, hr672, hcb673, hsg674⟩ := Row.at hrow565 (pos xs k) (by simp only [List.length_set]; omega)
          rw [List.getElem_set_self] at hr672
          obtain rfl := tySp_open hr672
          refine Lq (ptr b19 (0 + (pos xs k) * 7)) rfl rfl rfl (x_indexAddr' rfl sl_38 ti_96 rfl rfl (by omega)) ?_
          refine Lq (ptr b19 (0 + (pos xs k) * 7 + 2)) rfl rfl rfl (by kernel_rfl) ?_
          obtain ⟨c675, w676, hr677, hrow678, hst679⟩ := Row.storeF (P := Tryd.prog) (v := (int 1)) (y := (Sp.mk k ⟨1, r.calls, s.warm, r.failures + 1, []⟩ (.slice none 0 0))) (cl := (spCells (Sp.mk k ⟨r.tier, r.calls, s.warm, r.failures + 1, []⟩ (.slice none 0 0)))) hrow565 hst566 ti_3 (pos xs k) (by simp only [List.length_set]; omega) 2 (by decide) (fun c1 h1 => by rw [List.getElem_set_self] at h1; exact h1.1) rfl rfl (tySp_is rfl rfl)
          rw [List.set_set] at hrow678
          refine L_skip rfl rfl (x_store rfl rfl rfl hr677) ?_
          refine L_nil ?_
          refine W_region_draw [20] (fun w => Le R (hp w) ∧ Le c675 (hp w) ∧ Le c99 (hp w) ∧ Le cR (hp w) ∧ Le (one b1 (.cells #[(int k.1), (int k.2)] 43 (0, 0))) (hp w) ∧ Le (one m (.cells #[(int s.sample), (int s.warm), (int s.hot), (int s.cold), (.slice (some ⟨b19, 0, none⟩) xs.length cap16), vD] 41 (0, 0))) (hp w)) hmix (by decide +kernel) (fun _ _ h => h) ?_
          have hst681 := hst679.draws (w676.drawn + 1)
          generalize draws w676 (w676.drawn + 1) = w680 at hst681 ⊢
          refine LP (ptr m 0) 0 rfl rfl rfl (fun u683 => rfl) ⟨hst681.rle', hst681.g 0, hst681.g 1, hst681.g 2, hst681.g 3, hst681.g 4⟩ ?_
          refine LP (ptr m 0) 1 rfl rfl rfl (fun u686 => rfl) ⟨hst681.rle', hst681.g 0, hst681.g 1, hst681.g 2, hst681.g 3, hst681.g 4⟩ ?_
          refine LP (ptr m 0) 2 rfl rfl rfl (fun u689 => rfl) ⟨hst681.rle', hst681.g 0, hst681.g 1, hst681.g 2, hst681.g 3, hst681.g 4⟩ ?_
          refine LP (ptr m 5) 3 rfl rfl rfl (fun u692 => (by kernel_rfl)) ⟨hst681.rle', hst681.g 0, hst681.g 1, hst681.g 2, hst681.g 3, hst681.g 4⟩ ?_
          refine LT vD 4 rfl rfl rfl (fun u695 hF696 => (x_load rfl rfl (run_loadVar_one ti_39 (hF696.2.2.2.2.2 _ _ (one_self _ _)) rfl))) ⟨hst681.rle', hst681.g 0, hst681.g 1, hst681.g 2, hst681.g 3, hst681.g 4⟩ ?_
          refine LP (ptr m 0) 5 rfl rfl rfl (fun u698 => rfl) ⟨hst681.rle', hst681.g 0, hst681.g 1, hst681.g 2, hst681.g 3, hst681.g 4⟩ ?_
          refine LP (ptr m 0) 6 rfl rfl rfl (fun u701 => rfl) ⟨hst681.rle', hst681.g 0, hst681.g 1, hst681.g 2, hst681.g 3, hst681.g 4⟩ ?_
          refine LP (ptr m 4) 7 rfl rfl rfl (fun u704 => (by kernel_rfl)) ⟨hst681.rle', hst681.g 0, hst681.g 1, hst681.g 2, hst681.g 3, hst681.g 4⟩ ?_
          refine LT (.slice (some ⟨b19, 0, none⟩) xs.length cap16) 8 rfl rfl rfl (fun u707 hF708 => (x_load rfl rfl (run_loadVar_one ti_38 (hF708.2.2.2.2.2 _ _ (one_self _ _)) rfl))) ⟨hst681.rle', hst681.g 0, hst681.g 1, hst681.g 2, hst681.g 3, hst681.g 4⟩ ?_
          refine LP (int (((pos xs k) : Nat) : Int)) 9 rfl rfl rfl (fun u710 => rfl) ⟨hst681.rle', hst681.g 0, hst681.g 1, hst681.g 2, hst681.g 3, hst681.g 4⟩ ?_
          obtain ⟨cl715, cs716, hr717, hcb718, hsg719⟩ := Row.at hrow678 (pos xs k) (by simp only [List.length_set]; omega)
          rw [List.getElem_set_self] at hr717
          obtain rfl := tySp_open hr717
          refine LP (ptr b19 (0 + (pos xs k) * 7)) 10 rfl rfl rfl (fun u713 => (x_indexAddr' rfl sl_38 ti_96 rfl rfl (by omega))) ⟨hst681.rle', hst681.g 0, hst681.g 1, hst681.g 2, hst681.g 3, hst681.g 4⟩ ?_
          refine LP (ptr b19 (0 + (pos xs k) * 7)) 11 rfl rfl rfl (fun u721 => (by kernel_rfl)) ⟨hst681.rle', hst681.g 0, hst681.g 1, hst681.g 2, hst681.g 3, hst681.g 4⟩ ?_
          refine LT (.agg #[(int k.1), (int k.2)]) 12 rfl rfl rfl (fun u724 hF725 => (x_load rfl rfl (run_loadVar_agg ti_43 (hF725.2.1 _ _ hcb718) (seg_part hsg719 0 2 rfl rfl) rfl))) ⟨hst681.rle', hst681.g 0, hst681.g 1, hst681.g 2, hst681.g 3, hst681.g 4⟩ ?_
          refine LP (int 1) 13 rfl rfl rfl (fun u727 => rfl) ⟨hst681.rle', hst681.g 0, hst681.g 1, hst681.g 2, hst681.g 3, hst681.g 4⟩ ?_
          refine LP (.string t537) 14 rfl rfl rfl (fun u730 => rfl) ⟨hst681.rle', hst681.g 0, hst681.g 1, hst681.g 2, hst681.g 3, hst681.g 4⟩ ?_
          refine LP (.agg #[(int k.1), (int k.2), (int 1), (.string t537)]) 15 rfl rfl rfl (fun u733 => (by kernel_rfl)) ⟨hst681.rle', hst681.g 0, hst681.g 1, hst681.g 2, hst681.g 3, hst681.g 4⟩ ?_
          refine LA_all [16] (by decide +kernel) (by simp) ?_
          intro i_ hi_
          simp only [List.mem_cons, List.not_mem_nil, or_false] at hi_
          subst hi_
          refine One_new hst681 (i := 16) (v := fun b => .slice (some ⟨b, 0, none⟩) 1 1) (ob := .cells #[(int k.1), (int k.2), (int 1), (.string t537)] 99 (0, 0)) rfl rfl rfl (Want.plain rfl) (by kernel_rfl) (fun b738 w739 hst740 => ?_)
          refine ⟨(fun _ => ⟨hst740.rle', hst740.g 1, hst740.g 2, hst740.g 3, hst740.g 4, hst740.g 5⟩), ?_⟩
          refine LA_all [17] (by decide +kernel) (by simp) ?_
          intro i_ hi_
          simp only [List.mem_cons, List.not_mem_nil, or_false] at hi_
          subst hi_
          refine One_append (j := 17) hst740 (t := 39) (e := 99) (ys := [Dec.mk k 1 t537]) (src := [(int k.1), (int k.2), (int 1), (.string t537)]) 6 rfl rfl rfl (Want.plain rfl) rfl rfl rfl sl_39 ti_99 rfl rfl rfl hD (src_own (hst740.b 0)) (Encs.one (tyDec_mk _ _ _ _ _)) rfl (by first | omega | (simp only [List.length_append, List.length_cons, List.length_nil]; omega)) (by first | (simp only [maxLen]; omega) | (simp only [List.length_append, List.length_cons, List.length_nil, maxLen]; omega)) (fun v744 c745 w746 ho747 hst748 => ?_)
          refine ⟨(fun _ => ⟨hst748.rle', hst748.g 2, hst748.g 3, hst748.g 4, hst748.g 5, hst748.g 6⟩), ?_⟩
          refine LP (ptr m 0) 18 rfl rfl rfl (fun u750 => rfl) ⟨hst748.rle', hst748.g 2, hst748.g 3, hst748.g 4, hst748.g 5, hst748.g 6⟩ ?_
          refine LP (ptr m 5) 19 rfl rfl rfl (fun u753 => (by kernel_rfl)) ⟨hst748.rle', hst748.g 2, hst748.g 3, hst748.g 4, hst748.g 5, hst748.g 6⟩ ?_
          refine LA_all [20] (by decide +kernel) (by simp) ?_
          intro i_ hi_
          simp only [List.mem_cons, List.not_mem_nil, or_false] at hi_
          subst hi_
          obtain ⟨a756, cap757, e758, hc759⟩ := ho747.value
          subst e758
          obtain ⟨w760, hr762, hst761⟩ := run_storeW (P := Tryd.prog) (b := m) (off := 5) (v := (.slice a756 ((s.decs ++ [Dec.mk k 1 t537]).length) cap757)) hst748 6 ti_39 rfl rfl rfl rfl rfl rfl
          change Step _ _ _ _ _ [c745, one b738 (.cells #[(int k.1), (int k.2), (int 1), (.string t537)] 99 (0, 0)), c675, c99, cR, one b1 (.cells #[(int k.1), (int k.2)] 43 (0, 0)), one m (.cells #[(int s.sample), (int s.warm), (int s.hot), (int s.cold), (.slice (some ⟨b19, 0, none⟩) xs.length cap16), (.slice a756 ((s.decs ++ [Dec.mk k 1 t537]).length) cap757)] 41 (0, 0))] at hst761
          refine One_skip (i := 20) rfl rfl (Want.plain rfl) (x_store rfl rfl rfl hr762) (fun h => absurd h (by decide +kernel)) ?_
          refine LA_done (by decide +kernel) ?_
          refine ⟨_, _, res_run (rs := []) (vs := []) Tryd.results51 .nil rfl, ?_⟩
          refine ⟨_, rfl, ?_⟩
          refine L_nil ?_
          refine ⟨_, _, res_run (rs := []) (vs := []) Tryd.results50 .nil rfl, ?_⟩
          refine ⟨_, rfl, (fun _ => ⟨hst761.rle', hst761.g 5⟩), ?_⟩
          refine LA_done (by decide +kernel) ?_
          refine W_seq ?_
          refine W_region_lit ?_
          refine Lq (.bool true) rfl rfl rfl rfl ?_
          refine L_nil ?_
          refine W_ret ?_
          refine ⟨_, _, res_run (rs := [.tmp 6]) (vs := [(.bool true)]) Tryd.results31 (.cons (.tmp rfl) .nil) hmk38, ?_⟩
          have he := left_back (s := s) hgr (by simpa using c32) (of_decide_eq_false c35) (by rw [hgd]; simpa using of_decide_eq_false c167)
          rw [he]
          have hro2 : Rec.Ok s.n r := hro
          have he2 := setBack_on (s := s) (k := k) (t := 1) (l := [Wd.s wExit, Wd.i e, Wd.s wLeft, Wd.i s.cold, Wd.s wTimes]) (r := { r with exits := AL.set r.exits e ((AL.get r.exits e).getD 0 + 1), count := s.warm }) (ne_of_beq_false c572)
          have hok2 := hok.setBack (k := k) (t := 1) (ex := AL.set r.exits e ((AL.get r.exits e).getD 0 + 1)) (c := s.warm) (l := [Wd.s wExit, Wd.i e, Wd.s wLeft, Wd.i s.cold, Wd.s wTimes]) hro2 (by constructor <;> omega) (by decide) (Sm5 (Sm_s (by decide)) (Sm_i (by constructor <;> omega)) (Sm_s (by decide)) (Sm_i (by constructor <;> omega)) (Sm_s (by decide))) (Nat.le_of_ble_eq_true rfl)
          rw [show s.setBack k { r with exits := AL.set r.exits e ((AL.get r.exits e).getD 0 + 1), count := s.warm } 1 [Wd.s wExit, Wd.i e, Wd.s wLeft, Wd.i s.cold, Wd.s wTimes] = _ from he2] at hok2
          rw [he2]
          obtain ⟨c', hst', href'⟩ := RefP.close (s := s.decide k ⟨r.tier, r.calls, s.warm, r.failures + 1, []⟩ 1 (joinW [Wd.s (joinW [Wd.s wExit, Wd.i e, Wd.s wLeft, Wd.i s.cold, Wd.s wTimes])])) (xs := (List.set xs (pos xs k) (Sp.mk k ⟨1, r.calls, s.warm, r.failures + 1, []⟩ (.slice none 0 0)))) (((hst761.front 4 rfl rfl).front 3 rfl rfl).front 6 rfl rfl) (hback25 R (List.set xs (pos xs k) (Sp.mk k ⟨1, r.calls, s.warm, r.failures + 1, []⟩ (.slice none 0 0))) c675 (by first | rfl | (simp only [List.length_set]; done) | (simp only [List.length_set]; omega) | omega) hrow678) (by have h_ := hback R (Sp.mk k ⟨1, r.calls, s.warm, r.failures + 1, []⟩ (.slice none 0 0)) non (Le.refl _) (OwnL.empty _ _ _) (fun b => .inl rfl); rw [non_uni] at h_; exact h_) (Eq.mp (congrArg (fun l_ => OwnL tyDec 99 R (.slice a756 ((s.decs ++ [Dec.mk k 1 t537]).length) cap757) l_ c745) (show (s.decs ++ [Dec.mk k 1 t537]) = (s.decide k ⟨r.tier, r.calls, s.warm, r.failures + 1, []⟩ 1 (joinW [Wd.s (joinW [Wd.s wExit, Wd.i e, Wd.s wLeft, Wd.i s.cold, Wd.s wTimes])])).decs from congrArg (fun t_ => s.decs ++ [Dec.mk k 1 t_]) (by rw [ht538, ht533, ht521, ht516]; exact (dec_exit _ _).trans (joinW1 _).symm))) ho747) (hset (Sp.mk k ⟨1, r.calls, s.warm, r.failures + 1, []⟩ (.slice none 0 0)) rfl).1 (Agr.decide (r := ⟨r.tier, r.calls, s.warm, r.failures + 1, []⟩) (hset (Sp.mk k ⟨1, r.calls, s.warm, r.failures + 1, []⟩ (.slice none 0 0)) rfl).2 hag) (by simp only [List.length_set]; show _ ≤ s.n + 1; omega) hok2
          exact ⟨_, _, _, rfl, hst'.keepN 1 rfl, c', rfl, rfl, href'⟩
     ·
      have q763 := of_decide_eq_false c52
      refine L_unwanted rfl rfl rfl rfl (by rw [c52]; try rfl) rfl rfl ?_
      refine L_unwanted rfl rfl rfl rfl (by rw [c52]; try rfl) rfl rfl ?_
      refine L_unwanted rfl rfl rfl rfl (by rw [c52]; try rfl) rfl rfl ?_
      refine L_unwanted rfl rfl rfl rfl (by rw [c52]; try rfl) rfl rfl ?_
      refine L_unwanted rfl rfl rfl rfl (by rw [c52]; try rfl) rfl rfl ?_
      refine L_unwanted rfl rfl rfl rfl (by rw [c52]; try rfl) rfl rfl ?_
      refine L_unwanted rfl rfl rfl rfl (by rw [c52]; try rfl) rfl rfl ?_
      refine L_unwanted rfl rfl rfl rfl (by rw [c52]; try rfl) rfl rfl ?_
      refine L_unwanted rfl rfl rfl rfl (by rw [c52]; try rfl) rfl rfl ?_
      refine L_unwanted rfl rfl rfl rfl (by rw [c52]; try rfl) rfl rfl ?_
      refine L_unwanted rfl rfl rfl rfl (by rw [c52]; try rfl) rfl rfl ?_
      refine L_unwanted rfl rfl rfl rfl (by rw [c52]; try rfl) rfl rfl ?_
      refine L_unwanted rfl rfl rfl rfl (by rw [c52]; try rfl) rfl rfl ?_
      refine L_unwanted rfl rfl rfl rfl (by rw [c52]; try rfl) rfl rfl ?_
      refine Lq (.bool false) rfl rfl rfl (x_pick rfl rfl (by rw [c52]; rfl)) ?_
      refine L_nil ?_
      refine W_cond_false (by show Value.bool _ = _; exact congrArg Value.bool rfl) ?_
      refine W_exit ?_
      refine W_seq ?_
      refine W_seq ?_
      refine W_region_lit ?_
      refine Lq (int (j_45 : Int)) rfl rfl rfl rfl ?_
      refine Lq (ptr m 0) rfl rfl rfl rfl ?_
      refine Lq (ptr m 0) rfl rfl rfl rfl ?_
      refine Lq (ptr m 4) rfl rfl rfl (by kernel_rfl) ?_
      refine Lq (.slice (some ⟨b19, 0, none⟩) xs.length cap16) rfl rfl rfl (x_load rfl rfl (run_loadVar_one ti_38 (hst39.b 3) rfl)) ?_
      refine Lq (int (((pos xs k) : Nat) : Int)) rfl rfl rfl rfl ?_
      obtain ⟨cl764, cs765, hr766, hcb767, hsg768⟩ := Row.at hrow24 (pos xs k) (by omega)
      rw [hx] at hr766
      obtain rfl := tySp_open hr766
      refine Lq (ptr b19 (0 + (pos xs k) * 7)) rfl rfl rfl (x_indexAddr' rfl sl_38 ti_96 rfl rfl (by omega)) ?_
      refine Lq (ptr b19 (0 + (pos xs k) * 7 + 6)) rfl rfl rfl (by kernel_rfl) ?_
      refine Lq (.slice ea r.exits.length ecap) rfl rfl rfl (x_load rfl rfl (run_loadVar_one ti_94 ((hst39.g 4) _ _ hcb767) (seg_get (j := 6) hsg768 rfl))) ?_
      refine Lq (int (r.exits.length : Int)) rfl rfl rfl (x_len_slice rfl sl_94 rfl) ?_
      refine Lq (.bool ((j_45 : Int) == (r.exits.length : Int))) rfl rfl rfl (by kernel_rfl) ?_
      refine L_nil ?_
      have c769 : ((j_45 : Int) == (r.exits.length : Int)) = true := beq_iff_eq.2 (by omega)
      have q770 := eq_of_beq c769
      refine W_cond_true (by show Value.bool _ = _; exact congrArg Value.bool c769) ?_
      refine W_region_draw [19] (fun w => Le R (hp w) ∧ Le cR (hp w) ∧ Le (one b1 (.cells #[(int k.1), (int k.2)] 43 (0, 0))) (hp w) ∧ Le (one m (.cells #[(int s.sample), (int s.warm), (int s.hot), (int s.cold), (.slice (some ⟨b19, 0, none⟩) xs.length cap16), vD] 41 (0, 0))) (hp w) ∧ Le cL (hp w)) hmix (by decide +kernel) (fun _ _ h => h) ?_
      have hst772 := hst39.draws (w40.drawn + 1)
      generalize draws w40 (w40.drawn + 1) = w771 at hst772 ⊢
      refine LP (ptr m 0) 0 rfl rfl rfl (fun u774 => rfl) ⟨hst772.rle', hst772.g 1, hst772.g 2, hst772.g 3, hst772.g 4⟩ ?_
      refine LP (ptr m 0) 1 rfl rfl rfl (fun u777 => rfl) ⟨hst772.rle', hst772.g 1, hst772.g 2, hst772.g 3, hst772.g 4⟩ ?_
      refine LP (ptr m 4) 2 rfl rfl rfl (fun u780 => (by kernel_rfl)) ⟨hst772.rle', hst772.g 1, hst772.g 2, hst772.g 3, hst772.g 4⟩ ?_
      refine LT (.slice (some ⟨b19, 0, none⟩) xs.length cap16) 3 rfl rfl rfl (fun u783 hF784 => (x_load rfl rfl (run_loadVar_one ti_38 (hF784.2.2.2.1 _ _ (one_self _ _)) rfl))) ⟨hst772.rle', hst772.g 1, hst772.g 2, hst772.g 3, hst772.g 4⟩ ?_
      refine LP (int (((pos xs k) : Nat) : Int)) 4 rfl rfl rfl (fun u786 => rfl) ⟨hst772.rle', hst772.g 1, hst772.g 2, hst772.g 3, hst772.g 4⟩ ?_
      refine LP (ptr m 0) 5 rfl rfl rfl (fun u789 => rfl) ⟨hst772.rle', hst772.g 1, hst772.g 2, hst772.g 3, hst772.g 4⟩ ?_
      refine LP (ptr m 0) 6 rfl rfl rfl (fun u792 => rfl) ⟨hst772.rle', hst772.g 1, hst772.g 2, hst772.g 3, hst772.g 4⟩ ?_
      refine LP (ptr m 4) 7 rfl rfl rfl (fun u795 => (by kernel_rfl)) ⟨hst772.rle', hst772.g 1, hst772.g 2, hst772.g 3, hst772.g 4⟩ ?_
      refine LT (.slice (some ⟨b19, 0, none⟩) xs.length cap16) 8 rfl rfl rfl (fun u798 hF799 => (x_load rfl rfl (run_loadVar_one ti_38 (hF799.2.2.2.1 _ _ (one_self _ _)) rfl))) ⟨hst772.rle', hst772.g 1, hst772.g 2, hst772.g 3, hst772.g 4⟩ ?_
      refine LP (int (((pos xs k) : Nat) : Int)) 9 rfl rfl rfl (fun u801 => rfl) ⟨hst772.rle', hst772.g 1, hst772.g 2, hst772.g 3, hst772.g 4⟩ ?_
      obtain ⟨cl806, cs807, hr808, hcb809, hsg810⟩ := Row.at hrow24 (pos xs k) (by omega)
      rw [hx] at hr808
      obtain rfl := tySp_open hr808
      refine LP (ptr b19 (0 + (pos xs k) * 7)) 10 rfl rfl rfl (fun u804 => (x_indexAddr' rfl sl_38 ti_96 rfl rfl (by omega))) ⟨hst772.rle', hst772.g 1, hst772.g 2, hst772.g 3, hst772.g 4⟩ ?_
      refine LP (ptr b19 (0 + (pos xs k) * 7 + 6)) 11 rfl rfl rfl (fun u812 => (by kernel_rfl)) ⟨hst772.rle', hst772.g 1, hst772.g 2, hst772.g 3, hst772.g 4⟩ ?_
      refine LT (.slice ea r.exits.length ecap) 12 rfl rfl rfl (fun u815 hF816 => (x_load rfl rfl (run_loadVar_one ti_94 (hF816.2.2.2.2 _ _ hcb809) (seg_get (j := 6) hsg810 rfl)))) ⟨hst772.rle', hst772.g 1, hst772.g 2, hst772.g 3, hst772.g 4⟩ ?_
      refine LP (int e) 13 rfl rfl rfl (fun u818 => rfl) ⟨hst772.rle', hst772.g 1, hst772.g 2, hst772.g 3, hst772.g 4⟩ ?_
      refine LP (.agg #[(int e), (int 0)]) 14 rfl rfl rfl (fun u821 => (by kernel_rfl)) ⟨hst772.rle', hst772.g 1, hst772.g 2, hst772.g 3, hst772.g 4⟩ ?_
      refine LA_all [15] (by decide +kernel) (by simp) ?_
      intro i_ hi_
      simp only [List.mem_cons, List.not_mem_nil, or_false] at hi_
      subst hi_
      refine One_new hst772 (i := 15) (v := fun b => .slice (some ⟨b, 0, none⟩) 1 1) (ob := .cells #[(int e), (int 0)] 110 (0, 0)) rfl rfl rfl (Want.plain rfl) (by kernel_rfl) (fun b826 w827 hst828 => ?_)
      refine ⟨(fun _ => ⟨hst828.rle', hst828.g 2, hst828.g 3, hst828.g 4, hst828.g 5⟩), ?_⟩
      refine LA_all [16] (by decide +kernel) (by simp) ?_
      intro i_ hi_
      simp only [List.mem_cons, List.not_mem_nil, or_false] at hi_
      subst hi_
      refine One_append (j := 16) hst828 (t := 94) (e := 110) (ys := [(e, 0)]) (src := [(int e), (int 0)]) 1 rfl rfl rfl (Want.plain rfl) rfl rfl rfl sl_94 ti_110 rfl rfl rfl hE1 (src_own (hst828.b 0)) (Encs.one (tyEx_mk _ _)) rfl (by first | omega | (simp only [List.length_append, List.length_cons, List.length_nil]; omega)) (by first | (simp only [maxLen]; omega) | (simp only [List.length_append, List.length_cons, List.length_nil, maxLen]; omega)) (fun v832 c833 w834 ho835 hst836 => ?_)
      refine ⟨(fun _ => ⟨hst836.rle', hst836.g 2, hst836.g 3, hst836.g 4, hst836.g 5⟩), ?_⟩
      obtain ⟨cl840, cs841, hr842, hcb843, hsg844⟩ := Row.at hrow24 (pos xs k) (by omega)
      rw [hx] at hr842
      obtain rfl := tySp_open hr842
      refine LP (ptr b19 (0 + (pos xs k) * 7)) 17 rfl rfl rfl (fun u838 => (x_indexAddr' rfl sl_38 ti_96 rfl rfl (by omega))) ⟨hst836.rle', hst836.g 2, hst836.g 3, hst836.g 4, hst836.g 5⟩ ?_
      refine LP (ptr b19 (0 + (pos xs k) * 7 + 6)) 18 rfl rfl rfl (fun u846 => (by kernel_rfl)) ⟨hst836.rle', hst836.g 2, hst836.g 3, hst836.g 4, hst836.g 5⟩ ?_
      refine LA_all [19] (by decide +kernel) (by simp) ?_
      intro i_ hi_
      simp only [List.mem_cons, List.not_mem_nil, or_false] at hi_
      subst hi_
      obtain ⟨a849, cap850, e851, hc852⟩ := ho835.value
      subst e851
      obtain ⟨c853, w854, hr855, hrow856, hst857⟩ := Row.storeF (P := Tryd.prog) (v := (.slice a849 ((r.exits ++ [(e, 0)]).length) cap850)) (y := (Sp.mk k ⟨r.tier, r.calls, r.count, r.failures, (r.exits ++ [(e, 0)])⟩ (.slice a849 ((r.exits ++ [(e, 0)]).length) cap850))) (cl := (spCells (Sp.mk k ⟨r.tier, r.calls, r.count, r.failures, r.exits⟩ (.slice ea r.exits.length ecap)))) hrow24 (hst836.front 5 rfl rfl) ti_94 (pos xs k) (by omega) 6 (by decide) (fun c1 h1 => by rw [hx] at h1; exact h1.1) rfl rfl (tySp_is rfl rfl)
      refine One_skip (i := 19) rfl rfl (Want.plain rfl) (x_store rfl rfl rfl hr855) (fun h => absurd h (by decide +kernel)) ?_
      refine LA_done (by decide +kernel) ?_
      refine W_seq ?_
      have hjl : j_45 = r.exits.length := by omega
      have hg0 : AL.get r.exits e = none := by have h_ := hf43; rw [hjl, List.take_length] at h_; exact h_
      obtain ⟨ex2, hex2⟩ : ∃ l, l = r.exits ++ [(e, 0)] := ⟨_, rfl⟩
      have hlx2 : ex2.length = r.exits.length + 1 := by rw [hex2]; simp
      have hE2 : OwnL tyEx 110 R (.slice a849 ((r.exits ++ [(e, 0)]).length) cap850) ex2 c833 := by rw [hex2]; exact ho835
      have hxe : ex2[j_45]'(by omega) = (e, 0) := by simp [hex2, hjl]
      have hgd : (AL.get r.exits e).getD 0 = 0 := by rw [hg0]; rfl
      have hfin : List.set ex2 j_45 (e, 1) = AL.set r.exits e ((AL.get r.exits e).getD 0 + 1) := by rw [hgd, hex2, hjl, app_set, set_absent hg0]; rfl
      refine W_region_lit ?_
      refine Lq (ptr m 0) rfl rfl rfl rfl ?_
      refine Lq (ptr m 0) rfl rfl rfl rfl ?_
      refine Lq (ptr m 4) rfl rfl rfl (by kernel_rfl) ?_
      refine Lq (.slice (some ⟨b19, 0, none⟩) xs.length cap16) rfl rfl rfl (x_load rfl rfl (run_loadVar_one ti_38 (hst857.b 5) rfl)) ?_
      refine Lq (int (((pos xs k) : Nat) : Int)) rfl rfl rfl rfl ?_
      obtain ⟨cl858, cs859, hr860, hcb861, hsg862⟩ := Row.at hrow856 (pos xs k) (by simp only [List.length_set]; omega)
      rw [List.getElem_set_self] at hr860
      obtain rfl := tySp_open hr860
      refine Lq (ptr b19 (0 + (pos xs k) * 7)) rfl rfl rfl (x_indexAddr' rfl sl_38 ti_96 rfl rfl (by omega)) ?_
      refine Lq (ptr b19 (0 + (pos xs k) * 7 + 6)) rfl rfl rfl (by kernel_rfl) ?_
      refine Lq (.slice a849 ((r.exits ++ [(e, 0)]).length) cap850) rfl rfl rfl (x_load rfl rfl (run_loadVar_one ti_94 ((hst857.g 0) _ _ hcb861) (seg_get (j := 6) hsg862 rfl))) ?_
      refine Lq (int (j_45 : Int)) rfl rfl rfl rfl ?_
      obtain ⟨b863, cap864, N865, e866, hc867, hrow868, hback869⟩ := OwnL.row hE2 (by omega)
      obtain ⟨rfl, hl870, rfl⟩ := Value.slice.inj e866
      try rw [← hl870] at hback869
      obtain ⟨cl871, cs872, hr873, hcb874, hsg875⟩ := Row.at hrow868 j_45 (by omega)
      rw [hxe] at hr873
      obtain rfl := tyEx_open hr873
      refine Lq (ptr b863 (0 + j_45 * 2)) rfl rfl rfl (x_indexAddr' rfl sl_94 ti_110 rfl rfl (by omega)) ?_
      refine Lq (ptr b863 (0 + j_45 * 2 + 1)) rfl rfl rfl (by kernel_rfl) ?_
      refine Lq (int 0) rfl rfl rfl (x_load rfl rfl (run_loadVar_one ti_3 ((hst857.g 1) _ _ hcb874) (seg_get (j := 1) hsg875 rfl))) ?_
      refine Lq (int 1) rfl rfl rfl (by kernel_rfl) ?_
      obtain ⟨cl876, cs877, hr878, hcb879, hsg880⟩ := Row.at hrow868 j_45 (by omega)
      rw [hxe] at hr878
      obtain rfl := tyEx_open hr878
      refine Lq (ptr b863 (0 + j_45 * 2)) rfl rfl rfl (x_indexAddr' rfl sl_94 ti_110 rfl rfl (by omega)) ?_
      refine Lq (ptr b863 (0 + j_45 * 2 + 1)) rfl rfl rfl (by kernel_rfl) ?_
      obtain ⟨c881, w882, hr883, hrow884, hst885⟩ := Row.storeF (P := Tryd.prog) (v := (int 1)) (y := (e, 1)) (cl := [(int e), (int 0)]) hrow868 (hst857.front 1 rfl rfl) ti_3 j_45 (by omega) 1 (by decide) (fun c1 h1 => by rw [hxe] at h1; exact tyEx_fun h1) rfl rfl (tyEx_is rfl)
      refine L_skip rfl rfl (x_store rfl rfl rfl hr883) ?_
      refine L_nil ?_
      refine W_seq ?_
      refine W_seq ?_
      refine W_region_draw [] (fun w => Le R (hp w) ∧ Le c881 (hp w) ∧ Le c853 (hp w) ∧ Le (one b826 (.cells #[(int e), (int 0)] 110 (0, 0))) (hp w) ∧ Le cR (hp w) ∧ Le (one b1 (.cells #[(int k.1), (int k.2)] 43 (0, 0))) (hp w) ∧ Le (one m (.cells #[(int s.sample), (int s.warm), (int s.hot), (int s.cold), (.slice (some ⟨b19, 0, none⟩) xs.length cap16), vD] 41 (0, 0))) (hp w) ∧ Le cD (hp w)) hmix (by decide +kernel) (fun _ _ h => h) ?_
      have hst887 := hst885.draws (w882.drawn + 1)
      generalize draws w882 (w882.drawn + 1) = w886 at hst887 ⊢
      refine LP (ptr m 0) 0 rfl rfl rfl (fun u889 => rfl) hst887.a7 ?_
      refine LP (ptr m 0) 1 rfl rfl rfl (fun u892 => rfl) hst887.a7 ?_
      refine LP (ptr m 4) 2 rfl rfl rfl (fun u895 => (by kernel_rfl)) hst887.a7 ?_
      refine LT (.slice (some ⟨b19, 0, none⟩) xs.length cap16) 3 rfl rfl rfl (fun u898 hF899 => (x_load rfl rfl (run_loadVar_one ti_38 (hF899.2.2.2.2.2.2.1 _ _ (one_self _ _)) rfl))) hst887.a7 ?_
      refine LP (int (((pos xs k) : Nat) : Int)) 4 rfl rfl rfl (fun u901 => rfl) hst887.a7 ?_
      obtain ⟨cl906, cs907, hr908, hcb909, hsg910⟩ := Row.at hrow856 (pos xs k) (by simp only [List.length_set]; omega)
      rw [List.getElem_set_self] at hr908
      obtain rfl := tySp_open hr908
      refine LP (ptr b19 (0 + (pos xs k) * 7)) 5 rfl rfl rfl (fun u904 => (x_indexAddr' rfl sl_38 ti_96 rfl rfl (by omega))) hst887.a7 ?_
      refine LP (ptr b19 (0 + (pos xs k) * 7 + 6)) 6 rfl rfl rfl (fun u912 => (by kernel_rfl)) hst887.a7 ?_
      refine LT (.slice (some ⟨b863, 0, none⟩) ((r.exits ++ [(e, 0)]).length) cap850) 7 rfl rfl rfl (fun u915 hF916 => (x_load rfl rfl (run_loadVar_one ti_94 (hF916.2.2.1 _ _ hcb909) (seg_get (j := 6) hsg910 rfl)))) hst887.a7 ?_
      refine LP (int (j_45 : Int)) 8 rfl rfl rfl (fun u918 => rfl) hst887.a7 ?_
      obtain ⟨cl923, cs924, hr925, hcb926, hsg927⟩ := Row.at hrow884 j_45 (by simp only [List.length_set]; omega)
      rw [List.getElem_set_self] at hr925
      obtain rfl := tyEx_open hr925
      refine LP (ptr b863 (0 + j_45 * 2)) 9 rfl rfl rfl (fun u921 => (x_indexAddr' rfl sl_94 ti_110 rfl rfl (by omega))) hst887.a7 ?_
      refine LP (ptr b863 (0 + j_45 * 2 + 1)) 10 rfl rfl rfl (fun u929 => (by kernel_rfl)) hst887.a7 ?_
      refine LT (int 1) 11 rfl rfl rfl (fun u932 hF933 => (x_load rfl rfl (run_loadVar_one ti_3 (hF933.2.1 _ _ hcb926) (seg_get (j := 1) hsg927 rfl)))) hst887.a7 ?_
      refine LP (ptr m 0) 12 rfl rfl rfl (fun u935 => rfl) hst887.a7 ?_
      refine LP (ptr m 0) 13 rfl rfl rfl (fun u938 => rfl) hst887.a7 ?_
      refine LP (ptr m 3) 14 rfl rfl rfl (fun u941 => (by kernel_rfl)) hst887.a7 ?_
      refine LT (int s.cold) 15 rfl rfl rfl (fun u944 hF945 => (x_load rfl rfl (run_loadVar_one ti_3 (hF945.2.2.2.2.2.2.1 _ _ (one_self _ _)) rfl))) hst887.a7 ?_
      refine LP (.bool (decide (1 < s.cold))) 16 rfl rfl rfl (fun u947 => (by kernel_rfl)) hst887.a7 ?_
      refine LA_done (by decide +kernel) ?_
      rcases Bool.eq_false_or_eq_true (decide (1 < s.cold)) with c949 | c949
      ·
       have q950 := of_decide_eq_true c949
       refine W_cond_true (by show Value.bool _ = _; exact congrArg Value.bool c949) ?_
       refine W_seq ?_
       refine W_region_lit ?_
       refine Lq (.bool false) rfl rfl rfl rfl ?_
       refine L_nil ?_
       refine W_ret ?_
       refine ⟨_, _, res_run (rs := [.tmp 6]) (vs := [(.bool false)]) Tryd.results31 (.cons (.tmp rfl) .nil) hmk38, ?_⟩
       have he := left_stay (s := s) hgr (by simpa using c32) (of_decide_eq_false c35) (by rw [hgd]; simpa using of_decide_eq_true c949)
       rw [he]
       obtain ⟨c', hst', href'⟩ := RefP.closeE (s := s.put k { r with exits := (AL.set r.exits e ((AL.get r.exits e).getD 0 + 1)) }) (xs := List.set xs (pos xs k) (Sp.mk k ⟨r.tier, r.calls, r.count, r.failures, (AL.set r.exits e ((AL.get r.exits e).getD 0 + 1))⟩ (.slice (some ⟨b863, 0, none⟩) ((r.exits ++ [(e, 0)]).length) cap850))) (v := (.slice (some ⟨b863, 0, none⟩) ((r.exits ++ [(e, 0)]).length) cap850)) (ex := (AL.set r.exits e ((AL.get r.exits e).getD 0 + 1))) (((((hst887.front 6 rfl rfl).front 4 rfl rfl).front 2 rfl rfl).front 3 rfl rfl).front 6 rfl rfl) (setExL2 (hback25 R (List.set xs (pos xs k) (Sp.mk k ⟨r.tier, r.calls, r.count, r.failures, (r.exits ++ [(e, 0)])⟩ (.slice (some ⟨b863, 0, none⟩) ((r.exits ++ [(e, 0)]).length) cap850))) c853 (by first | rfl | (simp only [List.length_set]; done) | (simp only [List.length_set]; omega) | omega) hrow856) hj rfl rfl) (Eq.mp (congrArg (fun l_ => OwnL tyEx 110 R (.slice (some ⟨b863, 0, none⟩) ((r.exits ++ [(e, 0)]).length) cap850) l_ c881) hfin) (hback869 R (List.set ex2 j_45 (e, 1)) c881 (by first | rfl | (simp only [List.length_set]; done) | (simp only [List.length_set]; omega) | omega) hrow884)) (fun c1 h d => hback R (Sp.mk k ⟨r.tier, r.calls, r.count, r.failures, (AL.set r.exits e ((AL.get r.exits e).getD 0 + 1))⟩ (.slice (some ⟨b863, 0, none⟩) ((r.exits ++ [(e, 0)]).length) cap850)) c1 (Le.refl _) h d) hD (hset (Sp.mk k ⟨r.tier, r.calls, r.count, r.failures, (AL.set r.exits e ((AL.get r.exits e).getD 0 + 1))⟩ (.slice (some ⟨b863, 0, none⟩) ((r.exits ++ [(e, 0)]).length) cap850)) rfl).1 (Agr.put (hset (Sp.mk k ⟨r.tier, r.calls, r.count, r.failures, (AL.set r.exits e ((AL.get r.exits e).getD 0 + 1))⟩ (.slice (some ⟨b863, 0, none⟩) ((r.exits ++ [(e, 0)]).length) cap850)) rfl).2 hag) (by simp only [List.length_set]; show _ ≤ s.n + 1; omega) (hok.put k (hro.exit1 e))
       exact ⟨_, _, _, rfl, hst'.keepN 1 rfl, c', rfl, rfl, href'⟩
      ·
       have q951 := of_decide_eq_false c949
       refine W_cond_false (by show Value.bool _ = _; exact congrArg Value.bool c949) ?_
       refine W_skip ?_
       refine W_seq ?_
       refine W_region_draw [11] (fun w => Le R (hp w) ∧ Le c881 (hp w) ∧ Le c853 (hp w) ∧ Le (one b826 (.cells #[(int e), (int 0)] 110 (0, 0))) (hp w) ∧ Le cR (hp w) ∧ Le (one b1 (.cells #[(int k.1), (int k.2)] 43 (0, 0))) (hp w) ∧ Le (one m (.cells #[(int s.sample), (int s.warm), (int s.hot), (int s.cold), (.slice (some ⟨b19, 0, none⟩) xs.length cap16), vD] 41 (0, 0))) (hp w) ∧ Le cD (hp w)) hmix (by decide +kernel) (fun _ _ h => h) ?_
       have hst953 := hst887.draws (w886.drawn + 1)
       generalize draws w886 (w886.drawn + 1) = w952 at hst953 ⊢
       refine LP (ptr m 0) 0 rfl rfl rfl (fun u955 => rfl) hst953.a7 ?_
       refine LP (ptr m 0) 1 rfl rfl rfl (fun u958 => rfl) hst953.a7 ?_
       refine LP (ptr m 4) 2 rfl rfl rfl (fun u961 => (by kernel_rfl)) hst953.a7 ?_
       refine LT (.slice (some ⟨b19, 0, none⟩) xs.length cap16) 3 rfl rfl rfl (fun u964 hF965 => (x_load rfl rfl (run_loadVar_one ti_38 (hF965.2.2.2.2.2.2.1 _ _ (one_self _ _)) rfl))) hst953.a7 ?_
       refine LP (int (((pos xs k) : Nat) : Int)) 4 rfl rfl rfl (fun u967 => rfl) hst953.a7 ?_
       refine LP (ptr m 0) 5 rfl rfl rfl (fun u970 => rfl) hst953.a7 ?_
       refine LP (ptr m 0) 6 rfl rfl rfl (fun u973 => rfl) hst953.a7 ?_
       refine LP (ptr m 1) 7 rfl rfl rfl (fun u976 => (by kernel_rfl)) hst953.a7 ?_
       refine LT (int s.warm) 8 rfl rfl rfl (fun u979 hF980 => (x_load rfl rfl (run_loadVar_one ti_3 (hF980.2.2.2.2.2.2.1 _ _ (one_self _ _)) rfl))) hst953.a7 ?_
       obtain ⟨cl984, cs985, hr986, hcb987, hsg988⟩ := Row.at hrow856 (pos xs k) (by simp only [List.length_set]; omega)
       rw [List.getElem_set_self] at hr986
       obtain rfl := tySp_open hr986
       refine LP (ptr b19 (0 + (pos xs k) * 7)) 9 rfl rfl rfl (fun u982 => (x_indexAddr' rfl sl_38 ti_96 rfl rfl (by omega))) hst953.a7 ?_
       refine LP (ptr b19 (0 + (pos xs k) * 7 + 4)) 10 rfl rfl rfl (fun u990 => (by kernel_rfl)) hst953.a7 ?_
       refine LA_all [11] (by decide +kernel) (by simp) ?_
       intro i_ hi_
       simp only [List.mem_cons, List.not_mem_nil, or_false] at hi_
       subst hi_
       obtain ⟨c993, w994, hr995, hrow996, hst997⟩ := Row.storeF (P := Tryd.prog) (v := (int s.warm)) (y := (Sp.mk k ⟨r.tier, r.calls, s.warm, r.failures, (r.exits ++ [(e, 0)])⟩ (.slice (some ⟨b863, 0, none⟩) ((r.exits ++ [(e, 0)]).length) cap850))) (cl := (spCells (Sp.mk k ⟨r.tier, r.calls, r.count, r.failures, (r.exits ++ [(e, 0)])⟩ (.slice (some ⟨b863, 0, none⟩) ((r.exits ++ [(e, 0)]).length) cap850)))) hrow856 (hst953.front 1 rfl rfl) ti_3 (pos xs k) (by simp only [List.length_set]; omega) 4 (by decide) (fun c1 h1 => by rw [List.getElem_set_self] at h1; exact h1.1) rfl rfl (tySp_is rfl rfl)
       rw [List.set_set] at hrow996
       refine One_skip (i := 11) rfl rfl (Want.plain rfl) (x_store rfl rfl rfl hr995) (fun h => absurd h (by decide +kernel)) ?_
       refine LA_done (by decide +kernel) ?_
       refine W_seq ?_
       refine W_region_draw [] (fun w => Le R (hp w) ∧ Le (one b1 (.cells #[(int k.1), (int k.2)] 43 (0, 0))) (hp w)) hmix (by decide +kernel) (fun _ _ h => h) ?_
       have hst999 := hst997.draws (w994.drawn + 1)
       generalize draws w994 (w994.drawn + 1) = w998 at hst999 ⊢
       refine LP (ptr m 0) 0 rfl rfl rfl (fun u1001 => rfl) ⟨hst999.rle', hst999.g 4⟩ ?_
       refine LP (int (((pos xs k) : Nat) : Int)) 1 rfl rfl rfl (fun u1004 => rfl) ⟨hst999.rle', hst999.g 4⟩ ?_
       refine LP (int e) 2 rfl rfl rfl (fun u1007 => rfl) ⟨hst999.rle', hst999.g 4⟩ ?_
       refine LP (ptr m 0) 6 rfl rfl rfl (fun u1012 => rfl) ⟨hst999.rle', hst999.g 4⟩ ?_
       refine LP (ptr m 0) 7 rfl rfl rfl (fun u1017 => rfl) ⟨hst999.rle', hst999.g 4⟩ ?_
       refine LP (ptr m 3) 8 rfl rfl rfl (fun u1022 => (by kernel_rfl)) ⟨hst999.rle', hst999.g 4⟩ ?_
       refine LA_all [3, 9] (by decide +kernel) (by simp) ?_
       intro i_ hi_
       simp only [List.mem_cons, List.not_mem_nil, or_false] at hi_
       rcases hi_ with rfl | rfl
       ·
        refine One_call (i := 3) rfl rfl rfl (Want.plain rfl) (x_call (vs := #[(int e)]) rfl rfl (by kernel_rfl) ent_42) (Decimal_spec e (by omega) (by omega) (Le.refl _)) ?_
        rintro e1031 w1029 ⟨rfl, hw1032⟩
        have hst1030 := hst999.grown hw1032
        refine ⟨_, rfl, (fun _ => ⟨hst1030.rle', hst1030.g 4⟩), ?_⟩
        obtain ⟨t1036, ht1037⟩ : ∃ t_ : ByteArray, t_ = ⟨#[101, 120, 105, 116, 32]⟩ ++ ((Wd.i e).txt) := ⟨_, rfl⟩
        have ht1037z := size_app_le (show ByteArray.size ⟨#[101, 120, 105, 116, 32]⟩ ≤ 100 from by decide) (txt_i_le (n := e) (by constructor <;> omega))
        rw [← ht1037] at ht1037z
        simp only [Nat.reduceAdd] at ht1037z
        refine LP (.string t1036) 4 rfl rfl rfl (fun u1034 => (by rw [ht1037]; exact (x_strcat rfl rfl rfl (room_le (show ByteArray.size ⟨#[101, 120, 105, 116, 32]⟩ ≤ 100 from by decide) (txt_i_le (n := e) (by constructor <;> omega)) (by decide))))) ⟨hst1030.rle', hst1030.g 4⟩ ?_
        obtain ⟨t1041, ht1042⟩ : ∃ t_ : ByteArray, t_ = t1036 ++ ⟨#[32, 108, 101, 102, 116, 32]⟩ := ⟨_, rfl⟩
        have ht1042z := size_app_le ht1037z (show ByteArray.size ⟨#[32, 108, 101, 102, 116, 32]⟩ ≤ 100 from by decide)
        rw [← ht1042] at ht1042z
        simp only [Nat.reduceAdd] at ht1042z
        refine LP (.string t1041) 5 rfl rfl rfl (fun u1039 => (by rw [ht1042]; exact (x_strcat rfl rfl rfl (room_le ht1037z (show ByteArray.size ⟨#[32, 108, 101, 102, 116, 32]⟩ ≤ 100 from by decide) (by decide))))) ⟨hst1030.rle', hst1030.g 4⟩ ?_
        refine LA_all [9] (by decide +kernel) (by simp) ?_
        intro i_ hi_
        simp only [List.mem_cons, List.not_mem_nil, or_false] at hi_
        subst hi_
        refine One_val (i := 9) (v := (int s.cold)) rfl rfl rfl (Want.plain rfl) (x_load rfl rfl (run_loadVar_one ti_3 (hst1030.b 5) rfl)) (fun _ => ⟨hst1030.rle', hst1030.g 4⟩) ?_
        refine LA_all [10] (by decide +kernel) (by simp) ?_
        intro i_ hi_
        simp only [List.mem_cons, List.not_mem_nil, or_false] at hi_
        subst hi_
        refine One_call (i := 10) rfl rfl rfl (Want.plain rfl) (x_call (vs := #[(int s.cold)]) rfl rfl (by kernel_rfl) ent_42) (Decimal_spec s.cold (by omega) (by omega) (Le.refl _)) ?_
        rintro e1051 w1049 ⟨rfl, hw1052⟩
        have hst1050 := hst1030.grown hw1052
        refine ⟨_, rfl, (fun _ => ⟨hst1050.rle', hst1050.g 4⟩), ?_⟩
        obtain ⟨t1056, ht1057⟩ : ∃ t_ : ByteArray, t_ = t1041 ++ ((Wd.i s.cold).txt) := ⟨_, rfl⟩
        have ht1057z := size_app_le ht1042z (txt_i_le (n := s.cold) (by constructor <;> omega))
        rw [← ht1057] at ht1057z
        simp only [Nat.reduceAdd] at ht1057z
        refine LP (.string t1056) 11 rfl rfl rfl (fun u1054 => (by rw [ht1057]; exact (x_strcat rfl rfl rfl (room_le ht1042z (txt_i_le (n := s.cold) (by constructor <;> omega)) (by decide))))) ⟨hst1050.rle', hst1050.g 4⟩ ?_
        obtain ⟨t1061, ht1062⟩ : ∃ t_ : ByteArray, t_ = t1056 ++ ⟨#[32, 116, 105, 109, 101, 115]⟩ := ⟨_, rfl⟩
        have ht1062z := size_app_le ht1057z (show ByteArray.size ⟨#[32, 116, 105, 109, 101, 115]⟩ ≤ 100 from by decide)
        rw [← ht1062] at ht1062z
        simp only [Nat.reduceAdd] at ht1062z
        refine LP (.string t1061) 12 rfl rfl rfl (fun u1059 => (by rw [ht1062]; exact (x_strcat rfl rfl rfl (room_le ht1057z (show ByteArray.size ⟨#[32, 116, 105, 109, 101, 115]⟩ ≤ 100 from by decide) (by decide))))) ⟨hst1050.rle', hst1050.g 4⟩ ?_
        refine LA_all [13] (by decide +kernel) (by simp) ?_
        intro i_ hi_
        simp only [List.mem_cons, List.not_mem_nil, or_false] at hi_
        subst hi_
        refine One_call (i := 13) rfl rfl rfl (Want.plain rfl) (x_call (vs := #[(ptr m 0), (int (((pos xs k) : Nat) : Int)), (int 1), (.string t1061)]) rfl rfl (by kernel_rfl) ent_50) ?_ (fun _ _ h => h)
        refine calls_of_W (n := 45) Tryd.func50 rfl Tryd.ntmps50 (Nat.le_of_ble_eq_true rfl) ?_
        refine W_seq ?_
        refine W_region_lit ?_
        refine Lq (ptr m 0) rfl rfl rfl rfl ?_
        refine Lq (ptr m 0) rfl rfl rfl rfl ?_
        refine Lq (ptr m 4) rfl rfl rfl (by kernel_rfl) ?_
        refine Lq (.slice (some ⟨b19, 0, none⟩) xs.length cap16) rfl rfl rfl (x_load rfl rfl (run_loadVar_one ti_38 (hst1050.b 5) rfl)) ?_
        refine Lq (int (((pos xs k) : Nat) : Int)) rfl rfl rfl rfl ?_
        obtain ⟨cl1066, cs1067, hr1068, hcb1069, hsg1070⟩ := Row.at hrow996 (pos xs k) (by simp only [List.length_set]; omega)
        rw [List.getElem_set_self] at hr1068
        obtain rfl := tySp_open hr1068
        refine Lq (ptr b19 (0 + (pos xs k) * 7)) rfl rfl rfl (x_indexAddr' rfl sl_38 ti_96 rfl rfl (by omega)) ?_
        refine Lq (ptr b19 (0 + (pos xs k) * 7 + 5)) rfl rfl rfl (by kernel_rfl) ?_
        refine Lq (int r.failures) rfl rfl rfl (x_load rfl rfl (run_loadVar_one ti_3 ((hst1050.g 0) _ _ hcb1069) (seg_get (j := 5) hsg1070 rfl))) ?_
        refine Lq (int (r.failures + 1)) rfl rfl rfl (x_add rfl rfl rfl (by constructor <;> omega)) ?_
        obtain ⟨cl1071, cs1072, hr1073, hcb1074, hsg1075⟩ := Row.at hrow996 (pos xs k) (by simp only [List.length_set]; omega)
        rw [List.getElem_set_self] at hr1073
        obtain rfl := tySp_open hr1073
        refine Lq (ptr b19 (0 + (pos xs k) * 7)) rfl rfl rfl (x_indexAddr' rfl sl_38 ti_96 rfl rfl (by omega)) ?_
        refine Lq (ptr b19 (0 + (pos xs k) * 7 + 5)) rfl rfl rfl (by kernel_rfl) ?_
        obtain ⟨c1076, w1077, hr1078, hrow1079, hst1080⟩ := Row.storeF (P := Tryd.prog) (v := (int (r.failures + 1))) (y := (Sp.mk k ⟨r.tier, r.calls, s.warm, r.failures + 1, (r.exits ++ [(e, 0)])⟩ (.slice (some ⟨b863, 0, none⟩) ((r.exits ++ [(e, 0)]).length) cap850))) (cl := (spCells (Sp.mk k ⟨r.tier, r.calls, s.warm, r.failures, (r.exits ++ [(e, 0)])⟩ (.slice (some ⟨b863, 0, none⟩) ((r.exits ++ [(e, 0)]).length) cap850)))) hrow996 hst1050 ti_3 (pos xs k) (by simp only [List.length_set]; omega) 5 (by decide) (fun c1 h1 => by rw [List.getElem_set_self] at h1; exact h1.1) rfl rfl (tySp_is rfl rfl)
        rw [List.set_set] at hrow1079
        refine L_skip rfl rfl (x_store rfl rfl rfl hr1078) ?_
        refine L_nil ?_
        refine W_seq ?_
        refine W_region_lit ?_
        refine Lq (ptr m 0) rfl rfl rfl rfl ?_
        refine Lq (ptr m 0) rfl rfl rfl rfl ?_
        refine Lq (ptr m 4) rfl rfl rfl (by kernel_rfl) ?_
        refine Lq (.slice (some ⟨b19, 0, none⟩) xs.length cap16) rfl rfl rfl (x_load rfl rfl (run_loadVar_one ti_38 (hst1080.b 5) rfl)) ?_
        refine Lq (int (((pos xs k) : Nat) : Int)) rfl rfl rfl rfl ?_
        obtain ⟨cl1081, cs1082, hr1083, hcb1084, hsg1085⟩ := Row.at hrow1079 (pos xs k) (by simp only [List.length_set]; omega)
        rw [List.getElem_set_self] at hr1083
        obtain rfl := tySp_open hr1083
        refine Lq (ptr b19 (0 + (pos xs k) * 7)) rfl rfl rfl (x_indexAddr' rfl sl_38 ti_96 rfl rfl (by omega)) ?_
        refine Lq (ptr b19 (0 + (pos xs k) * 7 + 6)) rfl rfl rfl (by kernel_rfl) ?_
        obtain ⟨c1086, w1087, hr1088, hrow1089, hst1090⟩ := Row.storeF (P := Tryd.prog) (v := (.slice none 0 0)) (y := (Sp.mk k ⟨r.tier, r.calls, s.warm, r.failures + 1, []⟩ (.slice none 0 0))) (cl := (spCells (Sp.mk k ⟨r.tier, r.calls, s.warm, r.failures + 1, (r.exits ++ [(e, 0)])⟩ (.slice (some ⟨b863, 0, none⟩) ((r.exits ++ [(e, 0)]).length) cap850)))) hrow1079 hst1080 ti_94 (pos xs k) (by simp only [List.length_set]; omega) 6 (by decide) (fun c1 h1 => by rw [List.getElem_set_self] at h1; exact h1.1) rfl rfl (tySp_is rfl rfl)
        rw [List.set_set] at hrow1089
        refine L_skip rfl rfl (x_store rfl rfl rfl hr1088) ?_
        refine L_nil ?_
        refine W_seq ?_
        refine W_seq ?_
        refine W_region_lit ?_
        refine Lq (ptr m 0) rfl rfl rfl rfl ?_
        refine Lq (ptr m 0) rfl rfl rfl rfl ?_
        refine Lq (ptr m 4) rfl rfl rfl (by kernel_rfl) ?_
        refine Lq (.slice (some ⟨b19, 0, none⟩) xs.length cap16) rfl rfl rfl (x_load rfl rfl (run_loadVar_one ti_38 (hst1090.b 5) rfl)) ?_
        refine Lq (int (((pos xs k) : Nat) : Int)) rfl rfl rfl rfl ?_
        obtain ⟨cl1091, cs1092, hr1093, hcb1094, hsg1095⟩ := Row.at hrow1089 (pos xs k) (by simp only [List.length_set]; omega)
        rw [List.getElem_set_self] at hr1093
        obtain rfl := tySp_open hr1093
        refine Lq (ptr b19 (0 + (pos xs k) * 7)) rfl rfl rfl (x_indexAddr' rfl sl_38 ti_96 rfl rfl (by omega)) ?_
        refine Lq (ptr b19 (0 + (pos xs k) * 7 + 5)) rfl rfl rfl (by kernel_rfl) ?_
        refine Lq (int (r.failures + 1)) rfl rfl rfl (x_load rfl rfl (run_loadVar_one ti_3 ((hst1090.g 0) _ _ hcb1094) (seg_get (j := 5) hsg1095 rfl))) ?_
        refine Lq (.bool ((r.failures + 1) == 3)) rfl rfl rfl (by kernel_rfl) ?_
        refine L_nil ?_
        rcases Bool.eq_false_or_eq_true ((r.failures + 1) == 3) with c1096 | c1096
        ·
         have q1097 := eq_of_beq c1096
         refine W_cond_true (by show Value.bool _ = _; exact congrArg Value.bool c1096) ?_
         refine W_seq ?_
         refine W_region_lit ?_
         refine Lq (ptr m 0) rfl rfl rfl rfl ?_
         refine Lq (int (((pos xs k) : Nat) : Int)) rfl rfl rfl rfl ?_
         refine Lq (.string t1061) rfl rfl rfl rfl ?_
         obtain ⟨t1098, ht1099⟩ : ∃ t_ : ByteArray, t_ = t1061 ++ ⟨#[44, 32, 103, 105, 118, 101, 110, 32, 117, 112]⟩ := ⟨_, rfl⟩
         have ht1099z := size_app_le ht1062z (show ByteArray.size ⟨#[44, 32, 103, 105, 118, 101, 110, 32, 117, 112]⟩ ≤ 100 from by decide)
         rw [← ht1099] at ht1099z
         simp only [Nat.reduceAdd] at ht1099z
         refine Lq (.string t1098) rfl rfl rfl (by rw [ht1099]; exact (x_strcat rfl rfl rfl (room_le ht1062z (show ByteArray.size ⟨#[44, 32, 103, 105, 118, 101, 110, 32, 117, 112]⟩ ≤ 100 from by decide) (by decide)))) ?_
         refine L_call rfl rfl rfl (x_call (vs := #[(ptr m 0), (int (((pos xs k) : Nat) : Int)), (int (-1)), (.string t1098)]) rfl rfl (by kernel_rfl) ent_51) ?_ (fun _ _ h => h)
         refine calls_of_W (n := 36) Tryd.func51 rfl Tryd.ntmps51 (Nat.le_of_ble_eq_true rfl) ?_
         refine W_seq ?_
         refine W_region_lit ?_
         refine Lq (ptr m 0) rfl rfl rfl rfl ?_
         refine Lq (ptr m 0) rfl rfl rfl rfl ?_
         refine Lq (ptr m 4) rfl rfl rfl (by kernel_rfl) ?_
         refine Lq (.slice (some ⟨b19, 0, none⟩) xs.length cap16) rfl rfl rfl (x_load rfl rfl (run_loadVar_one ti_38 (hst1090.b 5) rfl)) ?_
         refine Lq (int (((pos xs k) : Nat) : Int)) rfl rfl rfl rfl ?_
         refine Lq (int (-1)) rfl rfl rfl rfl ?_
         obtain ⟨cl1100, cs1101, hr1102, hcb1103, hsg1104⟩ := Row.at hrow1089 (pos xs k) (by simp only [List.length_set]; omega)
         rw [List.getElem_set_self] at hr1102
         obtain rfl := tySp_open hr1102
         refine Lq (ptr b19 (0 + (pos xs k) * 7)) rfl rfl rfl (x_indexAddr' rfl sl_38 ti_96 rfl rfl (by omega)) ?_
         refine Lq (ptr b19 (0 + (pos xs k) * 7 + 2)) rfl rfl rfl (by kernel_rfl) ?_
         obtain ⟨c1105, w1106, hr1107, hrow1108, hst1109⟩ := Row.storeF (P := Tryd.prog) (v := (int (-1))) (y := (Sp.mk k ⟨(-1), r.calls, s.warm, r.failures + 1, []⟩ (.slice none 0 0))) (cl := (spCells (Sp.mk k ⟨r.tier, r.calls, s.warm, r.failures + 1, []⟩ (.slice none 0 0)))) hrow1089 hst1090 ti_3 (pos xs k) (by simp only [List.length_set]; omega) 2 (by decide) (fun c1 h1 => by rw [List.getElem_set_self] at h1; exact h1.1) rfl rfl (tySp_is rfl rfl)
         rw [List.set_set] at hrow1108
         refine L_skip rfl rfl (x_store rfl rfl rfl hr1107) ?_
         refine L_nil ?_
         refine W_region_draw [20] (fun w => Le R (hp w) ∧ Le c1105 (hp w) ∧ Le c881 (hp w) ∧ Le (one b826 (.cells #[(int e), (int 0)] 110 (0, 0))) (hp w) ∧ Le cR (hp w) ∧ Le (one b1 (.cells #[(int k.1), (int k.2)] 43 (0, 0))) (hp w) ∧ Le (one m (.cells #[(int s.sample), (int s.warm), (int s.hot), (int s.cold), (.slice (some ⟨b19, 0, none⟩) xs.length cap16), vD] 41 (0, 0))) (hp w)) hmix (by decide +kernel) (fun _ _ h => h) ?_
         have hst1111 := hst1109.draws (w1106.drawn + 1)
         generalize draws w1106 (w1106.drawn + 1) = w1110 at hst1111 ⊢
         refine LP (ptr m 0) 0 rfl rfl rfl (fun u1113 => rfl) ⟨hst1111.rle', hst1111.g 0, hst1111.g 1, hst1111.g 2, hst1111.g 3, hst1111.g 4, hst1111.g 5⟩ ?_
         refine LP (ptr m 0) 1 rfl rfl rfl (fun u1116 => rfl) ⟨hst1111.rle', hst1111.g 0, hst1111.g 1, hst1111.g 2, hst1111.g 3, hst1111.g 4, hst1111.g 5⟩ ?_
         refine LP (ptr m 0) 2 rfl rfl rfl (fun u1119 => rfl) ⟨hst1111.rle', hst1111.g 0, hst1111.g 1, hst1111.g 2, hst1111.g 3, hst1111.g 4, hst1111.g 5⟩ ?_
         refine LP (ptr m 5) 3 rfl rfl rfl (fun u1122 => (by kernel_rfl)) ⟨hst1111.rle', hst1111.g 0, hst1111.g 1, hst1111.g 2, hst1111.g 3, hst1111.g 4, hst1111.g 5⟩ ?_
         refine LT vD 4 rfl rfl rfl (fun u1125 hF1126 => (x_load rfl rfl (run_loadVar_one ti_39 (hF1126.2.2.2.2.2.2 _ _ (one_self _ _)) rfl))) ⟨hst1111.rle', hst1111.g 0, hst1111.g 1, hst1111.g 2, hst1111.g 3, hst1111.g 4, hst1111.g 5⟩ ?_
         refine LP (ptr m 0) 5 rfl rfl rfl (fun u1128 => rfl) ⟨hst1111.rle', hst1111.g 0, hst1111.g 1, hst1111.g 2, hst1111.g 3, hst1111.g 4, hst1111.g 5⟩ ?_
         refine LP (ptr m 0) 6 rfl rfl rfl (fun u1131 => rfl) ⟨hst1111.rle', hst1111.g 0, hst1111.g 1, hst1111.g 2, hst1111.g 3, hst1111.g 4, hst1111.g 5⟩ ?_
         refine LP (ptr m 4) 7 rfl rfl rfl (fun u1134 => (by kernel_rfl)) ⟨hst1111.rle', hst1111.g 0, hst1111.g 1, hst1111.g 2, hst1111.g 3, hst1111.g 4, hst1111.g 5⟩ ?_
         refine LT (.slice (some ⟨b19, 0, none⟩) xs.length cap16) 8 rfl rfl rfl (fun u1137 hF1138 => (x_load rfl rfl (run_loadVar_one ti_38 (hF1138.2.2.2.2.2.2 _ _ (one_self _ _)) rfl))) ⟨hst1111.rle', hst1111.g 0, hst1111.g 1, hst1111.g 2, hst1111.g 3, hst1111.g 4, hst1111.g 5⟩ ?_
         refine LP (int (((pos xs k) : Nat) : Int)) 9 rfl rfl rfl (fun u1140 => rfl) ⟨hst1111.rle', hst1111.g 0, hst1111.g 1, hst1111.g 2, hst1111.g 3, hst1111.g 4, hst1111.g 5⟩ ?_
         obtain ⟨cl1145, cs1146, hr1147, hcb1148, hsg1149⟩ := Row.at hrow1108 (pos xs k) (by simp only [List.length_set]; omega)
         rw [List.getElem_set_self] at hr1147
         obtain rfl := tySp_open hr1147
         refine LP (ptr b19 (0 + (pos xs k) * 7)) 10 rfl rfl rfl (fun u1143 => (x_indexAddr' rfl sl_38 ti_96 rfl rfl (by omega))) ⟨hst1111.rle', hst1111.g 0, hst1111.g 1, hst1111.g 2, hst1111.g 3, hst1111.g 4, hst1111.g 5⟩ ?_
         refine LP (ptr b19 (0 + (pos xs k) * 7)) 11 rfl rfl rfl (fun u1151 => (by kernel_rfl)) ⟨hst1111.rle', hst1111.g 0, hst1111.g 1, hst1111.g 2, hst1111.g 3, hst1111.g 4, hst1111.g 5⟩ ?_
         refine LT (.agg #[(int k.1), (int k.2)]) 12 rfl rfl rfl (fun u1154 hF1155 => (x_load rfl rfl (run_loadVar_agg ti_43 (hF1155.2.1 _ _ hcb1148) (seg_part hsg1149 0 2 rfl rfl) rfl))) ⟨hst1111.rle', hst1111.g 0, hst1111.g 1, hst1111.g 2, hst1111.g 3, hst1111.g 4, hst1111.g 5⟩ ?_
         refine LP (int (-1)) 13 rfl rfl rfl (fun u1157 => rfl) ⟨hst1111.rle', hst1111.g 0, hst1111.g 1, hst1111.g 2, hst1111.g 3, hst1111.g 4, hst1111.g 5⟩ ?_
         refine LP (.string t1098) 14 rfl rfl rfl (fun u1160 => rfl) ⟨hst1111.rle', hst1111.g 0, hst1111.g 1, hst1111.g 2, hst1111.g 3, hst1111.g 4, hst1111.g 5⟩ ?_
         refine LP (.agg #[(int k.1), (int k.2), (int (-1)), (.string t1098)]) 15 rfl rfl rfl (fun u1163 => (by kernel_rfl)) ⟨hst1111.rle', hst1111.g 0, hst1111.g 1, hst1111.g 2, hst1111.g 3, hst1111.g 4, hst1111.g 5⟩ ?_
         refine LA_all [16] (by decide +kernel) (by simp) ?_
         intro i_ hi_
         simp only [List.mem_cons, List.not_mem_nil, or_false] at hi_
         subst hi_
         refine One_new hst1111 (i := 16) (v := fun b => .slice (some ⟨b, 0, none⟩) 1 1) (ob := .cells #[(int k.1), (int k.2), (int (-1)), (.string t1098)] 99 (0, 0)) rfl rfl rfl (Want.plain rfl) (by kernel_rfl) (fun b1168 w1169 hst1170 => ?_)
         refine ⟨(fun _ => ⟨hst1170.rle', hst1170.g 1, hst1170.g 2, hst1170.g 3, hst1170.g 4, hst1170.g 5, hst1170.g 6⟩), ?_⟩
         refine LA_all [17] (by decide +kernel) (by simp) ?_
         intro i_ hi_
         simp only [List.mem_cons, List.not_mem_nil, or_false] at hi_
         subst hi_
         refine One_append (j := 17) hst1170 (t := 39) (e := 99) (ys := [Dec.mk k (-1) t1098]) (src := [(int k.1), (int k.2), (int (-1)), (.string t1098)]) 7 rfl rfl rfl (Want.plain rfl) rfl rfl rfl sl_39 ti_99 rfl rfl rfl hD (src_own (hst1170.b 0)) (Encs.one (tyDec_mk _ _ _ _ _)) rfl (by first | omega | (simp only [List.length_append, List.length_cons, List.length_nil]; omega)) (by first | (simp only [maxLen]; omega) | (simp only [List.length_append, List.length_cons, List.length_nil, maxLen]; omega)) (fun v1174 c1175 w1176 ho1177 hst1178 => ?_)
         refine ⟨(fun _ => ⟨hst1178.rle', hst1178.g 2, hst1178.g 3, hst1178.g 4, hst1178.g 5, hst1178.g 6, hst1178.g 7⟩), ?_⟩
         refine LP (ptr m 0) 18 rfl rfl rfl (fun u1180 => rfl) ⟨hst1178.rle', hst1178.g 2, hst1178.g 3, hst1178.g 4, hst1178.g 5, hst1178.g 6, hst1178.g 7⟩ ?_
         refine LP (ptr m 5) 19 rfl rfl rfl (fun u1183 => (by kernel_rfl)) ⟨hst1178.rle', hst1178.g 2, hst1178.g 3, hst1178.g 4, hst1178.g 5, hst1178.g 6, hst1178.g 7⟩ ?_
         refine LA_all [20] (by decide +kernel) (by simp) ?_
         intro i_ hi_
         simp only [List.mem_cons, List.not_mem_nil, or_false] at hi_
         subst hi_
         obtain ⟨a1186, cap1187, e1188, hc1189⟩ := ho1177.value
         subst e1188
         obtain ⟨w1190, hr1192, hst1191⟩ := run_storeW (P := Tryd.prog) (b := m) (off := 5) (v := (.slice a1186 ((s.decs ++ [Dec.mk k (-1) t1098]).length) cap1187)) hst1178 7 ti_39 rfl rfl rfl rfl rfl rfl
         change Step _ _ _ _ _ [c1175, one b1168 (.cells #[(int k.1), (int k.2), (int (-1)), (.string t1098)] 99 (0, 0)), c1105, c881, one b826 (.cells #[(int e), (int 0)] 110 (0, 0)), cR, one b1 (.cells #[(int k.1), (int k.2)] 43 (0, 0)), one m (.cells #[(int s.sample), (int s.warm), (int s.hot), (int s.cold), (.slice (some ⟨b19, 0, none⟩) xs.length cap16), (.slice a1186 ((s.decs ++ [Dec.mk k (-1) t1098]).length) cap1187)] 41 (0, 0))] at hst1191
         refine One_skip (i := 20) rfl rfl (Want.plain rfl) (x_store rfl rfl rfl hr1192) (fun h => absurd h (by decide +kernel)) ?_
         refine LA_done (by decide +kernel) ?_
         refine ⟨_, _, res_run (rs := []) (vs := []) Tryd.results51 .nil rfl, ?_⟩
         refine ⟨_, rfl, ?_⟩
         refine L_nil ?_
         refine W_ret ?_
         refine ⟨_, _, res_run (rs := []) (vs := []) Tryd.results50 .nil rfl, ?_⟩
         refine ⟨_, rfl, (fun _ => ⟨hst1191.rle', hst1191.g 6⟩), ?_⟩
         refine LA_done (by decide +kernel) ?_
         refine W_seq ?_
         refine W_region_lit ?_
         refine Lq (.bool true) rfl rfl rfl rfl ?_
         refine L_nil ?_
         refine W_ret ?_
         refine ⟨_, _, res_run (rs := [.tmp 6]) (vs := [(.bool true)]) Tryd.results31 (.cons (.tmp rfl) .nil) hmk38, ?_⟩
         have he := left_back (s := s) hgr (by simpa using c32) (of_decide_eq_false c35) (by rw [hgd]; simpa using of_decide_eq_false c949)
         rw [he]
         have hro2 : Rec.Ok s.n r := hro
         have he2 := setBack_up (s := s) (k := k) (t := 1) (l := [Wd.s wExit, Wd.i e, Wd.s wLeft, Wd.i s.cold, Wd.s wTimes]) (r := { r with exits := AL.set r.exits e ((AL.get r.exits e).getD 0 + 1), count := s.warm }) (eq_of_beq c1096)
         have hok2 := hok.setBack (k := k) (t := 1) (ex := AL.set r.exits e ((AL.get r.exits e).getD 0 + 1)) (c := s.warm) (l := [Wd.s wExit, Wd.i e, Wd.s wLeft, Wd.i s.cold, Wd.s wTimes]) hro2 (by constructor <;> omega) (by decide) (Sm5 (Sm_s (by decide)) (Sm_i (by constructor <;> omega)) (Sm_s (by decide)) (Sm_i (by constructor <;> omega)) (Sm_s (by decide))) (Nat.le_of_ble_eq_true rfl)
         rw [show s.setBack k { r with exits := AL.set r.exits e ((AL.get r.exits e).getD 0 + 1), count := s.warm } 1 [Wd.s wExit, Wd.i e, Wd.s wLeft, Wd.i s.cold, Wd.s wTimes] = _ from he2] at hok2
         rw [he2]
         obtain ⟨c', hst', href'⟩ := RefP.close (s := s.decide k ⟨r.tier, r.calls, s.warm, r.failures + 1, []⟩ (-1) (joinW [Wd.s (joinW [Wd.s wExit, Wd.i e, Wd.s wLeft, Wd.i s.cold, Wd.s wTimes] ++ wGiven)])) (xs := (List.set xs (pos xs k) (Sp.mk k ⟨(-1), r.calls, s.warm, r.failures + 1, []⟩ (.slice none 0 0)))) (((hst1191.front 5 rfl rfl).front 3 rfl rfl).front 7 rfl rfl) (hback25 R (List.set xs (pos xs k) (Sp.mk k ⟨(-1), r.calls, s.warm, r.failures + 1, []⟩ (.slice none 0 0))) c1105 (by first | rfl | (simp only [List.length_set]; done) | (simp only [List.length_set]; omega) | omega) hrow1108) (by have h_ := hback R (Sp.mk k ⟨(-1), r.calls, s.warm, r.failures + 1, []⟩ (.slice none 0 0)) non (Le.refl _) (OwnL.empty _ _ _) (fun b => .inl rfl); rw [non_uni] at h_; exact h_) (Eq.mp (congrArg (fun l_ => OwnL tyDec 99 R (.slice a1186 ((s.decs ++ [Dec.mk k (-1) t1098]).length) cap1187) l_ c1175) (show (s.decs ++ [Dec.mk k (-1) t1098]) = (s.decide k ⟨r.tier, r.calls, s.warm, r.failures + 1, []⟩ (-1) (joinW [Wd.s (joinW [Wd.s wExit, Wd.i e, Wd.s wLeft, Wd.i s.cold, Wd.s wTimes] ++ wGiven)])).decs from congrArg (fun t_ => s.decs ++ [Dec.mk k (-1) t_]) (by rw [ht1099, ht1062, ht1057, ht1042, ht1037, (dec_exit _ _)]; exact dec_given))) ho1177) (hset (Sp.mk k ⟨(-1), r.calls, s.warm, r.failures + 1, []⟩ (.slice none 0 0)) rfl).1 (Agr.decide (r := ⟨r.tier, r.calls, s.warm, r.failures + 1, []⟩) (hset (Sp.mk k ⟨(-1), r.calls, s.warm, r.failures + 1, []⟩ (.slice none 0 0)) rfl).2 hag) (by simp only [List.length_set]; show _ ≤ s.n + 1; omega) hok2
         exact ⟨_, _, _, rfl, hst'.keepN 1 rfl, c', rfl, rfl, href'⟩
        ·
         have q1193 := ne_of_beq_false c1096
         refine W_cond_false (by show Value.bool _ = _; exact congrArg Value.bool c1096) ?_
         refine W_skip ?_
         refine W_region_lit ?_
         refine Lq (ptr m 0) rfl rfl rfl rfl ?_
         refine Lq (int (((pos xs k) : Nat) : Int)) rfl rfl rfl rfl ?_
         refine Lq (int 1) rfl rfl rfl rfl ?_
         refine Lq (.string t1061) rfl rfl rfl rfl ?_
         refine L_call rfl rfl rfl (x_call (vs := #[(ptr m 0), (int (((pos xs k) : Nat) : Int)), (int 1), (.string t1061)]) rfl rfl (by kernel_rfl) ent_51) ?_ (fun _ _ h => h)
         refine calls_of_W (n := 36) Tryd.func51 rfl Tryd.ntmps51 (Nat.le_of_ble_eq_true rfl) ?_
         refine W_seq ?_
         refine W_region_lit ?_
         refine Lq (ptr m 0) rfl rfl rfl rfl ?_
         refine Lq (ptr m 0) rfl rfl rfl rfl ?_
         refine Lq (ptr m 4) rfl rfl rfl (by kernel_rfl) ?_
         refine Lq (.slice (some ⟨b19, 0, none⟩) xs.length cap16) rfl rfl rfl (x_load rfl rfl (run_loadVar_one ti_38 (hst1090.b 5) rfl)) ?_
         refine Lq (int (((pos xs k) : Nat) : Int)) rfl rfl rfl rfl ?_
         refine Lq (int 1) rfl rfl rfl rfl ?_
         obtain ⟨cl1194, cs1195, hr1196, hcb1197, hsg1198⟩ := Row.at hrow1089 (pos xs k) (by simp only [List.length_set]; omega)
         rw [List.getElem_set_self] at hr1196
         obtain rfl := tySp_open hr1196
         refine Lq (ptr b19 (0 + (pos xs k) * 7)) rfl rfl rfl (x_indexAddr' rfl sl_38 ti_96 rfl rfl (by omega)) ?_
         refine Lq (ptr b19 (0 + (pos xs k) * 7 + 2)) rfl rfl rfl (by kernel_rfl) ?_
         obtain ⟨c1199, w1200, hr1201, hrow1202, hst1203⟩ := Row.storeF (P := Tryd.prog) (v := (int 1)) (y := (Sp.mk k ⟨1, r.calls, s.warm, r.failures + 1, []⟩ (.slice none 0 0))) (cl := (spCells (Sp.mk k ⟨r.tier, r.calls, s.warm, r.failures + 1, []⟩ (.slice none 0 0)))) hrow1089 hst1090 ti_3 (pos xs k) (by simp only [List.length_set]; omega) 2 (by decide) (fun c1 h1 => by rw [List.getElem_set_self] at h1; exact h1.1) rfl rfl (tySp_is rfl rfl)
         rw [List.set_set] at hrow1202
         refine L_skip rfl rfl (x_store rfl rfl rfl hr1201) ?_
         refine L_nil ?_
         refine W_region_draw [20] (fun w => Le R (hp w) ∧ Le c1199 (hp w) ∧ Le c881 (hp w) ∧ Le (one b826 (.cells #[(int e), (int 0)] 110 (0, 0))) (hp w) ∧ Le cR (hp w) ∧ Le (one b1 (.cells #[(int k.1), (int k.2)] 43 (0, 0))) (hp w) ∧ Le (one m (.cells #[(int s.sample), (int s.warm), (int s.hot), (int s.cold), (.slice (some ⟨b19, 0, none⟩) xs.length cap16), vD] 41 (0, 0))) (hp w)) hmix (by decide +kernel) (fun _ _ h => h) ?_
         have hst1205 := hst1203.draws (w1200.drawn + 1)
         generalize draws w1200 (w1200.drawn + 1) = w1204 at hst1205 ⊢
         refine LP (ptr m 0) 0 rfl rfl rfl (fun u1207 => rfl) ⟨hst1205.rle', hst1205.g 0, hst1205.g 1, hst1205.g 2, hst1205.g 3, hst1205.g 4, hst1205.g 5⟩ ?_
         refine LP (ptr m 0) 1 rfl rfl rfl (fun u1210 => rfl) ⟨hst1205.rle', hst1205.g 0, hst1205.g 1, hst1205.g 2, hst1205.g 3, hst1205.g 4, hst1205.g 5⟩ ?_
         refine LP (ptr m 0) 2 rfl rfl rfl (fun u1213 => rfl) ⟨hst1205.rle', hst1205.g 0, hst1205.g 1, hst1205.g 2, hst1205.g 3, hst1205.g 4, hst1205.g 5⟩ ?_
         refine LP (ptr m 5) 3 rfl rfl rfl (fun u1216 => (by kernel_rfl)) ⟨hst1205.rle', hst1205.g 0, hst1205.g 1, hst1205.g 2, hst1205.g 3, hst1205.g 4, hst1205.g 5⟩ ?_
         refine LT vD 4 rfl rfl rfl (fun u1219 hF1220 => (x_load rfl rfl (run_loadVar_one ti_39 (hF1220.2.2.2.2.2.2 _ _ (one_self _ _)) rfl))) ⟨hst1205.rle', hst1205.g 0, hst1205.g 1, hst1205.g 2, hst1205.g 3, hst1205.g 4, hst1205.g 5⟩ ?_
         refine LP (ptr m 0) 5 rfl rfl rfl (fun u1222 => rfl) ⟨hst1205.rle', hst1205.g 0, hst1205.g 1, hst1205.g 2, hst1205.g 3, hst1205.g 4, hst1205.g 5⟩ ?_
         refine LP (ptr m 0) 6 rfl rfl rfl (fun u1225 => rfl) ⟨hst1205.rle', hst1205.g 0, hst1205.g 1, hst1205.g 2, hst1205.g 3, hst1205.g 4, hst1205.g 5⟩ ?_
         refine LP (ptr m 4) 7 rfl rfl rfl (fun u1228 => (by kernel_rfl)) ⟨hst1205.rle', hst1205.g 0, hst1205.g 1, hst1205.g 2, hst1205.g 3, hst1205.g 4, hst1205.g 5⟩ ?_
         refine LT (.slice (some ⟨b19, 0, none⟩) xs.length cap16) 8 rfl rfl rfl (fun u1231 hF1232 => (x_load rfl rfl (run_loadVar_one ti_38 (hF1232.2.2.2.2.2.2 _ _ (one_self _ _)) rfl))) ⟨hst1205.rle', hst1205.g 0, hst1205.g 1, hst1205.g 2, hst1205.g 3, hst1205.g 4, hst1205.g 5⟩ ?_
         refine LP (int (((pos xs k) : Nat) : Int)) 9 rfl rfl rfl (fun u1234 => rfl) ⟨hst1205.rle', hst1205.g 0, hst1205.g 1, hst1205.g 2, hst1205.g 3, hst1205.g 4, hst1205.g 5⟩ ?_
         obtain ⟨cl1239, cs1240, hr1241, hcb1242, hsg1243⟩ := Row.at hrow1202 (pos xs k) (by simp only [List.length_set]; omega)
         rw [List.getElem_set_self] at hr1241
         obtain rfl := tySp_open hr1241
         refine LP (ptr b19 (0 + (pos xs k) * 7)) 10 rfl rfl rfl (fun u1237 => (x_indexAddr' rfl sl_38 ti_96 rfl rfl (by omega))) ⟨hst1205.rle', hst1205.g 0, hst1205.g 1, hst1205.g 2, hst1205.g 3, hst1205.g 4, hst1205.g 5⟩ ?_
         refine LP (ptr b19 (0 + (pos xs k) * 7)) 11 rfl rfl rfl (fun u1245 => (by kernel_rfl)) ⟨hst1205.rle', hst1205.g 0, hst1205.g 1, hst1205.g 2, hst1205.g 3, hst1205.g 4, hst1205.g 5⟩ ?_
         refine LT (.agg #[(int k.1), (int k.2)]) 12 rfl rfl rfl (fun u1248 hF1249 => (x_load rfl rfl (run_loadVar_agg ti_43 (hF1249.2.1 _ _ hcb1242) (seg_part hsg1243 0 2 rfl rfl) rfl))) ⟨hst1205.rle', hst1205.g 0, hst1205.g 1, hst1205.g 2, hst1205.g 3, hst1205.g 4, hst1205.g 5⟩ ?_
         refine LP (int 1) 13 rfl rfl rfl (fun u1251 => rfl) ⟨hst1205.rle', hst1205.g 0, hst1205.g 1, hst1205.g 2, hst1205.g 3, hst1205.g 4, hst1205.g 5⟩ ?_
         refine LP (.string t1061) 14 rfl rfl rfl (fun u1254 => rfl) ⟨hst1205.rle', hst1205.g 0, hst1205.g 1, hst1205.g 2, hst1205.g 3, hst1205.g 4, hst1205.g 5⟩ ?_
         refine LP (.agg #[(int k.1), (int k.2), (int 1), (.string t1061)]) 15 rfl rfl rfl (fun u1257 => (by kernel_rfl)) ⟨hst1205.rle', hst1205.g 0, hst1205.g 1, hst1205.g 2, hst1205.g 3, hst1205.g 4, hst1205.g 5⟩ ?_
         refine LA_all [16] (by decide +kernel) (by simp) ?_
         intro i_ hi_
         simp only [List.mem_cons, List.not_mem_nil, or_false] at hi_
         subst hi_
         refine One_new hst1205 (i := 16) (v := fun b => .slice (some ⟨b, 0, none⟩) 1 1) (ob := .cells #[(int k.1), (int k.2), (int 1), (.string t1061)] 99 (0, 0)) rfl rfl rfl (Want.plain rfl) (by kernel_rfl) (fun b1262 w1263 hst1264 => ?_)
         refine ⟨(fun _ => ⟨hst1264.rle', hst1264.g 1, hst1264.g 2, hst1264.g 3, hst1264.g 4, hst1264.g 5, hst1264.g 6⟩), ?_⟩
         refine LA_all [17] (by decide +kernel) (by simp) ?_
         intro i_ hi_
         simp only [List.mem_cons, List.not_mem_nil, or_false] at hi_
         subst hi_
         refine One_append (j := 17) hst1264 (t := 39) (e := 99) (ys := [Dec.mk k 1 t1061]) (src := [(int k.1), (int k.2), (int 1), (.string t1061)]) 7 rfl rfl rfl (Want.plain rfl) rfl rfl rfl sl_39 ti_99 rfl rfl rfl hD (src_own (hst1264.b 0)) (Encs.one (tyDec_mk _ _ _ _ _)) rfl (by first | omega | (simp only [List.length_append, List.length_cons, List.length_nil]; omega)) (by first | (simp only [maxLen]; omega) | (simp only [List.length_append, List.length_cons, List.length_nil, maxLen]; omega)) (fun v1268 c1269 w1270 ho1271 hst1272 => ?_)
         refine ⟨(fun _ => ⟨hst1272.rle', hst1272.g 2, hst1272.g 3, hst1272.g 4, hst1272.g 5, hst1272.g 6, hst1272.g 7⟩), ?_⟩
         refine LP (ptr m 0) 18 rfl rfl rfl (fun u1274 => rfl) ⟨hst1272.rle', hst1272.g 2, hst1272.g 3, hst1272.g 4, hst1272.g 5, hst1272.g 6, hst1272.g 7⟩ ?_
         refine LP (ptr m 5) 19 rfl rfl rfl (fun u1277 => (by kernel_rfl)) ⟨hst1272.rle', hst1272.g 2, hst1272.g 3, hst1272.g 4, hst1272.g 5, hst1272.g 6, hst1272.g 7⟩ ?_
         refine LA_all [20] (by decide +kernel) (by simp) ?_
         intro i_ hi_
         simp only [List.mem_cons, List.not_mem_nil, or_false] at hi_
         subst hi_
         obtain ⟨a1280, cap1281, e1282, hc1283⟩ := ho1271.value
         subst e1282
         obtain ⟨w1284, hr1286, hst1285⟩ := run_storeW (P := Tryd.prog) (b := m) (off := 5) (v := (.slice a1280 ((s.decs ++ [Dec.mk k 1 t1061]).length) cap1281)) hst1272 7 ti_39 rfl rfl rfl rfl rfl rfl
         change Step _ _ _ _ _ [c1269, one b1262 (.cells #[(int k.1), (int k.2), (int 1), (.string t1061)] 99 (0, 0)), c1199, c881, one b826 (.cells #[(int e), (int 0)] 110 (0, 0)), cR, one b1 (.cells #[(int k.1), (int k.2)] 43 (0, 0)), one m (.cells #[(int s.sample), (int s.warm), (int s.hot), (int s.cold), (.slice (some ⟨b19, 0, none⟩) xs.length cap16), (.slice a1280 ((s.decs ++ [Dec.mk k 1 t1061]).length) cap1281)] 41 (0, 0))] at hst1285
         refine One_skip (i := 20) rfl rfl (Want.plain rfl) (x_store rfl rfl rfl hr1286) (fun h => absurd h (by decide +kernel)) ?_
         refine LA_done (by decide +kernel) ?_
         refine ⟨_, _, res_run (rs := []) (vs := []) Tryd.results51 .nil rfl, ?_⟩
         refine ⟨_, rfl, ?_⟩
         refine L_nil ?_
         refine ⟨_, _, res_run (rs := []) (vs := []) Tryd.results50 .nil rfl, ?_⟩
         refine ⟨_, rfl, (fun _ => ⟨hst1285.rle', hst1285.g 6⟩), ?_⟩
         refine LA_done (by decide +kernel) ?_
         refine W_seq ?_
         refine W_region_lit ?_
         refine Lq (.bool true) rfl rfl rfl rfl ?_
         refine L_nil ?_
         refine W_ret ?_
         refine ⟨_, _, res_run (rs := [.tmp 6]) (vs := [(.bool true)]) Tryd.results31 (.cons (.tmp rfl) .nil) hmk38, ?_⟩
         have he := left_back (s := s) hgr (by simpa using c32) (of_decide_eq_false c35) (by rw [hgd]; simpa using of_decide_eq_false c949)
         rw [he]
         have hro2 : Rec.Ok s.n r := hro
         have he2 := setBack_on (s := s) (k := k) (t := 1) (l := [Wd.s wExit, Wd.i e, Wd.s wLeft, Wd.i s.cold, Wd.s wTimes]) (r := { r with exits := AL.set r.exits e ((AL.get r.exits e).getD 0 + 1), count := s.warm }) (ne_of_beq_false c1096)
         have hok2 := hok.setBack (k := k) (t := 1) (ex := AL.set r.exits e ((AL.get r.exits e).getD 0 + 1)) (c := s.warm) (l := [Wd.s wExit, Wd.i e, Wd.s wLeft, Wd.i s.cold, Wd.s wTimes]) hro2 (by constructor <;> omega) (by decide) (Sm5 (Sm_s (by decide)) (Sm_i (by constructor <;> omega)) (Sm_s (by decide)) (Sm_i (by constructor <;> omega)) (Sm_s (by decide))) (Nat.le_of_ble_eq_true rfl)
         rw [show s.setBack k { r with exits := AL.set r.exits e ((AL.get r.exits e).getD 0 + 1), count := s.warm } 1 [Wd.s wExit, Wd.i e, Wd.s wLeft, Wd.i s.cold, Wd.s wTimes] = _ from he2] at hok2
         rw [he2]
         obtain ⟨c', hst', href'⟩ := RefP.close (s := s.decide k ⟨r.tier, r.calls, s.warm, r.failures + 1, []⟩ 1 (joinW [Wd.s (joinW [Wd.s wExit, Wd.i e, Wd.s wLeft, Wd.i s.cold, Wd.s wTimes])])) (xs := (List.set xs (pos xs k) (Sp.mk k ⟨1, r.calls, s.warm, r.failures + 1, []⟩ (.slice none 0 0)))) (((hst1285.front 5 rfl rfl).front 3 rfl rfl).front 7 rfl rfl) (hback25 R (List.set xs (pos xs k) (Sp.mk k ⟨1, r.calls, s.warm, r.failures + 1, []⟩ (.slice none 0 0))) c1199 (by first | rfl | (simp only [List.length_set]; done) | (simp only [List.length_set]; omega) | omega) hrow1202) (by have h_ := hback R (Sp.mk k ⟨1, r.calls, s.warm, r.failures + 1, []⟩ (.slice none 0 0)) non (Le.refl _) (OwnL.empty _ _ _) (fun b => .inl rfl); rw [non_uni] at h_; exact h_) (Eq.mp (congrArg (fun l_ => OwnL tyDec 99 R (.slice a1280 ((s.decs ++ [Dec.mk k 1 t1061]).length) cap1281) l_ c1269) (show (s.decs ++ [Dec.mk k 1 t1061]) = (s.decide k ⟨r.tier, r.calls, s.warm, r.failures + 1, []⟩ 1 (joinW [Wd.s (joinW [Wd.s wExit, Wd.i e, Wd.s wLeft, Wd.i s.cold, Wd.s wTimes])])).decs from congrArg (fun t_ => s.decs ++ [Dec.mk k 1 t_]) (by rw [ht1062, ht1057, ht1042, ht1037]; exact (dec_exit _ _).trans (joinW1 _).symm))) ho1271) (hset (Sp.mk k ⟨1, r.calls, s.warm, r.failures + 1, []⟩ (.slice none 0 0)) rfl).1 (Agr.decide (r := ⟨r.tier, r.calls, s.warm, r.failures + 1, []⟩) (hset (Sp.mk k ⟨1, r.calls, s.warm, r.failures + 1, []⟩ (.slice none 0 0)) rfl).2 hag) (by simp only [List.length_set]; show _ ≤ s.n + 1; omega) hok2
         exact ⟨_, _, _, rfl, hst'.keepN 1 rfl, c', rfl, rfl, href'⟩
       ·
        refine One_val (i := 9) (v := (int s.cold)) rfl rfl rfl (Want.plain rfl) (x_load rfl rfl (run_loadVar_one ti_3 (hst999.b 5) rfl)) (fun _ => ⟨hst999.rle', hst999.g 4⟩) ?_
        refine LA_all [3] (by decide +kernel) (by simp) ?_
        intro i_ hi_
        simp only [List.mem_cons, List.not_mem_nil, or_false] at hi_
        subst hi_
        refine One_call (i := 3) rfl rfl rfl (Want.plain rfl) (x_call (vs := #[(int e)]) rfl rfl (by kernel_rfl) ent_42) (Decimal_spec e (by omega) (by omega) (Le.refl _)) ?_
        rintro e1292 w1290 ⟨rfl, hw1293⟩
        have hst1291 := hst999.grown hw1293
        refine ⟨_, rfl, (fun _ => ⟨hst1291.rle', hst1291.g 4⟩), ?_⟩
        obtain ⟨t1297, ht1298⟩ : ∃ t_ : ByteArray, t_ = ⟨#[101, 120, 105, 116, 32]⟩ ++ ((Wd.i e).txt) := ⟨_, rfl⟩
        have ht1298z := size_app_le (show ByteArray.size ⟨#[101, 120, 105, 116, 32]⟩ ≤ 100 from by decide) (txt_i_le (n := e) (by constructor <;> omega))
        rw [← ht1298] at ht1298z
        simp only [Nat.reduceAdd] at ht1298z
        refine LP (.string t1297) 4 rfl rfl rfl (fun u1295 => (by rw [ht1298]; exact (x_strcat rfl rfl rfl (room_le (show ByteArray.size ⟨#[101, 120, 105, 116, 32]⟩ ≤ 100 from by decide) (txt_i_le (n := e) (by constructor <;> omega)) (by decide))))) ⟨hst1291.rle', hst1291.g 4⟩ ?_
        obtain ⟨t1302, ht1303⟩ : ∃ t_ : ByteArray, t_ = t1297 ++ ⟨#[32, 108, 101, 102, 116, 32]⟩ := ⟨_, rfl⟩
        have ht1303z := size_app_le ht1298z (show ByteArray.size ⟨#[32, 108, 101, 102, 116, 32]⟩ ≤ 100 from by decide)
        rw [← ht1303] at ht1303z
        simp only [Nat.reduceAdd] at ht1303z
        refine LP (.string t1302) 5 rfl rfl rfl (fun u1300 => (by rw [ht1303]; exact (x_strcat rfl rfl rfl (room_le ht1298z (show ByteArray.size ⟨#[32, 108, 101, 102, 116, 32]⟩ ≤ 100 from by decide) (by decide))))) ⟨hst1291.rle', hst1291.g 4⟩ ?_
        refine LA_all [10] (by decide +kernel) (by simp) ?_
        intro i_ hi_
        simp only [List.mem_cons, List.not_mem_nil, or_false] at hi_
        subst hi_
        refine One_call (i := 10) rfl rfl rfl (Want.plain rfl) (x_call (vs := #[(int s.cold)]) rfl rfl (by kernel_rfl) ent_42) (Decimal_spec s.cold (by omega) (by omega) (Le.refl _)) ?_
        rintro e1309 w1307 ⟨rfl, hw1310⟩
        have hst1308 := hst1291.grown hw1310
        refine ⟨_, rfl, (fun _ => ⟨hst1308.rle', hst1308.g 4⟩), ?_⟩
        obtain ⟨t1314, ht1315⟩ : ∃ t_ : ByteArray, t_ = t1302 ++ ((Wd.i s.cold).txt) := ⟨_, rfl⟩
        have ht1315z := size_app_le ht1303z (txt_i_le (n := s.cold) (by constructor <;> omega))
        rw [← ht1315] at ht1315z
        simp only [Nat.reduceAdd] at ht1315z
        refine LP (.string t1314) 11 rfl rfl rfl (fun u1312 => (by rw [ht1315]; exact (x_strcat rfl rfl rfl (room_le ht1303z (txt_i_le (n := s.cold) (by constructor <;> omega)) (by decide))))) ⟨hst1308.rle', hst1308.g 4⟩ ?_
        obtain ⟨t1319, ht1320⟩ : ∃ t_ : ByteArray, t_ = t1314 ++ ⟨#[32, 116, 105, 109, 101, 115]⟩ := ⟨_, rfl⟩
        have ht1320z := size_app_le ht1315z (show ByteArray.size ⟨#[32, 116, 105, 109, 101, 115]⟩ ≤ 100 from by decide)
        rw [← ht1320] at ht1320z
        simp only [Nat.reduceAdd] at ht1320z
        refine LP (.string t1319) 12 rfl rfl rfl (fun u1317 => (by rw [ht1320]; exact (x_strcat rfl rfl rfl (room_le ht1315z (show ByteArray.size ⟨#[32, 116, 105, 109, 101, 115]⟩ ≤ 100 from by decide) (by decide))))) ⟨hst1308.rle', hst1308.g 4⟩ ?_
        refine LA_all [13] (by decide +kernel) (by simp) ?_
        intro i_ hi_
        simp only [List.mem_cons, List.not_mem_nil, or_false] at hi_
        subst hi_
        refine One_call (i := 13) rfl rfl rfl (Want.plain rfl) (x_call (vs := #[(ptr m 0), (int (((pos xs k) : Nat) : Int)), (int 1), (.string t1319)]) rfl rfl (by kernel_rfl) ent_50) ?_ (fun _ _ h => h)
        refine calls_of_W (n := 45) Tryd.func50 rfl Tryd.ntmps50 (Nat.le_of_ble_eq_true rfl) ?_
        refine W_seq ?_
        refine W_region_lit ?_
        refine Lq (ptr m 0) rfl rfl rfl rfl ?_
        refine Lq (ptr m 0) rfl rfl rfl rfl ?_
        refine Lq (ptr m 4) rfl rfl rfl (by kernel_rfl) ?_
        refine Lq (.slice (some ⟨b19, 0, none⟩) xs.length cap16) rfl rfl rfl (x_load rfl rfl (run_loadVar_one ti_38 (hst1308.b 5) rfl)) ?_
        refine Lq (int (((pos xs k) : Nat) : Int)) rfl rfl rfl rfl ?_
        obtain ⟨cl1324, cs1325, hr1326, hcb1327, hsg1328⟩ := Row.at hrow996 (pos xs k) (by simp only [List.length_set]; omega)
        rw [List.getElem_set_self] at hr1326
        obtain rfl := tySp_open hr1326
        refine Lq (ptr b19 (0 + (pos xs k) * 7)) rfl rfl rfl (x_indexAddr' rfl sl_38 ti_96 rfl rfl (by omega)) ?_
        refine Lq (ptr b19 (0 + (pos xs k) * 7 + 5)) rfl rfl rfl (by kernel_rfl) ?_
        refine Lq (int r.failures) rfl rfl rfl (x_load rfl rfl (run_loadVar_one ti_3 ((hst1308.g 0) _ _ hcb1327) (seg_get (j := 5) hsg1328 rfl))) ?_
        refine Lq (int (r.failures + 1)) rfl rfl rfl (x_add rfl rfl rfl (by constructor <;> omega)) ?_
        obtain ⟨cl1329, cs1330, hr1331, hcb1332, hsg1333⟩ := Row.at hrow996 (pos xs k) (by simp only [List.length_set]; omega)
        rw [List.getElem_set_self] at hr1331
        obtain rfl := tySp_open hr1331
        refine Lq (ptr b19 (0 + (pos xs k) * 7)) rfl rfl rfl (x_indexAddr' rfl sl_38 ti_96 rfl rfl (by omega)) ?_
        refine Lq (ptr b19 (0 + (pos xs k) * 7 + 5)) rfl rfl rfl (by kernel_rfl) ?_
        obtain ⟨c1334, w1335, hr1336, hrow1337, hst1338⟩ := Row.storeF (P := Tryd.prog) (v := (int (r.failures + 1))) (y := (Sp.mk k ⟨r.tier, r.calls, s.warm, r.failures + 1, (r.exits ++ [(e, 0)])⟩ (.slice (some ⟨b863, 0, none⟩) ((r.exits ++ [(e, 0)]).length) cap850))) (cl := (spCells (Sp.mk k ⟨r.tier, r.calls, s.warm, r.failures, (r.exits ++ [(e, 0)])⟩ (.slice (some ⟨b863, 0, none⟩) ((r.exits ++ [(e, 0)]).length) cap850)))) hrow996 hst1308 ti_3 (pos xs k) (by simp only [List.length_set]; omega) 5 (by decide) (fun c1 h1 => by rw [List.getElem_set_self] at h1; exact h1.1) rfl rfl (tySp_is rfl rfl)
        rw [List.set_set] at hrow1337
        refine L_skip rfl rfl (x_store rfl rfl rfl hr1336) ?_
        refine L_nil ?_
        refine W_seq ?_
        refine W_region_lit ?_
        refine Lq (ptr m 0) rfl rfl rfl rfl ?_
        refine Lq (ptr m 0) rfl rfl rfl rfl ?_
        refine Lq (ptr m 4) rfl rfl rfl (by kernel_rfl) ?_
        refine Lq (.slice (some ⟨b19, 0, none⟩) xs.length cap16) rfl rfl rfl (x_load rfl rfl (run_loadVar_one ti_38 (hst1338.b 5) rfl)) ?_
        refine Lq (int (((pos xs k) : Nat) : Int)) rfl rfl rfl rfl ?_
        obtain ⟨cl1339, cs1340, hr1341, hcb1342, hsg1343⟩ := Row.at hrow1337 (pos xs k) (by simp only [List.length_set]; omega)
        rw [List.getElem_set_self] at hr1341
        obtain rfl := tySp_open hr1341
        refine Lq (ptr b19 (0 + (pos xs k) * 7)) rfl rfl rfl (x_indexAddr' rfl sl_38 ti_96 rfl rfl (by omega)) ?_
        refine Lq (ptr b19 (0 + (pos xs k) * 7 + 6)) rfl rfl rfl (by kernel_rfl) ?_
        obtain ⟨c1344, w1345, hr1346, hrow1347, hst1348⟩ := Row.storeF (P := Tryd.prog) (v := (.slice none 0 0)) (y := (Sp.mk k ⟨r.tier, r.calls, s.warm, r.failures + 1, []⟩ (.slice none 0 0))) (cl := (spCells (Sp.mk k ⟨r.tier, r.calls, s.warm, r.failures + 1, (r.exits ++ [(e, 0)])⟩ (.slice (some ⟨b863, 0, none⟩) ((r.exits ++ [(e, 0)]).length) cap850)))) hrow1337 hst1338 ti_94 (pos xs k) (by simp only [List.length_set]; omega) 6 (by decide) (fun c1 h1 => by rw [List.getElem_set_self] at h1; exact h1.1) rfl rfl (tySp_is rfl rfl)
        rw [List.set_set] at hrow1347
        refine L_skip rfl rfl (x_store rfl rfl rfl hr1346) ?_
        refine L_nil ?_
        refine W_seq ?_
        refine W_seq ?_
        refine W_region_lit ?_
        refine Lq (ptr m 0) rfl rfl rfl rfl ?_
        refine Lq (ptr m 0) rfl rfl rfl rfl ?_
        refine Lq (ptr m 4) rfl rfl rfl (by kernel_rfl) ?_
        refine Lq (.slice (some ⟨b19, 0, none⟩) xs.length cap16) rfl rfl rfl (x_load rfl rfl (run_loadVar_one ti_38 (hst1348.b 5) rfl)) ?_
        refine Lq (int (((pos xs k) : Nat) : Int)) rfl rfl rfl rfl ?_
        obtain ⟨cl1349, cs1350, hr1351, hcb1352, hsg1353⟩ := Row.at hrow1347 (pos xs k) (by simp only [List.length_set]; omega)
        rw [List.getElem_set_self] at hr1351
        obtain rfl := tySp_open hr1351
        refine Lq (ptr b19 (0 + (pos xs k) * 7)) rfl rfl rfl (x_indexAddr' rfl sl_38 ti_96 rfl rfl (by omega)) ?_
        refine Lq (ptr b19 (0 + (pos xs k) * 7 + 5)) rfl rfl rfl (by kernel_rfl) ?_
        refine Lq (int (r.failures + 1)) rfl rfl rfl (x_load rfl rfl (run_loadVar_one ti_3 ((hst1348.g 0) _ _ hcb1352) (seg_get (j := 5) hsg1353 rfl))) ?_
        refine Lq (.bool ((r.failures + 1) == 3)) rfl rfl rfl (by kernel_rfl) ?_
        refine L_nil ?_
        rcases Bool.eq_false_or_eq_true ((r.failures + 1) == 3) with c1354 | c1354
        ·
         have q1355 := eq_of_beq c1354
         refine W_cond_true (by show Value.bool _ = _; exact congrArg Value.bool c1354) ?_
         refine W_seq ?_
         refine W_region_lit ?_
         refine Lq (ptr m 0) rfl rfl rfl rfl ?_
         refine Lq (int (((pos xs k) : Nat) : Int)) rfl rfl rfl rfl ?_
         refine Lq (.string t1319) rfl rfl rfl rfl ?_
         obtain ⟨t1356, ht1357⟩ : ∃ t_ : ByteArray, t_ = t1319 ++ ⟨#[44, 32, 103, 105, 118, 101, 110, 32, 117, 112]⟩ := ⟨_, rfl⟩
         have ht1357z := size_app_le ht1320z (show ByteArray.size ⟨#[44, 32, 103, 105, 118, 101, 110, 32, 117, 112]⟩ ≤ 100 from by decide)
         rw [← ht1357] at ht1357z
         simp only [Nat.reduceAdd] at ht1357z
         refine Lq (.string t1356) rfl rfl rfl (by rw [ht1357]; exact (x_strcat rfl rfl rfl (room_le ht1320z (show ByteArray.size ⟨#[44, 32, 103, 105, 118, 101, 110, 32, 117, 112]⟩ ≤ 100 from by decide) (by decide)))) ?_
         refine L_call rfl rfl rfl (x_call (vs := #[(ptr m 0), (int (((pos xs k) : Nat) : Int)), (int (-1)), (.string t1356)]) rfl rfl (by kernel_rfl) ent_51) ?_ (fun _ _ h => h)
         refine calls_of_W (n := 36) Tryd.func51 rfl Tryd.ntmps51 (Nat.le_of_ble_eq_true rfl) ?_
         refine W_seq ?_
         refine W_region_lit ?_
         refine Lq (ptr m 0) rfl rfl rfl rfl ?_
         refine Lq (ptr m 0) rfl rfl rfl rfl ?_
         refine Lq (ptr m 4) rfl rfl rfl (by kernel_rfl) ?_
         refine Lq (.slice (some ⟨b19, 0, none⟩) xs.length cap16) rfl rfl rfl (x_load rfl rfl (run_loadVar_one ti_38 (hst1348.b 5) rfl)) ?_
         refine Lq (int (((pos xs k) : Nat) : Int)) rfl rfl rfl rfl ?_
         refine Lq (int (-1)) rfl rfl rfl rfl ?_
         obtain ⟨cl1358, cs1359, hr1360, hcb1361, hsg1362⟩ := Row.at hrow1347 (pos xs k) (by simp only [List.length_set]; omega)
         rw [List.getElem_set_self] at hr1360
         obtain rfl := tySp_open hr1360
         refine Lq (ptr b19 (0 + (pos xs k) * 7)) rfl rfl rfl (x_indexAddr' rfl sl_38 ti_96 rfl rfl (by omega)) ?_
         refine Lq (ptr b19 (0 + (pos xs k) * 7 + 2)) rfl rfl rfl (by kernel_rfl) ?_
         obtain ⟨c1363, w1364, hr1365, hrow1366, hst1367⟩ := Row.storeF (P := Tryd.prog) (v := (int (-1))) (y := (Sp.mk k ⟨(-1), r.calls, s.warm, r.failures + 1, []⟩ (.slice none 0 0))) (cl := (spCells (Sp.mk k ⟨r.tier, r.calls, s.warm, r.failures + 1, []⟩ (.slice none 0 0)))) hrow1347 hst1348 ti_3 (pos xs k) (by simp only [List.length_set]; omega) 2 (by decide) (fun c1 h1 => by rw [List.getElem_set_self] at h1; exact h1.1) rfl rfl (tySp_is rfl rfl)
         rw [List.set_set] at hrow1366
         refine L_skip rfl rfl (x_store rfl rfl rfl hr1365) ?_
         refine L_nil ?_
         refine W_region_draw [20] (fun w => Le R (hp w) ∧ Le c1363 (hp w) ∧ Le c881 (hp w) ∧ Le (one b826 (.cells #[(int e), (int 0)] 110 (0, 0))) (hp w) ∧ Le cR (hp w) ∧ Le (one b1 (.cells #[(int k.1), (int k.2)] 43 (0, 0))) (hp w) ∧ Le (one m (.cells #[(int s.sample), (int s.warm), (int s.hot), (int s.cold), (.slice (some ⟨b19, 0, none⟩) xs.length cap16), vD] 41 (0, 0))) (hp w)) hmix (by decide +kernel) (fun _ _ h => h) ?_
         have hst1369 := hst1367.draws (w1364.drawn + 1)
         generalize draws w1364 (w1364.drawn + 1) = w1368 at hst1369 ⊢
         refine LP (ptr m 0) 0 rfl rfl rfl (fun u1371 => rfl) ⟨hst1369.rle', hst1369.g 0, hst1369.g 1, hst1369.g 2, hst1369.g 3, hst1369.g 4, hst1369.g 5⟩ ?_
         refine LP (ptr m 0) 1 rfl rfl rfl (fun u1374 => rfl) ⟨hst1369.rle', hst1369.g 0, hst1369.g 1, hst1369.g 2, hst1369.g 3, hst1369.g 4, hst1369.g 5⟩ ?_
         refine LP (ptr m 0) 2 rfl rfl rfl (fun u1377 => rfl) ⟨hst1369.rle', hst1369.g 0, hst1369.g 1, hst1369.g 2, hst1369.g 3, hst1369.g 4, hst1369.g 5⟩ ?_
         refine LP (ptr m 5) 3 rfl rfl rfl (fun u1380 => (by kernel_rfl)) ⟨hst1369.rle', hst1369.g 0, hst1369.g 1, hst1369.g 2, hst1369.g 3, hst1369.g 4, hst1369.g 5⟩ ?_
         refine LT vD 4 rfl rfl rfl (fun u1383 hF1384 => (x_load rfl rfl (run_loadVar_one ti_39 (hF1384.2.2.2.2.2.2 _ _ (one_self _ _)) rfl))) ⟨hst1369.rle', hst1369.g 0, hst1369.g 1, hst1369.g 2, hst1369.g 3, hst1369.g 4, hst1369.g 5⟩ ?_
         refine LP (ptr m 0) 5 rfl rfl rfl (fun u1386 => rfl) ⟨hst1369.rle', hst1369.g 0, hst1369.g 1, hst1369.g 2, hst1369.g 3, hst1369.g 4, hst1369.g 5⟩ ?_
         refine LP (ptr m 0) 6 rfl rfl rfl (fun u1389 => rfl) ⟨hst1369.rle', hst1369.g 0, hst1369.g 1, hst1369.g 2, hst1369.g 3, hst1369.g 4, hst1369.g 5⟩ ?_
         refine LP (ptr m 4) 7 rfl rfl rfl (fun u1392 => (by kernel_rfl)) ⟨hst1369.rle', hst1369.g 0, hst1369.g 1, hst1369.g 2, hst1369.g 3, hst1369.g 4, hst1369.g 5⟩ ?_
         refine LT (.slice (some ⟨b19, 0, none⟩) xs.length cap16) 8 rfl rfl rfl (fun u1395 hF1396 => (x_load rfl rfl (run_loadVar_one ti_38 (hF1396.2.2.2.2.2.2 _ _ (one_self _ _)) rfl))) ⟨hst1369.rle', hst1369.g 0, hst1369.g 1, hst1369.g 2, hst1369.g 3, hst1369.g 4, hst1369.g 5⟩ ?_
         refine LP (int (((pos xs k) : Nat) : Int)) 9 rfl rfl rfl (fun u1398 => rfl) ⟨hst1369.rle', hst1369.g 0, hst1369.g 1, hst1369.g 2, hst1369.g 3, hst1369.g 4, hst1369.g 5⟩ ?_
         obtain ⟨cl1403, cs1404, hr1405, hcb1406, hsg1407⟩ := Row.at hrow1366 (pos xs k) (by simp only [List.length_set]; omega)
         rw [List.getElem_set_self] at hr1405
         obtain rfl := tySp_open hr1405
         refine LP (ptr b19 (0 + (pos xs k) * 7)) 10 rfl rfl rfl (fun u1401 => (x_indexAddr' rfl sl_38 ti_96 rfl rfl (by omega))) ⟨hst1369.rle', hst1369.g 0, hst1369.g 1, hst1369.g 2, hst1369.g 3, hst1369.g 4, hst1369.g 5⟩ ?_
         refine LP (ptr b19 (0 + (pos xs k) * 7)) 11 rfl rfl rfl (fun u1409 => (by kernel_rfl)) ⟨hst1369.rle', hst1369.g 0, hst1369.g 1, hst1369.g 2, hst1369.g 3, hst1369.g 4, hst1369.g 5⟩ ?_
         refine LT (.agg #[(int k.1), (int k.2)]) 12 rfl rfl rfl (fun u1412 hF1413 => (x_load rfl rfl (run_loadVar_agg ti_43 (hF1413.2.1 _ _ hcb1406) (seg_part hsg1407 0 2 rfl rfl) rfl))) ⟨hst1369.rle', hst1369.g 0, hst1369.g 1, hst1369.g 2, hst1369.g 3, hst1369.g 4, hst1369.g 5⟩ ?_
         refine LP (int (-1)) 13 rfl rfl rfl (fun u1415 => rfl) ⟨hst1369.rle', hst1369.g 0, hst1369.g 1, hst1369.g 2, hst1369.g 3, hst1369.g 4, hst1369.g 5⟩ ?_
         refine LP (.string t1356) 14 rfl rfl rfl (fun u1418 => rfl) ⟨hst1369.rle', hst1369.g 0, hst1369.g 1, hst1369.g 2, hst1369.g 3, hst1369.g 4, hst1369.g 5⟩ ?_
         refine LP (.agg #[(int k.1), (int k.2), (int (-1)), (.string t1356)]) 15 rfl rfl rfl (fun u1421 => (by kernel_rfl)) ⟨hst1369.rle', hst1369.g 0, hst1369.g 1, hst1369.g 2, hst1369.g 3, hst1369.g 4, hst1369.g 5⟩ ?_
         refine LA_all [16] (by decide +kernel) (by simp) ?_
         intro i_ hi_
         simp only [List.mem_cons, List.not_mem_nil, or_false] at hi_
         subst hi_
         refine One_new hst1369 (i := 16) (v := fun b => .slice (some ⟨b, 0, none⟩) 1 1) (ob := .cells #[(int k.1), (int k.2), (int (-1)), (.string t1356)] 99 (0, 0)) rfl rfl rfl (Want.plain rfl) (by kernel_rfl) (fun b1426 w1427 hst1428 => ?_)
         refine ⟨(fun _ => ⟨hst1428.rle', hst1428.g 1, hst1428.g 2, hst1428.g 3, hst1428.g 4, hst1428.g 5, hst1428.g 6⟩), ?_⟩
         refine LA_all [17] (by decide +kernel) (by simp) ?_
         intro i_ hi_
         simp only [List.mem_cons, List.not_mem_nil, or_false] at hi_
         subst hi_
         refine One_append (j := 17) hst1428 (t := 39) (e := 99) (ys := [Dec.mk k (-1) t1356]) (src := [(int k.1), (int k.2), (int (-1)), (.string t1356)]) 7 rfl rfl rfl (Want.plain rfl) rfl rfl rfl sl_39 ti_99 rfl rfl rfl hD (src_own (hst1428.b 0)) (Encs.one (tyDec_mk _ _ _ _ _)) rfl (by first | omega | (simp only [List.length_append, List.length_cons, List.length_nil]; omega)) (by first | (simp only [maxLen]; omega) | (simp only [List.length_append, List.length_cons, List.length_nil, maxLen]; omega)) (fun v1432 c1433 w1434 ho1435 hst1436 => ?_)
         refine ⟨(fun _ => ⟨hst1436.rle', hst1436.g 2, hst1436.g 3, hst1436.g 4, hst1436.g 5, hst1436.g 6, hst1436.g 7⟩), ?_⟩
         refine LP (ptr m 0) 18 rfl rfl rfl (fun u1438 => rfl) ⟨hst1436.rle', hst1436.g 2, hst1436.g 3, hst1436.g 4, hst1436.g 5, hst1436.g 6, hst1436.g 7⟩ ?_
         refine LP (ptr m 5) 19 rfl rfl rfl (fun u1441 => (by kernel_rfl)) ⟨hst1436.rle', hst1436.g 2, hst1436.g 3, hst1436.g 4, hst1436.g 5, hst1436.g 6, hst1436.g 7⟩ ?_
         refine LA_all [20] (by decide +kernel) (by simp) ?_
         intro i_ hi_
         simp only [List.mem_cons, List.not_mem_nil, or_false] at hi_
         subst hi_
         obtain ⟨a1444, cap1445, e1446, hc1447⟩ := ho1435.value
         subst e1446
         obtain ⟨w1448, hr1450, hst1449⟩ := run_storeW (P := Tryd.prog) (b := m) (off := 5) (v := (.slice a1444 ((s.decs ++ [Dec.mk k (-1) t1356]).length) cap1445)) hst1436 7 ti_39 rfl rfl rfl rfl rfl rfl
         change Step _ _ _ _ _ [c1433, one b1426 (.cells #[(int k.1), (int k.2), (int (-1)), (.string t1356)] 99 (0, 0)), c1363, c881, one b826 (.cells #[(int e), (int 0)] 110 (0, 0)), cR, one b1 (.cells #[(int k.1), (int k.2)] 43 (0, 0)), one m (.cells #[(int s.sample), (int s.warm), (int s.hot), (int s.cold), (.slice (some ⟨b19, 0, none⟩) xs.length cap16), (.slice a1444 ((s.decs ++ [Dec.mk k (-1) t1356]).length) cap1445)] 41 (0, 0))] at hst1449
         refine One_skip (i := 20) rfl rfl (Want.plain rfl) (x_store rfl rfl rfl hr1450) (fun h => absurd h (by decide +kernel)) ?_
         refine LA_done (by decide +kernel) ?_
         refine ⟨_, _, res_run (rs := []) (vs := []) Tryd.results51 .nil rfl, ?_⟩
         refine ⟨_, rfl, ?_⟩
         refine L_nil ?_
         refine W_ret ?_
         refine ⟨_, _, res_run (rs := []) (vs := []) Tryd.results50 .nil rfl, ?_⟩
         refine ⟨_, rfl, (fun _ => ⟨hst1449.rle', hst1449.g 6⟩), ?_⟩
         refine LA_done (by decide +kernel) ?_
         refine W_seq ?_
         refine W_region_lit ?_
         refine Lq (.bool true) rfl rfl rfl rfl ?_
         refine L_nil ?_
         refine W_ret ?_
         refine ⟨_, _, res_run (rs := [.tmp 6]) (vs := [(.bool true)]) Tryd.results31 (.cons (.tmp rfl) .nil) hmk38, ?_⟩
         have he := left_back (s := s) hgr (by simpa using c32) (of_decide_eq_false c35) (by rw [hgd]; simpa using of_decide_eq_false c949)
         rw [he]
         have hro2 : Rec.Ok s.n r := hro
         have he2 := setBack_up (s := s) (k := k) (t := 1) (l := [Wd.s wExit, Wd.i e, Wd.s wLeft, Wd.i s.cold, Wd.s wTimes]) (r := { r with exits := AL.set r.exits e ((AL.get r.exits e).getD 0 + 1), count := s.warm }) (eq_of_beq c1354)
         have hok2 := hok.setBack (k := k) (t := 1) (ex := AL.set r.exits e ((AL.get r.exits e).getD 0 + 1)) (c := s.warm) (l := [Wd.s wExit, Wd.i e, Wd.s wLeft, Wd.i s.cold, Wd.s wTimes]) hro2 (by constructor <;> omega) (by decide) (Sm5 (Sm_s (by decide)) (Sm_i (by constructor <;> omega)) (Sm_s (by decide)) (Sm_i (by constructor <;> omega)) (Sm_s (by decide))) (Nat.le_of_ble_eq_true rfl)
         rw [show s.setBack k { r with exits := AL.set r.exits e ((AL.get r.exits e).getD 0 + 1), count := s.warm } 1 [Wd.s wExit, Wd.i e, Wd.s wLeft, Wd.i s.cold, Wd.s wTimes] = _ from he2] at hok2
         rw [he2]
         obtain ⟨c', hst', href'⟩ := RefP.close (s := s.decide k ⟨r.tier, r.calls, s.warm, r.failures + 1, []⟩ (-1) (joinW [Wd.s (joinW [Wd.s wExit, Wd.i e, Wd.s wLeft, Wd.i s.cold, Wd.s wTimes] ++ wGiven)])) (xs := (List.set xs (pos xs k) (Sp.mk k ⟨(-1), r.calls, s.warm, r.failures + 1, []⟩ (.slice none 0 0)))) (((hst1449.front 5 rfl rfl).front 3 rfl rfl).front 7 rfl rfl) (hback25 R (List.set xs (pos xs k) (Sp.mk k ⟨(-1), r.calls, s.warm, r.failures + 1, []⟩ (.slice none 0 0))) c1363 (by first | rfl | (simp only [List.length_set]; done) | (simp only [List.length_set]; omega) | omega) hrow1366) (by have h_ := hback R (Sp.mk k ⟨(-1), r.calls, s.warm, r.failures + 1, []⟩ (.slice none 0 0)) non (Le.refl _) (OwnL.empty _ _ _) (fun b => .inl rfl); rw [non_uni] at h_; exact h_) (Eq.mp (congrArg (fun l_ => OwnL tyDec 99 R (.slice a1444 ((s.decs ++ [Dec.mk k (-1) t1356]).length) cap1445) l_ c1433) (show (s.decs ++ [Dec.mk k (-1) t1356]) = (s.decide k ⟨r.tier, r.calls, s.warm, r.failures + 1, []⟩ (-1) (joinW [Wd.s (joinW [Wd.s wExit, Wd.i e, Wd.s wLeft, Wd.i s.cold, Wd.s wTimes] ++ wGiven)])).decs from congrArg (fun t_ => s.decs ++ [Dec.mk k (-1) t_]) (by rw [ht1357, ht1320, ht1315, ht1303, ht1298, (dec_exit _ _)]; exact dec_given))) ho1435) (hset (Sp.mk k ⟨(-1), r.calls, s.warm, r.failures + 1, []⟩ (.slice none 0 0)) rfl).1 (Agr.decide (r := ⟨r.tier, r.calls, s.warm, r.failures + 1, []⟩) (hset (Sp.mk k ⟨(-1), r.calls, s.warm, r.failures + 1, []⟩ (.slice none 0 0)) rfl).2 hag) (by simp only [List.length_set]; show _ ≤ s.n + 1; omega) hok2
         exact ⟨_, _, _, rfl, hst'.keepN 1 rfl, c', rfl, rfl, href'⟩
        ·
         have q1451 := ne_of_beq_false c1354
         refine W_cond_false (by show Value.bool _ = _; exact congrArg Value.bool c1354) ?_
         refine W_skip ?_
         refine W_region_lit ?_
         refine Lq (ptr m 0) rfl rfl rfl rfl ?_
         refine Lq (int (((pos xs k) : Nat) : Int)) rfl rfl rfl rfl ?_
         refine Lq (int 1) rfl rfl rfl rfl ?_
         refine Lq (.string t1319) rfl rfl rfl rfl ?_
         refine L_call rfl rfl rfl (x_call (vs := #[(ptr m 0), (int (((pos xs k) : Nat) : Int)), (int 1), (.string t1319)]) rfl rfl (by kernel_rfl) ent_51) ?_ (fun _ _ h => h)
         refine calls_of_W (n := 36) Tryd.func51 rfl Tryd.ntmps51 (Nat.le_of_ble_eq_true rfl) ?_
         refine W_seq ?_
         refine W_region_lit ?_
         refine Lq (ptr m 0) rfl rfl rfl rfl ?_
         refine Lq (ptr m 0) rfl rfl rfl rfl ?_
         refine Lq (ptr m 4) rfl rfl rfl (by kernel_rfl) ?_
         refine Lq (.slice (some ⟨b19, 0, none⟩) xs.length cap16) rfl rfl rfl (x_load rfl rfl (run_loadVar_one ti_38 (hst1348.b 5) rfl)) ?_
         refine Lq (int (((pos xs k) : Nat) : Int)) rfl rfl rfl rfl ?_
         refine Lq (int 1) rfl rfl rfl rfl ?_
         obtain ⟨cl1452, cs1453, hr1454, hcb1455, hsg1456⟩ := Row.at hrow1347 (pos xs k) (by simp only [List.length_set]; omega)
         rw [List.getElem_set_self] at hr1454
         obtain rfl := tySp_open hr1454
         refine Lq (ptr b19 (0 + (pos xs k) * 7)) rfl rfl rfl (x_indexAddr' rfl sl_38 ti_96 rfl rfl (by omega)) ?_
         refine Lq (ptr b19 (0 + (pos xs k) * 7 + 2)) rfl rfl rfl (by kernel_rfl) ?_
         obtain ⟨c1457, w1458, hr1459, hrow1460, hst1461⟩ := Row.storeF (P := Tryd.prog) (v := (int 1)) (y := (Sp.mk k ⟨1, r.calls, s.warm, r.failures + 1, []⟩ (.slice none 0 0))) (cl := (spCells (Sp.mk k ⟨r.tier, r.calls, s.warm, r.failures + 1, []⟩ (.slice none 0 0)))) hrow1347 hst1348 ti_3 (pos xs k) (by simp only [List.length_set]; omega) 2 (by decide) (fun c1 h1 => by rw [List.getElem_set_self] at h1; exact h1.1) rfl rfl (tySp_is rfl rfl)
         rw [List.set_set] at hrow1460
         refine L_skip rfl rfl (x_store rfl rfl rfl hr1459) ?_
         refine L_nil ?_
         refine W_region_draw [20] (fun w => Le R (hp w) ∧ Le c1457 (hp w) ∧ Le c881 (hp w) ∧ Le (one b826 (.cells #[(int e), (int 0)] 110 (0, 0))) (hp w) ∧ Le cR (hp w) ∧ Le (one b1 (.cells #[(int k.1), (int k.2)] 43 (0, 0))) (hp w) ∧ Le (one m (.cells #[(int s.sample), (int s.warm), (int s.hot), (int s.cold), (.slice (some ⟨b19, 0, none⟩) xs.length cap16), vD] 41 (0, 0))) (hp w)) hmix (by decide +kernel) (fun _ _ h => h) ?_
         have hst1463 := hst1461.draws (w1458.drawn + 1)
         generalize draws w1458 (w1458.drawn + 1) = w1462 at hst1463 ⊢
         refine LP (ptr m 0) 0 rfl rfl rfl (fun u1465 => rfl) ⟨hst1463.rle', hst1463.g 0, hst1463.g 1, hst1463.g 2, hst1463.g 3, hst1463.g 4, hst1463.g 5⟩ ?_
         refine LP (ptr m 0) 1 rfl rfl rfl (fun u1468 => rfl) ⟨hst1463.rle', hst1463.g 0, hst1463.g 1, hst1463.g 2, hst1463.g 3, hst1463.g 4, hst1463.g 5⟩ ?_
         refine LP (ptr m 0) 2 rfl rfl rfl (fun u1471 => rfl) ⟨hst1463.rle', hst1463.g 0, hst1463.g 1, hst1463.g 2, hst1463.g 3, hst1463.g 4, hst1463.g 5⟩ ?_
         refine LP (ptr m 5) 3 rfl rfl rfl (fun u1474 => (by kernel_rfl)) ⟨hst1463.rle', hst1463.g 0, hst1463.g 1, hst1463.g 2, hst1463.g 3, hst1463.g 4, hst1463.g 5⟩ ?_
         refine LT vD 4 rfl rfl rfl (fun u1477 hF1478 => (x_load rfl rfl (run_loadVar_one ti_39 (hF1478.2.2.2.2.2.2 _ _ (one_self _ _)) rfl))) ⟨hst1463.rle', hst1463.g 0, hst1463.g 1, hst1463.g 2, hst1463.g 3, hst1463.g 4, hst1463.g 5⟩ ?_
         refine LP (ptr m 0) 5 rfl rfl rfl (fun u1480 => rfl) ⟨hst1463.rle', hst1463.g 0, hst1463.g 1, hst1463.g 2, hst1463.g 3, hst1463.g 4, hst1463.g 5⟩ ?_
         refine LP (ptr m 0) 6 rfl rfl rfl (fun u1483 => rfl) ⟨hst1463.rle', hst1463.g 0, hst1463.g 1, hst1463.g 2, hst1463.g 3, hst1463.g 4, hst1463.g 5⟩ ?_
         refine LP (ptr m 4) 7 rfl rfl rfl (fun u1486 => (by kernel_rfl)) ⟨hst1463.rle', hst1463.g 0, hst1463.g 1, hst1463.g 2, hst1463.g 3, hst1463.g 4, hst1463.g 5⟩ ?_
         refine LT (.slice (some ⟨b19, 0, none⟩) xs.length cap16) 8 rfl rfl rfl (fun u1489 hF1490 => (x_load rfl rfl (run_loadVar_one ti_38 (hF1490.2.2.2.2.2.2 _ _ (one_self _ _)) rfl))) ⟨hst1463.rle', hst1463.g 0, hst1463.g 1, hst1463.g 2, hst1463.g 3, hst1463.g 4, hst1463.g 5⟩ ?_
         refine LP (int (((pos xs k) : Nat) : Int)) 9 rfl rfl rfl (fun u1492 => rfl) ⟨hst1463.rle', hst1463.g 0, hst1463.g 1, hst1463.g 2, hst1463.g 3, hst1463.g 4, hst1463.g 5⟩ ?_
         obtain ⟨cl1497, cs1498, hr1499, hcb1500, hsg1501⟩ := Row.at hrow1460 (pos xs k) (by simp only [List.length_set]; omega)
         rw [List.getElem_set_self] at hr1499
         obtain rfl := tySp_open hr1499
         refine LP (ptr b19 (0 + (pos xs k) * 7)) 10 rfl rfl rfl (fun u1495 => (x_indexAddr' rfl sl_38 ti_96 rfl rfl (by omega))) ⟨hst1463.rle', hst1463.g 0, hst1463.g 1, hst1463.g 2, hst1463.g 3, hst1463.g 4, hst1463.g 5⟩ ?_
         refine LP (ptr b19 (0 + (pos xs k) * 7)) 11 rfl rfl rfl (fun u1503 => (by kernel_rfl)) ⟨hst1463.rle', hst1463.g 0, hst1463.g 1, hst1463.g 2, hst1463.g 3, hst1463.g 4, hst1463.g 5⟩ ?_
         refine LT (.agg #[(int k.1), (int k.2)]) 12 rfl rfl rfl (fun u1506 hF1507 => (x_load rfl rfl (run_loadVar_agg ti_43 (hF1507.2.1 _ _ hcb1500) (seg_part hsg1501 0 2 rfl rfl) rfl))) ⟨hst1463.rle', hst1463.g 0, hst1463.g 1, hst1463.g 2, hst1463.g 3, hst1463.g 4, hst1463.g 5⟩ ?_
         refine LP (int 1) 13 rfl rfl rfl (fun u1509 => rfl) ⟨hst1463.rle', hst1463.g 0, hst1463.g 1, hst1463.g 2, hst1463.g 3, hst1463.g 4, hst1463.g 5⟩ ?_
         refine LP (.string t1319) 14 rfl rfl rfl (fun u1512 => rfl) ⟨hst1463.rle', hst1463.g 0, hst1463.g 1, hst1463.g 2, hst1463.g 3, hst1463.g 4, hst1463.g 5⟩ ?_
         refine LP (.agg #[(int k.1), (int k.2), (int 1), (.string t1319)]) 15 rfl rfl rfl (fun u1515 => (by kernel_rfl)) ⟨hst1463.rle', hst1463.g 0, hst1463.g 1, hst1463.g 2, hst1463.g 3, hst1463.g 4, hst1463.g 5⟩ ?_
         refine LA_all [16] (by decide +kernel) (by simp) ?_
         intro i_ hi_
         simp only [List.mem_cons, List.not_mem_nil, or_false] at hi_
         subst hi_
         refine One_new hst1463 (i := 16) (v := fun b => .slice (some ⟨b, 0, none⟩) 1 1) (ob := .cells #[(int k.1), (int k.2), (int 1), (.string t1319)] 99 (0, 0)) rfl rfl rfl (Want.plain rfl) (by kernel_rfl) (fun b1520 w1521 hst1522 => ?_)
         refine ⟨(fun _ => ⟨hst1522.rle', hst1522.g 1, hst1522.g 2, hst1522.g 3, hst1522.g 4, hst1522.g 5, hst1522.g 6⟩), ?_⟩
         refine LA_all [17] (by decide +kernel) (by simp) ?_
         intro i_ hi_
         simp only [List.mem_cons, List.not_mem_nil, or_false] at hi_
         subst hi_
         refine One_append (j := 17) hst1522 (t := 39) (e := 99) (ys := [Dec.mk k 1 t1319]) (src := [(int k.1), (int k.2), (int 1), (.string t1319)]) 7 rfl rfl rfl (Want.plain rfl) rfl rfl rfl sl_39 ti_99 rfl rfl rfl hD (src_own (hst1522.b 0)) (Encs.one (tyDec_mk _ _ _ _ _)) rfl (by first | omega | (simp only [List.length_append, List.length_cons, List.length_nil]; omega)) (by first | (simp only [maxLen]; omega) | (simp only [List.length_append, List.length_cons, List.length_nil, maxLen]; omega)) (fun v1526 c1527 w1528 ho1529 hst1530 => ?_)
         refine ⟨(fun _ => ⟨hst1530.rle', hst1530.g 2, hst1530.g 3, hst1530.g 4, hst1530.g 5, hst1530.g 6, hst1530.g 7⟩), ?_⟩
         refine LP (ptr m 0) 18 rfl rfl rfl (fun u1532 => rfl) ⟨hst1530.rle', hst1530.g 2, hst1530.g 3, hst1530.g 4, hst1530.g 5, hst1530.g 6, hst1530.g 7⟩ ?_
         refine LP (ptr m 5) 19 rfl rfl rfl (fun u1535 => (by kernel_rfl)) ⟨hst1530.rle', hst1530.g 2, hst1530.g 3, hst1530.g 4, hst1530.g 5, hst1530.g 6, hst1530.g 7⟩ ?_
         refine LA_all [20] (by decide +kernel) (by simp) ?_
         intro i_ hi_
         simp only [List.mem_cons, List.not_mem_nil, or_false] at hi_
         subst hi_
         obtain ⟨a1538, cap1539, e1540, hc1541⟩ := ho1529.value
         subst e1540
         obtain ⟨w1542, hr1544, hst1543⟩ := run_storeW (P := Tryd.prog) (b := m) (off := 5) (v := (.slice a1538 ((s.decs ++ [Dec.mk k 1 t1319]).length) cap1539)) hst1530 7 ti_39 rfl rfl rfl rfl rfl rfl
         change Step _ _ _ _ _ [c1527, one b1520 (.cells #[(int k.1), (int k.2), (int 1), (.string t1319)] 99 (0, 0)), c1457, c881, one b826 (.cells #[(int e), (int 0)] 110 (0, 0)), cR, one b1 (.cells #[(int k.1), (int k.2)] 43 (0, 0)), one m (.cells #[(int s.sample), (int s.warm), (int s.hot), (int s.cold), (.slice (some ⟨b19, 0, none⟩) xs.length cap16), (.slice a1538 ((s.decs ++ [Dec.mk k 1 t1319]).length) cap1539)] 41 (0, 0))] at hst1543
         refine One_skip (i := 20) rfl rfl (Want.plain rfl) (x_store rfl rfl rfl hr1544) (fun h => absurd h (by decide +kernel)) ?_
         refine LA_done (by decide +kernel) ?_
         refine ⟨_, _, res_run (rs := []) (vs := []) Tryd.results51 .nil rfl, ?_⟩
         refine ⟨_, rfl, ?_⟩
         refine L_nil ?_
         refine ⟨_, _, res_run (rs := []) (vs := []) Tryd.results50 .nil rfl, ?_⟩
         refine ⟨_, rfl, (fun _ => ⟨hst1543.rle', hst1543.g 6⟩), ?_⟩
         refine LA_done (by decide +kernel) ?_
         refine W_seq ?_
         refine W_region_lit ?_
         refine Lq (.bool true) rfl rfl rfl rfl ?_
         refine L_nil ?_
         refine W_ret ?_
         refine ⟨_, _, res_run (rs := [.tmp 6]) (vs := [(.bool true)]) Tryd.results31 (.cons (.tmp rfl) .nil) hmk38, ?_⟩
         have he := left_back (s := s) hgr (by simpa using c32) (of_decide_eq_false c35) (by rw [hgd]; simpa using of_decide_eq_false c949)
         rw [he]
         have hro2 : Rec.Ok s.n r := hro
         have he2 := setBack_on (s := s) (k := k) (t := 1) (l := [Wd.s wExit, Wd.i e, Wd.s wLeft, Wd.i s.cold, Wd.s wTimes]) (r := { r with exits := AL.set r.exits e ((AL.get r.exits e).getD 0 + 1), count := s.warm }) (ne_of_beq_false c1354)
         have hok2 := hok.setBack (k := k) (t := 1) (ex := AL.set r.exits e ((AL.get r.exits e).getD 0 + 1)) (c := s.warm) (l := [Wd.s wExit, Wd.i e, Wd.s wLeft, Wd.i s.cold, Wd.s wTimes]) hro2 (by constructor <;> omega) (by decide) (Sm5 (Sm_s (by decide)) (Sm_i (by constructor <;> omega)) (Sm_s (by decide)) (Sm_i (by constructor <;> omega)) (Sm_s (by decide))) (Nat.le_of_ble_eq_true rfl)
         rw [show s.setBack k { r with exits := AL.set r.exits e ((AL.get r.exits e).getD 0 + 1), count := s.warm } 1 [Wd.s wExit, Wd.i e, Wd.s wLeft, Wd.i s.cold, Wd.s wTimes] = _ from he2] at hok2
         rw [he2]
         obtain ⟨c', hst', href'⟩ := RefP.close (s := s.decide k ⟨r.tier, r.calls, s.warm, r.failures + 1, []⟩ 1 (joinW [Wd.s (joinW [Wd.s wExit, Wd.i e, Wd.s wLeft, Wd.i s.cold, Wd.s wTimes])])) (xs := (List.set xs (pos xs k) (Sp.mk k ⟨1, r.calls, s.warm, r.failures + 1, []⟩ (.slice none 0 0)))) (((hst1543.front 5 rfl rfl).front 3 rfl rfl).front 7 rfl rfl) (hback25 R (List.set xs (pos xs k) (Sp.mk k ⟨1, r.calls, s.warm, r.failures + 1, []⟩ (.slice none 0 0))) c1457 (by first | rfl | (simp only [List.length_set]; done) | (simp only [List.length_set]; omega) | omega) hrow1460) (by have h_ := hback R (Sp.mk k ⟨1, r.calls, s.warm, r.failures + 1, []⟩ (.slice none 0 0)) non (Le.refl _) (OwnL.empty _ _ _) (fun b => .inl rfl); rw [non_uni] at h_; exact h_) (Eq.mp (congrArg (fun l_ => OwnL tyDec 99 R (.slice a1538 ((s.decs ++ [Dec.mk k 1 t1319]).length) cap1539) l_ c1527) (show (s.decs ++ [Dec.mk k 1 t1319]) = (s.decide k ⟨r.tier, r.calls, s.warm, r.failures + 1, []⟩ 1 (joinW [Wd.s (joinW [Wd.s wExit, Wd.i e, Wd.s wLeft, Wd.i s.cold, Wd.s wTimes])])).decs from congrArg (fun t_ => s.decs ++ [Dec.mk k 1 t_]) (by rw [ht1320, ht1315, ht1303, ht1298]; exact (dec_exit _ _).trans (joinW1 _).symm))) ho1529) (hset (Sp.mk k ⟨1, r.calls, s.warm, r.failures + 1, []⟩ (.slice none 0 0)) rfl).1 (Agr.decide (r := ⟨r.tier, r.calls, s.warm, r.failures + 1, []⟩) (hset (Sp.mk k ⟨1, r.calls, s.warm, r.failures + 1, []⟩ (.slice none 0 0)) rfl).2 hag) (by simp only [List.length_set]; show _ ≤ s.n + 1; omega) hok2
         exact ⟨_, _, _, rfl, hst'.keepN 1 rfl, c', rfl, rfl, href'⟩
 ·
  have hgn : AL.get s.recs k = none := by rw [← hag k]; exact get_nthr hsr hth
  refine W_region_lit ?_
  refine Lq (.bool (thr xs k)) rfl rfl rfl rfl ?_
  refine Lq (.bool (!(thr xs k))) rfl rfl rfl rfl ?_
  refine Lq (.bool (!(thr xs k))) rfl rfl rfl rfl ?_
  refine L_unwanted rfl rfl rfl rfl (by rw [hth]; try rfl) rfl rfl ?_
  refine L_unwanted rfl rfl rfl rfl (by rw [hth]; try rfl) rfl rfl ?_
  refine L_unwanted rfl rfl rfl rfl (by rw [hth]; try rfl) rfl rfl ?_
  refine L_unwanted rfl rfl rfl rfl (by rw [hth]; try rfl) rfl rfl ?_
  refine L_unwanted rfl rfl rfl rfl (by rw [hth]; try rfl) rfl rfl ?_
  refine L_unwanted rfl rfl rfl rfl (by rw [hth]; try rfl) rfl rfl ?_
  refine L_unwanted rfl rfl rfl rfl (by rw [hth]; try rfl) rfl rfl ?_
  refine L_unwanted rfl rfl rfl rfl (by rw [hth]; try rfl) rfl rfl ?_
  refine L_unwanted rfl rfl rfl rfl (by rw [hth]; try rfl) rfl rfl ?_
  refine Lq (.bool true) rfl rfl rfl (x_pick rfl rfl (by rw [hth]; rfl)) ?_
  refine Lq (.bool true) rfl rfl rfl rfl ?_
  refine L_unwanted rfl rfl rfl rfl rfl rfl rfl ?_
  refine L_unwanted rfl rfl rfl rfl rfl rfl rfl ?_
  refine Lq (.bool true) rfl rfl rfl rfl ?_
  refine L_nil ?_
  refine W_cond_true (by show Value.bool _ = _; exact congrArg Value.bool rfl) ?_
  refine W_seq ?_
  refine W_region_lit ?_
  refine Lq (.bool false) rfl rfl rfl rfl ?_
  refine L_nil ?_
  refine W_ret ?_
  refine ⟨_, _, res_run (rs := [.tmp 6]) (vs := [(.bool false)]) Tryd.results31 (.cons (.tmp rfl) .nil) rfl, ?_⟩
  rw [left_none (s := s) (k := k) e hgn]
  obtain ⟨c', hst', href'⟩ := RefP.close (s := s) (xs := xs) ((((hst5.front 4 rfl rfl).front 4 rfl rfl).front 4 rfl rfl).front 4 rfl rfl) hL hX hD hsr hag hln hok
  exact ⟨_, _, _, rfl, hst'.keepN 1 rfl, c', rfl, rfl, href'⟩

end Go.Fx.YtdkjoljcffkpkaaDoor
