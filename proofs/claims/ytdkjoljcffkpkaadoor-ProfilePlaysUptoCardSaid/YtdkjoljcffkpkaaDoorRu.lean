/-
  Chapter 14: Text of the reference, printed by gentr.py
-/
import Derived.Test.YtdkjoljcffkpkaaDoorRt
set_option linter.unusedSimpArgs false
set_option linter.unusedVariables false
namespace Go.Fx.YtdkjoljcffkpkaaDoor
open Go Go.Fx Go.Proofs
set_option maxRecDepth 20000

theorem ent_11 : Ent Tryd.prog 11 := fun _ _ => by kernel_rfl
theorem ent_12 : Ent Tryd.prog 12 := fun _ _ => by kernel_rfl
theorem ent_13 : Ent Tryd.prog 13 := fun _ _ => by kernel_rfl
theorem ent_16 : Ent Tryd.prog 16 := fun _ _ => by kernel_rfl
theorem sl_24 : SL Tryd.prog 24 32 := Tryd.underlying24
theorem ti_23 : TI Tryd.prog 23 true 4 32 (.agg #[(.int .i64 0), (.int .i64 0), (.int .i64 0), (.int .i64 0)]) := ⟨by kernel_rfl, by kernel_rfl⟩

theorem Decimal_neg1 {w : World} {R : Hp} (hR : Le R (hp w)) :
    Calls Tryd.prog 42 #[int (-1)] w fun e w' => e = .returned (.string (Wd.i (-1)).txt) ∧ Grow w w' := by
 have hst := Step.ro hR
 refine calls_of_W (n := 43) Tryd.func42 rfl Tryd.ntmps42 (Nat.le_of_ble_eq_true rfl) ?_
 refine W_seq ?_
 refine W_region_lit ?_
 refine Lq (.string ⟨#[]⟩) rfl rfl rfl rfl ?_
 refine L_nil ?_
 refine W_seq ?_
 refine W_seq ?_
 refine W_region_lit ?_
 refine Lq (int (-1)) rfl rfl rfl rfl ?_
 refine Lq (.bool false) rfl rfl rfl (by kernel_rfl) ?_
 refine Lq (.bool false) rfl rfl rfl rfl ?_
 refine L_unwanted rfl rfl rfl rfl rfl rfl rfl ?_
 refine L_unwanted rfl rfl rfl rfl rfl rfl rfl ?_
 refine Lq (.bool false) rfl rfl rfl rfl ?_
 refine L_nil ?_
 refine W_cond_false (by show Value.bool _ = _; exact congrArg Value.bool rfl) ?_
 refine W_skip ?_
 refine W_seq ?_
 refine W_seq ?_
 refine W_region_lit ?_
 refine Lq (int (-1)) rfl rfl rfl rfl ?_
 refine Lq (.bool true) rfl rfl rfl (by kernel_rfl) ?_
 refine L_nil ?_
 refine W_cond_true (by show Value.bool _ = _; exact congrArg Value.bool rfl) ?_
 refine W_seq ?_
 refine W_region_lit ?_
 refine Lq (.string ⟨#[]⟩) rfl rfl rfl rfl ?_
 refine L_nil ?_
 refine W_seq ?_
 refine W_seq ?_
 refine W_region_lit ?_
 refine Lq (int (-1)) rfl rfl rfl rfl ?_
 refine Lq (.bool false) rfl rfl rfl (by kernel_rfl) ?_
 refine L_nil ?_
 refine W_cond_false (by show Value.bool _ = _; exact congrArg Value.bool rfl) ?_
 refine W_skip ?_
 refine W_seq ?_
 refine W_region_lit ?_
 refine Lq (int (-1)) rfl rfl rfl rfl ?_
 refine Lq (int (-1)) rfl rfl rfl (by kernel_rfl) ?_
 refine Lq (int 1) rfl rfl rfl (by kernel_rfl) ?_
 refine Lq (int 1) rfl rfl rfl rfl ?_
 refine L_nil ?_
 refine W_seq ?_
 refine W_region_lit ?_
 refine Lq (.string ⟨#[]⟩) rfl rfl rfl rfl ?_
 refine Lq (.string (⟨#[45]⟩ ++ ⟨#[]⟩)) rfl rfl rfl (x_strcat rfl rfl rfl (by decide)) ?_
 refine Lq (int 1) rfl rfl rfl rfl ?_
 refine Lq (int 1) rfl rfl rfl rfl ?_
 refine Lq (int 2) rfl rfl rfl (by kernel_rfl) ?_
 refine Lq (.string ⟨#[49]⟩) rfl rfl rfl (by kernel_rfl) ?_
 refine Lq (.string ((⟨#[45]⟩ ++ ⟨#[]⟩) ++ ⟨#[49]⟩)) rfl rfl rfl (x_strcat rfl rfl rfl (by decide)) ?_
 refine Lq (.string ((⟨#[45]⟩ ++ ⟨#[]⟩) ++ ⟨#[49]⟩)) rfl rfl rfl rfl ?_
 refine L_nil ?_
 refine W_ret ?_
 refine ⟨_, _, res_run (rs := [.tmp 2]) (vs := [(.string ((⟨#[45]⟩ ++ ⟨#[]⟩) ++ ⟨#[49]⟩))]) Tryd.results42 (.cons (.tmp rfl) .nil) rfl, ?_⟩
 exact ⟨by rw [txt_neg1]; rfl, hst.grow⟩

theorem Decimal_le {w : World} {R : Hp} (n : Int) (h0 : -1 ≤ n) (h1 : n ≤ 1000000000) (hR : Le R (hp w)) : Calls Tryd.prog 42 #[int n] w fun e w' => e = .returned (.string (Wd.i n).txt) ∧ Grow w w' := by
  by_cases h : n = -1
  · subst h; exact Decimal_neg1 hR
  · exact Decimal_spec n (by omega) h1 hR

set_option maxHeartbeats 2000000 in
theorem TextR_spec {w : World} {R c : Hp} {m : Nat} {s : PS} (href : RefP R m s c) (hc : Le c (hp w)) (hR : Le R (hp w)) (hn : s.n ≤ 1000000000) (hpl : PlOk s) :
    Calls Tryd.prog 15 #[ptr m 0] w fun e w' => e = .returned (.string (txt s)) ∧ Grow w w' := by
 obtain ⟨xs, vL, vD, cL, cX, cD, rfl, hd1, hd2, hd3, hL, hX, hD, hsr, hag, hln, hok⟩ := href
 have h1 := (uni_l _ _).trans hc
 have h2 := (tri_1 cL cX cD).trans ((uni_r hd1).trans hc)
 have hv := OwnL.freeze hL hR h2
 have hst := Step.ro (Le.refl (hp w))
 have hcn := canon_sp hsr hag hok.keys
 have hlin : ∀ j ∈ xs.map Sp.pl, (lineB s j).size ≤ 1129 := fun j hj => lineB_le hok hn (hpl.i64 j (AL.get_some.1 (by rw [← hag j]; exact AL.get_some.2 (by rw [spAL_keys]; exact hj))))
 refine calls_of_W (n := 59) Tryd.func15 rfl Tryd.ntmps15 (Nat.le_of_ble_eq_true rfl) ?_
 refine W_seq ?_
 refine W_region_lit ?_
 refine Lq (.string ⟨#[]⟩) rfl rfl rfl rfl ?_
 refine L_nil ?_
 refine W_seq ?_
 refine W_region_lit ?_
 refine Lq (.string ⟨#[]⟩) rfl rfl rfl rfl ?_
 refine L_nil ?_
 refine W_seq ?_
 refine W_seq ?_
 refine W_region_lit ?_
 refine Lq (int 0) rfl rfl rfl rfl ?_
 refine L_nil ?_
 refine W_block ?_
 refine W_loop (I := fun σ w_ m_ => ∃ (σ0 : Fr) (k_ : Nat) (acc : ByteArray), σ = upd (upd (upd (upd σ0 0 (ptr m 0)) 2 (.string ⟨#[]⟩)) 3 (.string acc)) 4 (int (k_ : Int)) ∧ mks (σ0 0) = [] ∧ Step w (hp w) [] w_ (hp w) [] ∧ k_ ≤ xs.length ∧ acc = ⟨(textL s ((xs.map Sp.pl).take k_)).toArray⟩ ∧ m_ = xs.length - k_) (m := xs.length - 0) ?_ ?_
 ·
  exact ⟨_, 0, ⟨#[]⟩, (upd_of (upd_of (upd_of (upd_of rfl rfl) rfl) rfl) rfl), rfl, hst, (by omega), rfl, rfl⟩
 ·
  rintro m10 σ_ w3 ⟨s7, k_8, acc9, rfl, hmk1, hst2, hf5, hf6, rfl⟩
  refine W_seq ?_
  refine W_seq ?_
  refine W_region_lit ?_
  refine Lq (int (k_8 : Int)) rfl rfl rfl rfl ?_
  refine Lq (ptr m 0) rfl rfl rfl rfl ?_
  refine Lq (ptr m 0) rfl rfl rfl rfl ?_
  refine Lq (ptr m 4) rfl rfl rfl (by kernel_rfl) ?_
  refine Lq vL rfl rfl rfl (x_load rfl rfl (run_loadVar_one ti_38 (hst2.rle' _ _ (h1 _ _ (one_self _ _))) rfl)) ?_
  obtain ⟨a11, cap12, e13, hc14⟩ := hv.shape
  subst e13
  refine Lq (int (xs.length : Int)) rfl rfl rfl (x_len_slice rfl sl_38 rfl) ?_
  refine Lq (.bool (decide ((k_8 : Int) < (xs.length : Int)))) rfl rfl rfl (by kernel_rfl) ?_
  refine L_nil ?_
  rcases Bool.eq_false_or_eq_true (decide ((k_8 : Int) < (xs.length : Int))) with c15 | c15
  ·
   have q16 := of_decide_eq_true c15
   refine W_cond_true (by show Value.bool _ = _; exact congrArg Value.bool c15) ?_
   refine W_skip ?_
   refine W_seq ?_
   refine W_block ?_
   refine W_seq ?_
   refine W_region_lit ?_
   refine Lq (ptr m 0) rfl rfl rfl rfl ?_
   refine Lq (ptr m 0) rfl rfl rfl rfl ?_
   refine Lq (ptr m 4) rfl rfl rfl (by kernel_rfl) ?_
   refine Lq (.slice a11 xs.length cap12) rfl rfl rfl (x_load rfl rfl (run_loadVar_one ti_38 (hst2.rle' _ _ (h1 _ _ (one_self _ _))) rfl)) ?_
   refine Lq (int (k_8 : Int)) rfl rfl rfl rfl ?_
   obtain ⟨b17, off18, cap19, cs20, T21, fz22, e23, hc24, hb25, he26⟩ := hv.open (by omega)
   cases e23
   obtain ⟨cl27, hs28, hr29⟩ := he26.at k_8 (by omega)
   obtain ⟨⟨xp30, xr31, xv32⟩, hx33⟩ : ∃ x_ : Sp, x_ = (xs[k_8]'(by omega)) := ⟨_, rfl⟩
   obtain ⟨_, _, he_, _⟩ := hX.look k_8 (by omega)
   rw [← hx33] at he_
   obtain ⟨xa34, xc35, hxv36, _⟩ := he_.value
   simp only at hxv36
   subst hxv36
   rw [← hx33] at hr29
   obtain rfl := tySp_open hr29
   refine Lq (ptr b17 (off18 + k_8 * 7)) rfl rfl rfl (x_indexAddr' rfl sl_38 ti_96 rfl rfl (by omega)) ?_
   refine Lq (.agg #[(int xp30.1), (int xp30.2), (int xr31.tier), (int xr31.calls), (int xr31.count), (int xr31.failures), (.slice xa34 xr31.exits.length xc35)]) rfl rfl rfl (x_load rfl rfl (run_loadVar_agg ti_96 (hst2.rle' _ _ hb25) hs28 rfl)) ?_
   refine L_new hst2 (v := fun b => ptr b 0) (ob := .cells #[(int 0), (int 0), (int 0), (int 0), (int 0), (int 0), (.slice none 0 0)] 96 (0, 0)) rfl rfl rfl (by kernel_rfl) (fun b37 w38 hst39 => ?_)
   refine L_store hst39 0 ti_96 rfl rfl rfl rfl rfl rfl rfl rfl rfl rfl rfl (fun w40 hst41 => ?_)
   change Step _ _ _ _ _ [one b37 (.cells #[(int xp30.1), (int xp30.2), (int xr31.tier), (int xr31.calls), (int xr31.count), (int xr31.failures), (.slice xa34 xr31.exits.length xc35)] 96 (0, 0))] at hst41
   refine L_nil ?_
   refine W_seq ?_
   have hga := get_at hsr k_8 (by omega)
   rw [← hx33, hag] at hga
   have hgb : AL.get s.recs xp30 = some xr31 := hga
   have hrc := PS.rc_some hgb
   have hro := hok.recs _ _ hgb
   obtain ⟨hr42, hr43⟩ := hro.tier
   obtain ⟨hr44, hr45⟩ := hro.calls
   obtain ⟨hr46, hr47⟩ := hro.count
   obtain ⟨hr48, hr49⟩ := hro.failures
   have hpk := hpl _ (AL.get_some.1 ⟨_, hgb⟩)
   have haz := acc_size hf6 hlin (by omega)
   refine W_region_lit ?_
   refine Lq (ptr b37 0) rfl rfl rfl (by kernel_rfl) ?_
   refine Lq (ptr b37 0) rfl rfl rfl (by kernel_rfl) ?_
   refine Lq (int xp30.1) rfl rfl rfl (x_load rfl rfl (run_loadVar_one ti_3 (hst41.b 0) rfl)) ?_
   refine Lq (ptr b37 0) rfl rfl rfl (by kernel_rfl) ?_
   refine Lq (ptr b37 1) rfl rfl rfl (by kernel_rfl) ?_
   refine Lq (int xp30.2) rfl rfl rfl (x_load rfl rfl (run_loadVar_one ti_3 (hst41.b 0) rfl)) ?_
   refine Lq (ptr b37 2) rfl rfl rfl (by kernel_rfl) ?_
   refine Lq (int xr31.tier) rfl rfl rfl (x_load rfl rfl (run_loadVar_one ti_3 (hst41.b 0) rfl)) ?_
   refine Lq (ptr b37 3) rfl rfl rfl (by kernel_rfl) ?_
   refine Lq (int xr31.calls) rfl rfl rfl (x_load rfl rfl (run_loadVar_one ti_3 (hst41.b 0) rfl)) ?_
   refine Lq (ptr b37 4) rfl rfl rfl (by kernel_rfl) ?_
   refine Lq (int xr31.count) rfl rfl rfl (x_load rfl rfl (run_loadVar_one ti_3 (hst41.b 0) rfl)) ?_
   refine Lq (ptr b37 5) rfl rfl rfl (by kernel_rfl) ?_
   refine Lq (int xr31.failures) rfl rfl rfl (x_load rfl rfl (run_loadVar_one ti_3 (hst41.b 0) rfl)) ?_
   refine L_new hst41 (v := fun b => .slice (some ⟨b, 0, none⟩) 6 6) (ob := .cells #[(int xp30.1), (int xp30.2), (int xr31.tier), (int xr31.calls), (int xr31.count), (int xr31.failures)] 3 (0, 0)) rfl rfl rfl (by kernel_rfl) (fun b50 w51 hst52 => ?_)
   refine Lq (.slice (some ⟨b50, 0, none⟩) 6 6) rfl rfl rfl rfl ?_
   refine L_nil ?_
   refine W_seq ?_
   refine W_seq ?_
   refine W_region_lit ?_
   refine Lq (int 0) rfl rfl rfl rfl ?_
   refine L_nil ?_
   refine W_block ?_
   refine W_loop_unr 6 ?_
   show W _ _ _ _ _ _ _
   refine W_seq ?_
   refine W_seq ?_
   refine W_region_lit ?_
   refine Lq (int 0) rfl rfl rfl rfl ?_
   refine Lq (.slice (some ⟨b50, 0, none⟩) 6 6) rfl rfl rfl rfl ?_
   refine Lq (int 6) rfl rfl rfl (x_len_slice rfl sl_97 rfl) ?_
   refine Lq (.bool true) rfl rfl rfl (by kernel_rfl) ?_
   refine L_nil ?_
   refine W_cond_true (by show Value.bool _ = _; exact congrArg Value.bool rfl) ?_
   refine W_skip ?_
   refine W_seq ?_
   refine W_block ?_
   refine W_seq ?_
   refine W_seq ?_
   refine W_region_lit ?_
   refine Lq (int 0) rfl rfl rfl rfl ?_
   refine Lq (.bool false) rfl rfl rfl (by kernel_rfl) ?_
   refine L_nil ?_
   refine W_cond_false (by show Value.bool _ = _; exact congrArg Value.bool rfl) ?_
   refine W_skip ?_
   refine W_region_lit ?_
   refine Lq (.string acc9) rfl rfl rfl rfl ?_
   refine Lq (.slice (some ⟨b50, 0, none⟩) 6 6) rfl rfl rfl rfl ?_
   refine Lq (int 0) rfl rfl rfl rfl ?_
   refine Lq (ptr b50 0) rfl rfl rfl (x_indexAddr' (k := 0) (len := 6) rfl sl_97 ti_3 rfl rfl (by decide)) ?_
   refine Lq (int xp30.1) rfl rfl rfl (x_load rfl rfl (run_loadVar_one ti_3 (hst52.b 0) rfl)) ?_
   refine L_callG hst52 (v := (.string ((Wd.i xp30.1).txt))) rfl rfl rfl (x_call (vs := #[(int xp30.1)]) rfl rfl (by kernel_rfl) ent_42) (Decimal_le xp30.1 (by omega) (by omega) (Le.refl _)) (fun w53 hst54 => ?_)
   obtain ⟨t55, ht56⟩ : ∃ t_ : ByteArray, t_ = acc9 ++ ((Wd.i xp30.1).txt) := ⟨_, rfl⟩
   have ht56z := size_app_le haz (txt_i_le (n := xp30.1) (by constructor <;> omega))
   rw [← ht56] at ht56z
   simp only [Nat.reduceAdd] at ht56z
   refine Lq (.string t55) rfl rfl rfl (by rw [ht56]; exact (x_strcat rfl rfl rfl (room_le haz (txt_i_le (n := xp30.1) (by constructor <;> omega)) (by decide)))) ?_
   refine Lq (.string t55) rfl rfl rfl rfl ?_
   refine L_nil ?_
   refine W_region_lit ?_
   refine Lq (int 0) rfl rfl rfl rfl ?_
   refine Lq (int 1) rfl rfl rfl (by kernel_rfl) ?_
   refine Lq (int 1) rfl rfl rfl rfl ?_
   refine L_nil ?_
   show W _ _ _ _ _ _ _
   refine W_seq ?_
   refine W_seq ?_
   refine W_region_lit ?_
   refine Lq (int 1) rfl rfl rfl rfl ?_
   refine Lq (.slice (some ⟨b50, 0, none⟩) 6 6) rfl rfl rfl rfl ?_
   refine Lq (int 6) rfl rfl rfl (x_len_slice rfl sl_97 rfl) ?_
   refine Lq (.bool true) rfl rfl rfl (by kernel_rfl) ?_
   refine L_nil ?_
   refine W_cond_true (by show Value.bool _ = _; exact congrArg Value.bool rfl) ?_
   refine W_skip ?_
   refine W_seq ?_
   refine W_block ?_
   refine W_seq ?_
   refine W_seq ?_
   refine W_region_lit ?_
   refine Lq (int 1) rfl rfl rfl rfl ?_
   refine Lq (.bool true) rfl rfl rfl (by kernel_rfl) ?_
   refine L_nil ?_
   refine W_cond_true (by show Value.bool _ = _; exact congrArg Value.bool rfl) ?_
   refine W_region_lit ?_
   refine Lq (.string t55) rfl rfl rfl rfl ?_
   obtain ⟨t57, ht58⟩ : ∃ t_ : ByteArray, t_ = t55 ++ ⟨#[32]⟩ := ⟨_, rfl⟩
   have ht58z := size_app_le ht56z (show ByteArray.size ⟨#[32]⟩ ≤ 100 from by decide)
   rw [← ht58] at ht58z
   simp only [Nat.reduceAdd] at ht58z
   refine Lq (.string t57) rfl rfl rfl (by rw [ht58]; exact (x_strcat rfl rfl rfl (room_le ht56z (show ByteArray.size ⟨#[32]⟩ ≤ 100 from by decide) (by decide)))) ?_
   refine Lq (.string t57) rfl rfl rfl rfl ?_
   refine L_nil ?_
   refine W_region_lit ?_
   refine Lq (.string t57) rfl rfl rfl rfl ?_
   refine Lq (.slice (some ⟨b50, 0, none⟩) 6 6) rfl rfl rfl rfl ?_
   refine Lq (int 1) rfl rfl rfl rfl ?_
   refine Lq (ptr b50 1) rfl rfl rfl (x_indexAddr' (k := 1) (len := 6) rfl sl_97 ti_3 rfl rfl (by decide)) ?_
   refine Lq (int xp30.2) rfl rfl rfl (x_load rfl rfl (run_loadVar_one ti_3 (hst54.b 0) rfl)) ?_
   refine L_callG hst54 (v := (.string ((Wd.i xp30.2).txt))) rfl rfl rfl (x_call (vs := #[(int xp30.2)]) rfl rfl (by kernel_rfl) ent_42) (Decimal_le xp30.2 (by omega) (by omega) (Le.refl _)) (fun w59 hst60 => ?_)
   obtain ⟨t61, ht62⟩ : ∃ t_ : ByteArray, t_ = t57 ++ ((Wd.i xp30.2).txt) := ⟨_, rfl⟩
   have ht62z := size_app_le ht58z (txt_i_le (n := xp30.2) (by constructor <;> omega))
   rw [← ht62] at ht62z
   simp only [Nat.reduceAdd] at ht62z
   refine Lq (.string t61) rfl rfl rfl (by rw [ht62]; exact (x_strcat rfl rfl rfl (room_le ht58z (txt_i_le (n := xp30.2) (by constructor <;> omega)) (by decide)))) ?_
   refine Lq (.string t61) rfl rfl rfl rfl ?_
   refine L_nil ?_
   refine W_region_lit ?_
   refine Lq (int 1) rfl rfl rfl rfl ?_
   refine Lq (int 2) rfl rfl rfl (by kernel_rfl) ?_
   refine Lq (int 2) rfl rfl rfl rfl ?_
   refine L_nil ?_
   show W _ _ _ _ _ _ _
   refine W_seq ?_
   refine W_seq ?_
   refine W_region_lit ?_
   refine Lq (int 2) rfl rfl rfl rfl ?_
   refine Lq (.slice (some ⟨b50, 0, none⟩) 6 6) rfl rfl rfl rfl ?_
   refine Lq (int 6) rfl rfl rfl (x_len_slice rfl sl_97 rfl) ?_
   refine Lq (.bool true) rfl rfl rfl (by kernel_rfl) ?_
   refine L_nil ?_
   refine W_cond_true (by show Value.bool _ = _; exact congrArg Value.bool rfl) ?_
   refine W_skip ?_
   refine W_seq ?_
   refine W_block ?_
   refine W_seq ?_
   refine W_seq ?_
   refine W_region_lit ?_
   refine Lq (int 2) rfl rfl rfl rfl ?_
   refine Lq (.bool true) rfl rfl rfl (by kernel_rfl) ?_
   refine L_nil ?_
   refine W_cond_true (by show Value.bool _ = _; exact congrArg Value.bool rfl) ?_
   refine W_region_lit ?_
   refine Lq (.string t61) rfl rfl rfl rfl ?_
   obtain ⟨t63, ht64⟩ : ∃ t_ : ByteArray, t_ = t61 ++ ⟨#[32]⟩ := ⟨_, rfl⟩
   have ht64z := size_app_le ht62z (show ByteArray.size ⟨#[32]⟩ ≤ 100 from by decide)
   rw [← ht64] at ht64z
   simp only [Nat.reduceAdd] at ht64z
   refine Lq (.string t63) rfl rfl rfl (by rw [ht64]; exact (x_strcat rfl rfl rfl (room_le ht62z (show ByteArray.size ⟨#[32]⟩ ≤ 100 from by decide) (by decide)))) ?_
   refine Lq (.string t63) rfl rfl rfl rfl ?_
   refine L_nil ?_
   refine W_region_lit ?_
   refine Lq (.string t63) rfl rfl rfl rfl ?_
   refine Lq (.slice (some ⟨b50, 0, none⟩) 6 6) rfl rfl rfl rfl ?_
   refine Lq (int 2) rfl rfl rfl rfl ?_
   refine Lq (ptr b50 2) rfl rfl rfl (x_indexAddr' (k := 2) (len := 6) rfl sl_97 ti_3 rfl rfl (by decide)) ?_
   refine Lq (int xr31.tier) rfl rfl rfl (x_load rfl rfl (run_loadVar_one ti_3 (hst60.b 0) rfl)) ?_
   refine L_callG hst60 (v := (.string ((Wd.i xr31.tier).txt))) rfl rfl rfl (x_call (vs := #[(int xr31.tier)]) rfl rfl (by kernel_rfl) ent_42) (Decimal_le xr31.tier (by omega) (by omega) (Le.refl _)) (fun w65 hst66 => ?_)
   obtain ⟨t67, ht68⟩ : ∃ t_ : ByteArray, t_ = t63 ++ ((Wd.i xr31.tier).txt) := ⟨_, rfl⟩
   have ht68z := size_app_le ht64z (txt_i_le (n := xr31.tier) (by constructor <;> omega))
   rw [← ht68] at ht68z
   simp only [Nat.reduceAdd] at ht68z
   refine Lq (.string t67) rfl rfl rfl (by rw [ht68]; exact (x_strcat rfl rfl rfl (room_le ht64z (txt_i_le (n := xr31.tier) (by constructor <;> omega)) (by decide)))) ?_
   refine Lq (.string t67) rfl rfl rfl rfl ?_
   refine L_nil ?_
   refine W_region_lit ?_
   refine Lq (int 2) rfl rfl rfl rfl ?_
   refine Lq (int 3) rfl rfl rfl (by kernel_rfl) ?_
   refine Lq (int 3) rfl rfl rfl rfl ?_
   refine L_nil ?_
   show W _ _ _ _ _ _ _
   refine W_seq ?_
   refine W_seq ?_
   refine W_region_lit ?_
   refine Lq (int 3) rfl rfl rfl rfl ?_
   refine Lq (.slice (some ⟨b50, 0, none⟩) 6 6) rfl rfl rfl rfl ?_
   refine Lq (int 6) rfl rfl rfl (x_len_slice rfl sl_97 rfl) ?_
   refine Lq (.bool true) rfl rfl rfl (by kernel_rfl) ?_
   refine L_nil ?_
   refine W_cond_true (by show Value.bool _ = _; exact congrArg Value.bool rfl) ?_
   refine W_skip ?_
   refine W_seq ?_
   refine W_block ?_
   refine W_seq ?_
   refine W_seq ?_
   refine W_region_lit ?_
   refine Lq (int 3) rfl rfl rfl rfl ?_
   refine Lq (.bool true) rfl rfl rfl (by kernel_rfl) ?_
   refine L_nil ?_
   refine W_cond_true (by show Value.bool _ = _; exact congrArg Value.bool rfl) ?_
   refine W_region_lit ?_
   refine Lq (.string t67) rfl rfl rfl rfl ?_
   obtain ⟨t69, ht70⟩ : ∃ t_ : ByteArray, t_ = t67 ++ ⟨#[32]⟩ := ⟨_, rfl⟩
   have ht70z := size_app_le ht68z (show ByteArray.size ⟨#[32]⟩ ≤ 100 from by decide)
   rw [← ht70] at ht70z
   simp only [Nat.reduceAdd] at ht70z
   refine Lq (.string t69) rfl rfl rfl (by rw [ht70]; exact (x_strcat rfl rfl rfl (room_le ht68z (show ByteArray.size ⟨#[32]⟩ ≤ 100 from by decide) (by decide)))) ?_
   refine Lq (.string t69) rfl rfl rfl rfl ?_
   refine L_nil ?_
   refine W_region_lit ?_
   refine Lq (.string t69) rfl rfl rfl rfl ?_
   refine Lq (.slice (some ⟨b50, 0, none⟩) 6 6) rfl rfl rfl rfl ?_
   refine Lq (int 3) rfl rfl rfl rfl ?_
   refine Lq (ptr b50 3) rfl rfl rfl (x_indexAddr' (k := 3) (len := 6) rfl sl_97 ti_3 rfl rfl (by decide)) ?_
   refine Lq (int xr31.calls) rfl rfl rfl (x_load rfl rfl (run_loadVar_one ti_3 (hst66.b 0) rfl)) ?_
   refine L_callG hst66 (v := (.string ((Wd.i xr31.calls).txt))) rfl rfl rfl (x_call (vs := #[(int xr31.calls)]) rfl rfl (by kernel_rfl) ent_42) (Decimal_le xr31.calls (by omega) (by omega) (Le.refl _)) (fun w71 hst72 => ?_)
   obtain ⟨t73, ht74⟩ : ∃ t_ : ByteArray, t_ = t69 ++ ((Wd.i xr31.calls).txt) := ⟨_, rfl⟩
   have ht74z := size_app_le ht70z (txt_i_le (n := xr31.calls) (by constructor <;> omega))
   rw [← ht74] at ht74z
   simp only [Nat.reduceAdd] at ht74z
   refine Lq (.string t73) rfl rfl rfl (by rw [ht74]; exact (x_strcat rfl rfl rfl (room_le ht70z (txt_i_le (n := xr31.calls) (by constructor <;> omega)) (by decide)))) ?_
   refine Lq (.string t73) rfl rfl rfl rfl ?_
   refine L_nil ?_
   refine W_region_lit ?_
   refine Lq (int 3) rfl rfl rfl rfl ?_
   refine Lq (int 4) rfl rfl rfl (by kernel_rfl) ?_
   refine Lq (int 4) rfl rfl rfl rfl ?_
   refine L_nil ?_
   show W _ _ _ _ _ _ _
   refine W_seq ?_
   refine W_seq ?_
   refine W_region_lit ?_
   refine Lq (int 4) rfl rfl rfl rfl ?_
   refine Lq (.slice (some ⟨b50, 0, none⟩) 6 6) rfl rfl rfl rfl ?_
   refine Lq (int 6) rfl rfl rfl (x_len_slice rfl sl_97 rfl) ?_
   refine Lq (.bool true) rfl rfl rfl (by kernel_rfl) ?_
   refine L_nil ?_
   refine W_cond_true (by show Value.bool _ = _; exact congrArg Value.bool rfl) ?_
   refine W_skip ?_
   refine W_seq ?_
   refine W_block ?_
   refine W_seq ?_
   refine W_seq ?_
   refine W_region_lit ?_
   refine Lq (int 4) rfl rfl rfl rfl ?_
   refine Lq (.bool true) rfl rfl rfl (by kernel_rfl) ?_
   refine L_nil ?_
   refine W_cond_true (by show Value.bool _ = _; exact congrArg Value.bool rfl) ?_
   refine W_region_lit ?_
   refine Lq (.string t73) rfl rfl rfl rfl ?_
   obtain ⟨t75, ht76⟩ : ∃ t_ : ByteArray, t_ = t73 ++ ⟨#[32]⟩ := ⟨_, rfl⟩
   have ht76z := size_app_le ht74z (show ByteArray.size ⟨#[32]⟩ ≤ 100 from by decide)
   rw [← ht76] at ht76z
   simp only [Nat.reduceAdd] at ht76z
   refine Lq (.string t75) rfl rfl rfl (by rw [ht76]; exact (x_strcat rfl rfl rfl (room_le ht74z (show ByteArray.size ⟨#[32]⟩ ≤ 100 from by decide) (by decide)))) ?_
   refine Lq (.string t75) rfl rfl rfl rfl ?_
   refine L_nil ?_
   refine W_region_lit ?_
   refine Lq (.string t75) rfl rfl rfl rfl ?_
   refine Lq (.slice (some ⟨b50, 0, none⟩) 6 6) rfl rfl rfl rfl ?_
   refine Lq (int 4) rfl rfl rfl rfl ?_
   refine Lq (ptr b50 4) rfl rfl rfl (x_indexAddr' (k := 4) (len := 6) rfl sl_97 ti_3 rfl rfl (by decide)) ?_
   refine Lq (int xr31.count) rfl rfl rfl (x_load rfl rfl (run_loadVar_one ti_3 (hst72.b 0) rfl)) ?_
   refine L_callG hst72 (v := (.string ((Wd.i xr31.count).txt))) rfl rfl rfl (x_call (vs := #[(int xr31.count)]) rfl rfl (by kernel_rfl) ent_42) (Decimal_le xr31.count (by omega) (by omega) (Le.refl _)) (fun w77 hst78 => ?_)
   obtain ⟨t79, ht80⟩ : ∃ t_ : ByteArray, t_ = t75 ++ ((Wd.i xr31.count).txt) := ⟨_, rfl⟩
   have ht80z := size_app_le ht76z (txt_i_le (n := xr31.count) (by constructor <;> omega))
   rw [← ht80] at ht80z
   simp only [Nat.reduceAdd] at ht80z
   refine Lq (.string t79) rfl rfl rfl (by rw [ht80]; exact (x_strcat rfl rfl rfl (room_le ht76z (txt_i_le (n := xr31.count) (by constructor <;> omega)) (by decide)))) ?_
   refine Lq (.string t79) rfl rfl rfl rfl ?_
   refine L_nil ?_
   refine W_region_lit ?_
   refine Lq (int 4) rfl rfl rfl rfl ?_
   refine Lq (int 5) rfl rfl rfl (by kernel_rfl) ?_
   refine Lq (int 5) rfl rfl rfl rfl ?_
   refine L_nil ?_
   show W _ _ _ _ _ _ _
   refine W_seq ?_
   refine W_seq ?_
   refine W_region_lit ?_
   refine Lq (int 5) rfl rfl rfl rfl ?_
   refine Lq (.slice (some ⟨b50, 0, none⟩) 6 6) rfl rfl rfl rfl ?_
   refine Lq (int 6) rfl rfl rfl (x_len_slice rfl sl_97 rfl) ?_
   refine Lq (.bool true) rfl rfl rfl (by kernel_rfl) ?_
   refine L_nil ?_
   refine W_cond_true (by show Value.bool _ = _; exact congrArg Value.bool rfl) ?_
   refine W_skip ?_
   refine W_seq ?_
   refine W_block ?_
   refine W_seq ?_
   refine W_seq ?_
   refine W_region_lit ?_
   refine Lq (int 5) rfl rfl rfl rfl ?_
   refine Lq (.bool true) rfl rfl rfl (by kernel_rfl) ?_
   refine L_nil ?_
   refine W_cond_true (by show Value.bool _ = _; exact congrArg Value.bool rfl) ?_
   refine W_region_lit ?_
   refine Lq (.string t79) rfl rfl rfl rfl ?_
   obtain ⟨t81, ht82⟩ : ∃ t_ : ByteArray, t_ = t79 ++ ⟨#[32]⟩ := ⟨_, rfl⟩
   have ht82z := size_app_le ht80z (show ByteArray.size ⟨#[32]⟩ ≤ 100 from by decide)
   rw [← ht82] at ht82z
   simp only [Nat.reduceAdd] at ht82z
   refine Lq (.string t81) rfl rfl rfl (by rw [ht82]; exact (x_strcat rfl rfl rfl (room_le ht80z (show ByteArray.size ⟨#[32]⟩ ≤ 100 from by decide) (by decide)))) ?_
   refine Lq (.string t81) rfl rfl rfl rfl ?_
   refine L_nil ?_
   refine W_region_lit ?_
   refine Lq (.string t81) rfl rfl rfl rfl ?_
   refine Lq (.slice (some ⟨b50, 0, none⟩) 6 6) rfl rfl rfl rfl ?_
   refine Lq (int 5) rfl rfl rfl rfl ?_
   refine Lq (ptr b50 5) rfl rfl rfl (x_indexAddr' (k := 5) (len := 6) rfl sl_97 ti_3 rfl rfl (by decide)) ?_
   refine Lq (int xr31.failures) rfl rfl rfl (x_load rfl rfl (run_loadVar_one ti_3 (hst78.b 0) rfl)) ?_
   refine L_callG hst78 (v := (.string ((Wd.i xr31.failures).txt))) rfl rfl rfl (x_call (vs := #[(int xr31.failures)]) rfl rfl (by kernel_rfl) ent_42) (Decimal_le xr31.failures (by omega) (by omega) (Le.refl _)) (fun w83 hst84 => ?_)
   obtain ⟨t85, ht86⟩ : ∃ t_ : ByteArray, t_ = t81 ++ ((Wd.i xr31.failures).txt) := ⟨_, rfl⟩
   have ht86z := size_app_le ht82z (txt_i_le (n := xr31.failures) (by constructor <;> omega))
   rw [← ht86] at ht86z
   simp only [Nat.reduceAdd] at ht86z
   refine Lq (.string t85) rfl rfl rfl (by rw [ht86]; exact (x_strcat rfl rfl rfl (room_le ht82z (txt_i_le (n := xr31.failures) (by constructor <;> omega)) (by decide)))) ?_
   refine Lq (.string t85) rfl rfl rfl rfl ?_
   refine L_nil ?_
   refine W_region_lit ?_
   refine Lq (int 5) rfl rfl rfl rfl ?_
   refine Lq (int 6) rfl rfl rfl (by kernel_rfl) ?_
   refine Lq (int 6) rfl rfl rfl rfl ?_
   refine L_nil ?_
   show W _ _ _ _ _ _ _
   refine W_seq ?_
   refine W_seq ?_
   refine W_region_lit ?_
   refine Lq (int 6) rfl rfl rfl rfl ?_
   refine Lq (.slice (some ⟨b50, 0, none⟩) 6 6) rfl rfl rfl rfl ?_
   refine Lq (int 6) rfl rfl rfl (x_len_slice rfl sl_97 rfl) ?_
   refine Lq (.bool false) rfl rfl rfl (by kernel_rfl) ?_
   refine L_nil ?_
   refine W_cond_false (by show Value.bool _ = _; exact congrArg Value.bool rfl) ?_
   refine W_exit ?_
   refine W_region_lit ?_
   refine Lq (.string t85) rfl rfl rfl rfl ?_
   obtain ⟨t87, ht88⟩ : ∃ t_ : ByteArray, t_ = t85 ++ ⟨#[10]⟩ := ⟨_, rfl⟩
   have ht88z := size_app_le ht86z (show ByteArray.size ⟨#[10]⟩ ≤ 100 from by decide)
   rw [← ht88] at ht88z
   simp only [Nat.reduceAdd] at ht88z
   refine Lq (.string t87) rfl rfl rfl (by rw [ht88]; exact (x_strcat rfl rfl rfl (room_le ht86z (show ByteArray.size ⟨#[10]⟩ ≤ 100 from by decide) (by decide)))) ?_
   refine Lq (.string t87) rfl rfl rfl rfl ?_
   refine L_nil ?_
   refine W_region_lit ?_
   refine Lq (int (k_8 : Int)) rfl rfl rfl rfl ?_
   refine Lq (int ((k_8 + 1 : Nat) : Int)) rfl rfl rfl (x_add_nat rfl rfl rfl (by omega)) ?_
   refine Lq (int ((k_8 + 1 : Nat) : Int)) rfl rfl rfl rfl ?_
   refine L_nil ?_
   refine ⟨xs.length - (k_8 + 1), by first | omega | (simp only [List.length_append, List.length_cons, List.length_nil]; omega), ?_⟩
   exact ⟨_, (k_8 + 1), t87, (upd_of (upd_of (upd_of (upd_of rfl rfl) rfl) rfl) rfl), hmk1, (hst84.keepN 0 rfl), (by omega), (by have h_ := text_step (by omega) hx33 hrc; dsimp only at h_; rw [ht88, ht86, ht82, ht80, ht76, ht74, ht70, ht68, ht64, ht62, ht58, ht56, hf6]; exact h_), rfl⟩
  ·
   have q89 := of_decide_eq_false c15
   refine W_cond_false (by show Value.bool _ = _; exact congrArg Value.bool c15) ?_
   refine W_exit ?_
   refine W_seq ?_
   refine W_region_lit ?_
   refine Lq (.string acc9) rfl rfl rfl rfl ?_
   refine Lq (.string acc9) rfl rfl rfl rfl ?_
   refine L_nil ?_
   refine W_ret ?_
   refine ⟨_, _, res_run (rs := [.tmp 2]) (vs := [(.string acc9)]) Tryd.results15 (.cons (.tmp rfl) .nil) hmk1, ?_⟩
   exact ⟨by rw [hf6, text_all (by omega) hcn]; rfl, hst2.grow⟩

end Go.Fx.YtdkjoljcffkpkaaDoor
