/-
  Chapter 27: the reference registry: Version, current, find, printed by genbr.py.
-/
import Derived.Test.YtlfabjfajcbdcaaBc
set_option linter.unusedSimpArgs false
set_option linter.unusedVariables false
namespace Go.Fx.Ytlfabjfajcbdcaa
open Go Go.Fx Go.Proofs
set_option maxRecDepth 20000

theorem ent_35 : Ent Try.prog 35 := fun _ _ => by kernel_rfl
theorem sl_85 : SL Try.prog 85 103 := Try.underlying85
theorem ti_103 : TI Try.prog 103 true 2 32 (.agg #[(.int .i64 0), (.slice none 0 0)]) := ⟨by kernel_rfl, by kernel_rfl⟩
theorem ti_31 : TI Try.prog 31 false 1 24 (.slice none 0 0) := ⟨by kernel_rfl, by kernel_rfl⟩
theorem ti_85 : TI Try.prog 85 false 1 24 (.slice none 0 0) := ⟨by kernel_rfl, by kernel_rfl⟩

theorem VersionR_spec {w : World} {R : Hp} {m : Nat} {F C : List Int} {xs : List Mo} {vF vC vL : Value} (kind n : Int) (h1 : Le (refK m vF vC vL) R) (hF : RdS Ty.int R vF F) (hC : RdS Ty.int R vC C) (hL : RdS tyMo R vL xs) (hR : Le R (hp w)) (hf : F.length ≤ 1000) (hc : C.length ≤ 1000) (hx : xs.length ≤ 1000000) :
    Calls Try.prog 35 #[ptr m 0, int kind, int n] w fun e w' => e = .returned (int (verR F C kind n)) ∧ Grow w w' := by
 have hst := Step.ro hR
 refine calls_of_W (n := 51) Try.func35 rfl Try.ntmps35 (Nat.le_of_ble_eq_true rfl) ?_
 refine W_seq ?_
 refine W_region_lit ?_
 refine Lq (int 0) rfl rfl rfl rfl ?_
 refine L_nil ?_
 refine W_seq ?_
 refine W_seq ?_
 refine W_region_lit ?_
 refine Lq (int kind) rfl rfl rfl rfl ?_
 refine Lq (.bool (kind == 1)) rfl rfl rfl (by kernel_rfl) ?_
 refine Lq (.bool (kind == 1)) rfl rfl rfl rfl ?_
 rcases Bool.eq_false_or_eq_true (kind == 1) with c1 | c1
 ·
  have q2 := eq_of_beq c1
  refine L_guard rfl rfl rfl rfl c1 ?_
  refine Lq (int n) rfl rfl rfl rfl ?_
  refine L_guard rfl rfl rfl rfl c1 ?_
  refine Lq (.bool (decide (n ≥ 0))) rfl rfl rfl (by kernel_rfl) ?_
  refine Lq (.bool (decide (n ≥ 0))) rfl rfl rfl (x_pick rfl rfl (by rw [c1]; rfl)) ?_
  refine Lq (.bool (decide (n ≥ 0))) rfl rfl rfl rfl ?_
  rcases Bool.eq_false_or_eq_true (decide (n ≥ 0)) with c3 | c3
  ·
   have q4 := of_decide_eq_true c3
   refine L_guard rfl rfl rfl rfl c3 ?_
   refine Lq (int n) rfl rfl rfl rfl ?_
   refine L_guard rfl rfl rfl rfl c3 ?_
   refine Lq (ptr m 0) rfl rfl rfl rfl ?_
   refine L_guard rfl rfl rfl rfl c3 ?_
   refine Lq (ptr m 0) rfl rfl rfl rfl ?_
   refine L_guard rfl rfl rfl rfl c3 ?_
   refine Lq (ptr m 0) rfl rfl rfl (by kernel_rfl) ?_
   refine L_guard rfl rfl rfl rfl c3 ?_
   refine Lq vF rfl rfl rfl (x_load rfl rfl (run_loadVar_one ti_31 (hst.rle' _ _ (h1 _ _ (one_self _ _))) rfl)) ?_
   refine L_guard rfl rfl rfl rfl c3 ?_
   obtain ⟨a5, cap6, e7, hc8⟩ := hF.shape
   subst e7
   refine Lq (int (F.length : Int)) rfl rfl rfl (x_len_slice rfl sl_31 rfl) ?_
   refine L_guard rfl rfl rfl rfl c3 ?_
   refine Lq (.bool (decide (n < (F.length : Int)))) rfl rfl rfl (by kernel_rfl) ?_
   refine Lq (.bool (decide (n < (F.length : Int)))) rfl rfl rfl (x_pick rfl rfl (by rw [c3]; rfl)) ?_
   refine L_nil ?_
   rcases Bool.eq_false_or_eq_true (decide (n < (F.length : Int))) with c9 | c9
   ·
    have q10 := of_decide_eq_true c9
    refine W_cond_true (by show Value.bool _ = _; exact congrArg Value.bool c9) ?_
    refine W_seq ?_
    obtain ⟨j11, rfl⟩ : ∃ j_ : Nat, n = (j_ : Int) := ⟨n.toNat, by omega⟩
    refine W_region_lit ?_
    refine Lq (ptr m 0) rfl rfl rfl rfl ?_
    refine Lq (ptr m 0) rfl rfl rfl rfl ?_
    refine Lq (ptr m 0) rfl rfl rfl (by kernel_rfl) ?_
    refine Lq (.slice a5 F.length cap6) rfl rfl rfl (x_load rfl rfl (run_loadVar_one ti_31 (hst.rle' _ _ (h1 _ _ (one_self _ _))) rfl)) ?_
    refine Lq (int (j11 : Int)) rfl rfl rfl rfl ?_
    obtain ⟨b12, off13, cap14, cs15, T16, fz17, e18, hc19, hb20, he21⟩ := hF.open (by omega)
    cases e18
    obtain ⟨cl22, hs23, hr24⟩ := he21.at j11 (by omega)
    obtain ⟨y25, hy26⟩ : ∃ y_, y_ = (F[j11]'(by omega)) := ⟨_, rfl⟩
    rw [← hy26] at hr24
    have he27 : cl22 = [.int .i64 y25] := hr24
    subst he27
    refine Lq (ptr b12 (off13 + j11 * 1)) rfl rfl rfl (x_indexAddr' rfl sl_31 ti_3 rfl rfl (by omega)) ?_
    refine Lq (int y25) rfl rfl rfl (x_load rfl rfl (run_loadVar_one ti_3 (hst.rle' _ _ hb20) (seg_get (j := 0) hs23 rfl))) ?_
    refine Lq (int y25) rfl rfl rfl rfl ?_
    refine L_nil ?_
    refine W_ret ?_
    refine ⟨_, _, res_run (rs := [.tmp 6]) (vs := [(int y25)]) Try.results35 (.cons (.tmp rfl) .nil) rfl, ?_⟩
    exact ⟨retI (verR_1 (by omega) (by omega) hy26), hst.grow⟩
   ·
    have q28 := of_decide_eq_false c9
    refine W_cond_false (by show Value.bool _ = _; exact congrArg Value.bool c9) ?_
    refine W_skip ?_
    refine W_seq ?_
    refine W_seq ?_
    refine W_region_lit ?_
    refine Lq (int kind) rfl rfl rfl rfl ?_
    refine Lq (.bool (kind == 2)) rfl rfl rfl (by kernel_rfl) ?_
    refine Lq (.bool (kind == 2)) rfl rfl rfl rfl ?_
    rcases Bool.eq_false_or_eq_true (kind == 2) with c29 | c29
    ·
     have q30 := eq_of_beq c29
     refine L_guard rfl rfl rfl rfl c29 ?_
     refine Lq (int n) rfl rfl rfl rfl ?_
     refine L_guard rfl rfl rfl rfl c29 ?_
     refine Lq (.bool (decide (n ≥ 0))) rfl rfl rfl (by kernel_rfl) ?_
     refine Lq (.bool (decide (n ≥ 0))) rfl rfl rfl (x_pick rfl rfl (by rw [c29]; rfl)) ?_
     refine Lq (.bool (decide (n ≥ 0))) rfl rfl rfl rfl ?_
     refine L_guard rfl rfl rfl rfl c3 ?_
     refine Lq (int n) rfl rfl rfl rfl ?_
     refine L_guard rfl rfl rfl rfl c3 ?_
     refine Lq (ptr m 0) rfl rfl rfl rfl ?_
     refine L_guard rfl rfl rfl rfl c3 ?_
     refine Lq (ptr m 0) rfl rfl rfl rfl ?_
     refine L_guard rfl rfl rfl rfl c3 ?_
     refine Lq (ptr m 1) rfl rfl rfl (by kernel_rfl) ?_
     refine L_guard rfl rfl rfl rfl c3 ?_
     refine Lq vC rfl rfl rfl (x_load rfl rfl (run_loadVar_one ti_31 (hst.rle' _ _ (h1 _ _ (one_self _ _))) rfl)) ?_
     refine L_guard rfl rfl rfl rfl c3 ?_
     obtain ⟨a31, cap32, e33, hc34⟩ := hC.shape
     subst e33
     refine Lq (int (C.length : Int)) rfl rfl rfl (x_len_slice rfl sl_31 rfl) ?_
     refine L_guard rfl rfl rfl rfl c3 ?_
     refine Lq (.bool (decide (n < (C.length : Int)))) rfl rfl rfl (by kernel_rfl) ?_
     refine Lq (.bool (decide (n < (C.length : Int)))) rfl rfl rfl (x_pick rfl rfl (by rw [c3]; rfl)) ?_
     refine L_nil ?_
     rcases Bool.eq_false_or_eq_true (decide (n < (C.length : Int))) with c35 | c35
     ·
      have q36 := of_decide_eq_true c35
      refine W_cond_true (by show Value.bool _ = _; exact congrArg Value.bool c35) ?_
      refine W_seq ?_
      obtain ⟨j37, rfl⟩ : ∃ j_ : Nat, n = (j_ : Int) := ⟨n.toNat, by omega⟩
      refine W_region_lit ?_
      refine Lq (ptr m 0) rfl rfl rfl rfl ?_
      refine Lq (ptr m 0) rfl rfl rfl rfl ?_
      refine Lq (ptr m 1) rfl rfl rfl (by kernel_rfl) ?_
      refine Lq (.slice a31 C.length cap32) rfl rfl rfl (x_load rfl rfl (run_loadVar_one ti_31 (hst.rle' _ _ (h1 _ _ (one_self _ _))) rfl)) ?_
      refine Lq (int (j37 : Int)) rfl rfl rfl rfl ?_
      obtain ⟨b38, off39, cap40, cs41, T42, fz43, e44, hc45, hb46, he47⟩ := hC.open (by omega)
      cases e44
      obtain ⟨cl48, hs49, hr50⟩ := he47.at j37 (by omega)
      obtain ⟨y51, hy52⟩ : ∃ y_, y_ = (C[j37]'(by omega)) := ⟨_, rfl⟩
      rw [← hy52] at hr50
      have he53 : cl48 = [.int .i64 y51] := hr50
      subst he53
      refine Lq (ptr b38 (off39 + j37 * 1)) rfl rfl rfl (x_indexAddr' rfl sl_31 ti_3 rfl rfl (by omega)) ?_
      refine Lq (int y51) rfl rfl rfl (x_load rfl rfl (run_loadVar_one ti_3 (hst.rle' _ _ hb46) (seg_get (j := 0) hs49 rfl))) ?_
      refine Lq (int y51) rfl rfl rfl rfl ?_
      refine L_nil ?_
      refine W_ret ?_
      refine ⟨_, _, res_run (rs := [.tmp 6]) (vs := [(int y51)]) Try.results35 (.cons (.tmp rfl) .nil) rfl, ?_⟩
      exact ⟨retI (verR_2 (by omega) (by omega) hy52), hst.grow⟩
     ·
      have q54 := of_decide_eq_false c35
      refine W_cond_false (by show Value.bool _ = _; exact congrArg Value.bool c35) ?_
      refine W_skip ?_
      refine W_seq ?_
      refine W_region_lit ?_
      refine Lq (int (-1)) rfl rfl rfl rfl ?_
      refine L_nil ?_
      refine W_ret ?_
      refine ⟨_, _, res_run (rs := [.tmp 6]) (vs := [(int (-1))]) Try.results35 (.cons (.tmp rfl) .nil) rfl, ?_⟩
      exact ⟨retI (verR_no (by rintro ⟨a_, b_, c_⟩; omega) (by rintro ⟨a_, b_, c_⟩; omega)).symm, hst.grow⟩
    ·
     have q55 := ne_of_beq_false c29
     refine L_unwanted rfl rfl rfl rfl (by rw [c29]; try rfl) rfl rfl ?_
     refine L_unwanted rfl rfl rfl rfl (by rw [c29]; try rfl) rfl rfl ?_
     refine Lq (.bool false) rfl rfl rfl (x_pick rfl rfl (by rw [c29]; rfl)) ?_
     refine Lq (.bool false) rfl rfl rfl rfl ?_
     refine L_unwanted rfl rfl rfl rfl rfl rfl rfl ?_
     refine L_unwanted rfl rfl rfl rfl rfl rfl rfl ?_
     refine L_unwanted rfl rfl rfl rfl rfl rfl rfl ?_
     refine L_unwanted rfl rfl rfl rfl rfl rfl rfl ?_
     refine L_unwanted rfl rfl rfl rfl rfl rfl rfl ?_
     refine L_unwanted rfl rfl rfl rfl rfl rfl rfl ?_
     refine L_unwanted rfl rfl rfl rfl rfl rfl rfl ?_
     refine Lq (.bool false) rfl rfl rfl rfl ?_
     refine L_nil ?_
     refine W_cond_false (by show Value.bool _ = _; exact congrArg Value.bool rfl) ?_
     refine W_skip ?_
     refine W_seq ?_
     refine W_region_lit ?_
     refine Lq (int (-1)) rfl rfl rfl rfl ?_
     refine L_nil ?_
     refine W_ret ?_
     refine ⟨_, _, res_run (rs := [.tmp 6]) (vs := [(int (-1))]) Try.results35 (.cons (.tmp rfl) .nil) rfl, ?_⟩
     exact ⟨retI (verR_no (by rintro ⟨a_, b_, c_⟩; omega) (by rintro ⟨a_, b_, c_⟩; omega)).symm, hst.grow⟩
  ·
   have q56 := of_decide_eq_false c3
   refine L_unwanted rfl rfl rfl rfl (by rw [c3]; try rfl) rfl rfl ?_
   refine L_unwanted rfl rfl rfl rfl (by rw [c3]; try rfl) rfl rfl ?_
   refine L_unwanted rfl rfl rfl rfl (by rw [c3]; try rfl) rfl rfl ?_
   refine L_unwanted rfl rfl rfl rfl (by rw [c3]; try rfl) rfl rfl ?_
   refine L_unwanted rfl rfl rfl rfl (by rw [c3]; try rfl) rfl rfl ?_
   refine L_unwanted rfl rfl rfl rfl (by rw [c3]; try rfl) rfl rfl ?_
   refine L_unwanted rfl rfl rfl rfl (by rw [c3]; try rfl) rfl rfl ?_
   refine Lq (.bool false) rfl rfl rfl (x_pick rfl rfl (by rw [c3]; rfl)) ?_
   refine L_nil ?_
   refine W_cond_false (by show Value.bool _ = _; exact congrArg Value.bool rfl) ?_
   refine W_skip ?_
   refine W_seq ?_
   refine W_seq ?_
   refine W_region_lit ?_
   refine Lq (int kind) rfl rfl rfl rfl ?_
   refine Lq (.bool (kind == 2)) rfl rfl rfl (by kernel_rfl) ?_
   refine Lq (.bool (kind == 2)) rfl rfl rfl rfl ?_
   rcases Bool.eq_false_or_eq_true (kind == 2) with c57 | c57
   ·
    have q58 := eq_of_beq c57
    refine L_guard rfl rfl rfl rfl c57 ?_
    refine Lq (int n) rfl rfl rfl rfl ?_
    refine L_guard rfl rfl rfl rfl c57 ?_
    refine Lq (.bool (decide (n ≥ 0))) rfl rfl rfl (by kernel_rfl) ?_
    refine Lq (.bool (decide (n ≥ 0))) rfl rfl rfl (x_pick rfl rfl (by rw [c57]; rfl)) ?_
    refine Lq (.bool (decide (n ≥ 0))) rfl rfl rfl rfl ?_
    refine L_unwanted rfl rfl rfl rfl (by rw [c3]; try rfl) rfl rfl ?_
    refine L_unwanted rfl rfl rfl rfl (by rw [c3]; try rfl) rfl rfl ?_
    refine L_unwanted rfl rfl rfl rfl (by rw [c3]; try rfl) rfl rfl ?_
    refine L_unwanted rfl rfl rfl rfl (by rw [c3]; try rfl) rfl rfl ?_
    refine L_unwanted rfl rfl rfl rfl (by rw [c3]; try rfl) rfl rfl ?_
    refine L_unwanted rfl rfl rfl rfl (by rw [c3]; try rfl) rfl rfl ?_
    refine L_unwanted rfl rfl rfl rfl (by rw [c3]; try rfl) rfl rfl ?_
    refine Lq (.bool false) rfl rfl rfl (x_pick rfl rfl (by rw [c3]; rfl)) ?_
    refine L_nil ?_
    refine W_cond_false (by show Value.bool _ = _; exact congrArg Value.bool rfl) ?_
    refine W_skip ?_
    refine W_seq ?_
    refine W_region_lit ?_
    refine Lq (int (-1)) rfl rfl rfl rfl ?_
    refine L_nil ?_
    refine W_ret ?_
    refine ⟨_, _, res_run (rs := [.tmp 6]) (vs := [(int (-1))]) Try.results35 (.cons (.tmp rfl) .nil) rfl, ?_⟩
    exact ⟨retI (verR_no (by rintro ⟨a_, b_, c_⟩; omega) (by rintro ⟨a_, b_, c_⟩; omega)).symm, hst.grow⟩
   ·
    have q59 := ne_of_beq_false c57
    refine L_unwanted rfl rfl rfl rfl (by rw [c57]; try rfl) rfl rfl ?_
    refine L_unwanted rfl rfl rfl rfl (by rw [c57]; try rfl) rfl rfl ?_
    refine Lq (.bool false) rfl rfl rfl (x_pick rfl rfl (by rw [c57]; rfl)) ?_
    refine Lq (.bool false) rfl rfl rfl rfl ?_
    refine L_unwanted rfl rfl rfl rfl rfl rfl rfl ?_
    refine L_unwanted rfl rfl rfl rfl rfl rfl rfl ?_
    refine L_unwanted rfl rfl rfl rfl rfl rfl rfl ?_
    refine L_unwanted rfl rfl rfl rfl rfl rfl rfl ?_
    refine L_unwanted rfl rfl rfl rfl rfl rfl rfl ?_
    refine L_unwanted rfl rfl rfl rfl rfl rfl rfl ?_
    refine L_unwanted rfl rfl rfl rfl rfl rfl rfl ?_
    refine Lq (.bool false) rfl rfl rfl rfl ?_
    refine L_nil ?_
    refine W_cond_false (by show Value.bool _ = _; exact congrArg Value.bool rfl) ?_
    refine W_skip ?_
    refine W_seq ?_
    refine W_region_lit ?_
    refine Lq (int (-1)) rfl rfl rfl rfl ?_
    refine L_nil ?_
    refine W_ret ?_
    refine ⟨_, _, res_run (rs := [.tmp 6]) (vs := [(int (-1))]) Try.results35 (.cons (.tmp rfl) .nil) rfl, ?_⟩
    exact ⟨retI (verR_no (by rintro ⟨a_, b_, c_⟩; omega) (by rintro ⟨a_, b_, c_⟩; omega)).symm, hst.grow⟩
 ·
  have q60 := ne_of_beq_false c1
  refine L_unwanted rfl rfl rfl rfl (by rw [c1]; try rfl) rfl rfl ?_
  refine L_unwanted rfl rfl rfl rfl (by rw [c1]; try rfl) rfl rfl ?_
  refine Lq (.bool false) rfl rfl rfl (x_pick rfl rfl (by rw [c1]; rfl)) ?_
  refine Lq (.bool false) rfl rfl rfl rfl ?_
  refine L_unwanted rfl rfl rfl rfl rfl rfl rfl ?_
  refine L_unwanted rfl rfl rfl rfl rfl rfl rfl ?_
  refine L_unwanted rfl rfl rfl rfl rfl rfl rfl ?_
  refine L_unwanted rfl rfl rfl rfl rfl rfl rfl ?_
  refine L_unwanted rfl rfl rfl rfl rfl rfl rfl ?_
  refine L_unwanted rfl rfl rfl rfl rfl rfl rfl ?_
  refine L_unwanted rfl rfl rfl rfl rfl rfl rfl ?_
  refine Lq (.bool false) rfl rfl rfl rfl ?_
  refine L_nil ?_
  refine W_cond_false (by show Value.bool _ = _; exact congrArg Value.bool rfl) ?_
  refine W_skip ?_
  refine W_seq ?_
  refine W_seq ?_
  refine W_region_lit ?_
  refine Lq (int kind) rfl rfl rfl rfl ?_
  refine Lq (.bool (kind == 2)) rfl rfl rfl (by kernel_rfl) ?_
  refine Lq (.bool (kind == 2)) rfl rfl rfl rfl ?_
  rcases Bool.eq_false_or_eq_true (kind == 2) with c61 | c61
  ·
   have q62 := eq_of_beq c61
   refine L_guard rfl rfl rfl rfl c61 ?_
   refine Lq (int n) rfl rfl rfl rfl ?_
   refine L_guard rfl rfl rfl rfl c61 ?_
   refine Lq (.bool (decide (n ≥ 0))) rfl rfl rfl (by kernel_rfl) ?_
   refine Lq (.bool (decide (n ≥ 0))) rfl rfl rfl (x_pick rfl rfl (by rw [c61]; rfl)) ?_
   refine Lq (.bool (decide (n ≥ 0))) rfl rfl rfl rfl ?_
   rcases Bool.eq_false_or_eq_true (decide (n ≥ 0)) with c63 | c63
   ·
    have q64 := of_decide_eq_true c63
    refine L_guard rfl rfl rfl rfl c63 ?_
    refine Lq (int n) rfl rfl rfl rfl ?_
    refine L_guard rfl rfl rfl rfl c63 ?_
    refine Lq (ptr m 0) rfl rfl rfl rfl ?_
    refine L_guard rfl rfl rfl rfl c63 ?_
    refine Lq (ptr m 0) rfl rfl rfl rfl ?_
    refine L_guard rfl rfl rfl rfl c63 ?_
    refine Lq (ptr m 1) rfl rfl rfl (by kernel_rfl) ?_
    refine L_guard rfl rfl rfl rfl c63 ?_
    refine Lq vC rfl rfl rfl (x_load rfl rfl (run_loadVar_one ti_31 (hst.rle' _ _ (h1 _ _ (one_self _ _))) rfl)) ?_
    refine L_guard rfl rfl rfl rfl c63 ?_
    obtain ⟨a65, cap66, e67, hc68⟩ := hC.shape
    subst e67
    refine Lq (int (C.length : Int)) rfl rfl rfl (x_len_slice rfl sl_31 rfl) ?_
    refine L_guard rfl rfl rfl rfl c63 ?_
    refine Lq (.bool (decide (n < (C.length : Int)))) rfl rfl rfl (by kernel_rfl) ?_
    refine Lq (.bool (decide (n < (C.length : Int)))) rfl rfl rfl (x_pick rfl rfl (by rw [c63]; rfl)) ?_
    refine L_nil ?_
    rcases Bool.eq_false_or_eq_true (decide (n < (C.length : Int))) with c69 | c69
    ·
     have q70 := of_decide_eq_true c69
     refine W_cond_true (by show Value.bool _ = _; exact congrArg Value.bool c69) ?_
     refine W_seq ?_
     obtain ⟨j71, rfl⟩ : ∃ j_ : Nat, n = (j_ : Int) := ⟨n.toNat, by omega⟩
     refine W_region_lit ?_
     refine Lq (ptr m 0) rfl rfl rfl rfl ?_
     refine Lq (ptr m 0) rfl rfl rfl rfl ?_
     refine Lq (ptr m 1) rfl rfl rfl (by kernel_rfl) ?_
     refine Lq (.slice a65 C.length cap66) rfl rfl rfl (x_load rfl rfl (run_loadVar_one ti_31 (hst.rle' _ _ (h1 _ _ (one_self _ _))) rfl)) ?_
     refine Lq (int (j71 : Int)) rfl rfl rfl rfl ?_
     obtain ⟨b72, off73, cap74, cs75, T76, fz77, e78, hc79, hb80, he81⟩ := hC.open (by omega)
     cases e78
     obtain ⟨cl82, hs83, hr84⟩ := he81.at j71 (by omega)
     obtain ⟨y85, hy86⟩ : ∃ y_, y_ = (C[j71]'(by omega)) := ⟨_, rfl⟩
     rw [← hy86] at hr84
     have he87 : cl82 = [.int .i64 y85] := hr84
     subst he87
     refine Lq (ptr b72 (off73 + j71 * 1)) rfl rfl rfl (x_indexAddr' rfl sl_31 ti_3 rfl rfl (by omega)) ?_
     refine Lq (int y85) rfl rfl rfl (x_load rfl rfl (run_loadVar_one ti_3 (hst.rle' _ _ hb80) (seg_get (j := 0) hs83 rfl))) ?_
     refine Lq (int y85) rfl rfl rfl rfl ?_
     refine L_nil ?_
     refine W_ret ?_
     refine ⟨_, _, res_run (rs := [.tmp 6]) (vs := [(int y85)]) Try.results35 (.cons (.tmp rfl) .nil) rfl, ?_⟩
     exact ⟨retI (verR_2 (by omega) (by omega) hy86), hst.grow⟩
    ·
     have q88 := of_decide_eq_false c69
     refine W_cond_false (by show Value.bool _ = _; exact congrArg Value.bool c69) ?_
     refine W_skip ?_
     refine W_seq ?_
     refine W_region_lit ?_
     refine Lq (int (-1)) rfl rfl rfl rfl ?_
     refine L_nil ?_
     refine W_ret ?_
     refine ⟨_, _, res_run (rs := [.tmp 6]) (vs := [(int (-1))]) Try.results35 (.cons (.tmp rfl) .nil) rfl, ?_⟩
     exact ⟨retI (verR_no (by rintro ⟨a_, b_, c_⟩; omega) (by rintro ⟨a_, b_, c_⟩; omega)).symm, hst.grow⟩
   ·
    have q89 := of_decide_eq_false c63
    refine L_unwanted rfl rfl rfl rfl (by rw [c63]; try rfl) rfl rfl ?_
    refine L_unwanted rfl rfl rfl rfl (by rw [c63]; try rfl) rfl rfl ?_
    refine L_unwanted rfl rfl rfl rfl (by rw [c63]; try rfl) rfl rfl ?_
    refine L_unwanted rfl rfl rfl rfl (by rw [c63]; try rfl) rfl rfl ?_
    refine L_unwanted rfl rfl rfl rfl (by rw [c63]; try rfl) rfl rfl ?_
    refine L_unwanted rfl rfl rfl rfl (by rw [c63]; try rfl) rfl rfl ?_
    refine L_unwanted rfl rfl rfl rfl (by rw [c63]; try rfl) rfl rfl ?_
    refine Lq (.bool false) rfl rfl rfl (x_pick rfl rfl (by rw [c63]; rfl)) ?_
    refine L_nil ?_
    refine W_cond_false (by show Value.bool _ = _; exact congrArg Value.bool rfl) ?_
    refine W_skip ?_
    refine W_seq ?_
    refine W_region_lit ?_
    refine Lq (int (-1)) rfl rfl rfl rfl ?_
    refine L_nil ?_
    refine W_ret ?_
    refine ⟨_, _, res_run (rs := [.tmp 6]) (vs := [(int (-1))]) Try.results35 (.cons (.tmp rfl) .nil) rfl, ?_⟩
    exact ⟨retI (verR_no (by rintro ⟨a_, b_, c_⟩; omega) (by rintro ⟨a_, b_, c_⟩; omega)).symm, hst.grow⟩
  ·
   have q90 := ne_of_beq_false c61
   refine L_unwanted rfl rfl rfl rfl (by rw [c61]; try rfl) rfl rfl ?_
   refine L_unwanted rfl rfl rfl rfl (by rw [c61]; try rfl) rfl rfl ?_
   refine Lq (.bool false) rfl rfl rfl (x_pick rfl rfl (by rw [c61]; rfl)) ?_
   refine Lq (.bool false) rfl rfl rfl rfl ?_
   refine L_unwanted rfl rfl rfl rfl rfl rfl rfl ?_
   refine L_unwanted rfl rfl rfl rfl rfl rfl rfl ?_
   refine L_unwanted rfl rfl rfl rfl rfl rfl rfl ?_
   refine L_unwanted rfl rfl rfl rfl rfl rfl rfl ?_
   refine L_unwanted rfl rfl rfl rfl rfl rfl rfl ?_
   refine L_unwanted rfl rfl rfl rfl rfl rfl rfl ?_
   refine L_unwanted rfl rfl rfl rfl rfl rfl rfl ?_
   refine Lq (.bool false) rfl rfl rfl rfl ?_
   refine L_nil ?_
   refine W_cond_false (by show Value.bool _ = _; exact congrArg Value.bool rfl) ?_
   refine W_skip ?_
   refine W_seq ?_
   refine W_region_lit ?_
   refine Lq (int (-1)) rfl rfl rfl rfl ?_
   refine L_nil ?_
   refine W_ret ?_
   refine ⟨_, _, res_run (rs := [.tmp 6]) (vs := [(int (-1))]) Try.results35 (.cons (.tmp rfl) .nil) rfl, ?_⟩
   exact ⟨retI (verR_no (by rintro ⟨a_, b_, c_⟩; omega) (by rintro ⟨a_, b_, c_⟩; omega)).symm, hst.grow⟩

theorem currentR_spec {w : World} {R : Hp} {m : Nat} {F C : List Int} {xs : List Mo} {vF vC vL : Value} {v : Value} {l : List Fact} (h1 : Le (refK m vF vC vL) R) (hF : RdS Ty.int R vF F) (hC : RdS Ty.int R vC C) (hL : RdS tyMo R vL xs) (hR : Le R (hp w)) (hf : F.length ≤ 1000) (hc : C.length ≤ 1000) (hx : xs.length ≤ 1000000) (hv : RdS tyFact R v l) (hl : l.length ≤ 1099511627776) :
    Calls Try.prog 49 #[ptr m 0, v] w fun e w' => e = .returned (.bool (curR F C l)) ∧ Grow w w' := by
 have hst := Step.ro hR
 refine calls_of_W (n := 30) Try.func49 rfl Try.ntmps49 (Nat.le_of_ble_eq_true rfl) ?_
 refine W_seq ?_
 refine W_region_lit ?_
 refine Lq (.bool false) rfl rfl rfl rfl ?_
 refine L_nil ?_
 refine W_seq ?_
 refine W_seq ?_
 refine W_region_lit ?_
 refine Lq (int 0) rfl rfl rfl rfl ?_
 refine L_nil ?_
 refine W_block ?_
 refine W_loop (I := fun σ w_ m_ => ∃ (σ0 : Fr) (k_ : Nat), σ = upd (upd (upd σ0 0 (ptr m 0)) 1 v) 5 (int (k_ : Int)) ∧ mks (σ0 0) = [] ∧ Step w R [] w_ R [] ∧ k_ ≤ l.length ∧ curR F C l = curR F C (l.drop k_) ∧ m_ = l.length - k_) (m := l.length - 0) ?_ ?_
 ·
  exact ⟨_, 0, (upd_of (upd_of (upd_of rfl rfl) rfl) rfl), rfl, hst, (by omega), rfl, rfl⟩
 ·
  rintro m9 σ_ w3 ⟨s7, k_8, rfl, hmk1, hst2, hf5, hf6, rfl⟩
  refine W_seq ?_
  refine W_seq ?_
  refine W_region_lit ?_
  refine Lq (int (k_8 : Int)) rfl rfl rfl rfl ?_
  refine Lq v rfl rfl rfl rfl ?_
  obtain ⟨a10, cap11, e12, hc13⟩ := hv.shape
  subst e12
  refine Lq (int (l.length : Int)) rfl rfl rfl (x_len_slice rfl sl_29 rfl) ?_
  refine Lq (.bool (decide ((k_8 : Int) < (l.length : Int)))) rfl rfl rfl (by kernel_rfl) ?_
  refine L_nil ?_
  rcases Bool.eq_false_or_eq_true (decide ((k_8 : Int) < (l.length : Int))) with c14 | c14
  ·
   have q15 := of_decide_eq_true c14
   refine W_cond_true (by show Value.bool _ = _; exact congrArg Value.bool c14) ?_
   refine W_skip ?_
   refine W_seq ?_
   refine W_block ?_
   refine W_seq ?_
   refine W_region_draw [] (fun w => Le R (hp w)) hmix (by decide +kernel) (fun _ _ h => h) ?_
   have hst17 := hst2.draws (w3.drawn + 1)
   generalize draws w3 (w3.drawn + 1) = w16 at hst17 ⊢
   refine LP (ptr m 0) 0 rfl rfl rfl (fun u19 => rfl) hst17.rle' ?_
   refine LP (.slice a10 l.length cap11) 1 rfl rfl rfl (fun u22 => rfl) hst17.rle' ?_
   refine LP (int (k_8 : Int)) 2 rfl rfl rfl (fun u25 => rfl) hst17.rle' ?_
   obtain ⟨b30, off31, cap32, cs33, T34, fz35, e36, hc37, hb38, he39⟩ := hv.open (by omega)
   cases e36
   obtain ⟨cl40, hs41, hr42⟩ := he39.at k_8 (by omega)
   obtain ⟨f43, hf44⟩ : ∃ f_, f_ = (l[k_8]'(by omega)) := ⟨_, rfl⟩
   rw [← hf44] at hr42
   obtain rfl := tyFact_open hr42
   refine LP (ptr b30 (off31 + k_8 * 3)) 3 rfl rfl rfl (fun u28 => (x_indexAddr' rfl sl_29 ti_38 rfl rfl (by omega))) hst17.rle' ?_
   refine LP (ptr b30 (off31 + k_8 * 3)) 4 rfl rfl rfl (fun u46 => (by kernel_rfl)) hst17.rle' ?_
   refine LT (int f43.kind) 5 rfl rfl rfl (fun u49 hF50 => (x_load rfl rfl (run_loadVar_one ti_3 (hF50 _ _ hb38) (seg_get (j := 0) hs41 rfl)))) hst17.rle' ?_
   refine LP (.slice (some ⟨b30, off31, none⟩) l.length cap11) 6 rfl rfl rfl (fun u52 => rfl) hst17.rle' ?_
   refine LP (int (k_8 : Int)) 7 rfl rfl rfl (fun u55 => rfl) hst17.rle' ?_
   obtain ⟨cl60, hs61, hr62⟩ := he39.at k_8 (by omega)
   rw [← hf44] at hr62
   obtain rfl := tyFact_open hr62
   refine LP (ptr b30 (off31 + k_8 * 3)) 8 rfl rfl rfl (fun u58 => (x_indexAddr' rfl sl_29 ti_38 rfl rfl (by omega))) hst17.rle' ?_
   refine LP (ptr b30 (off31 + k_8 * 3 + 1)) 9 rfl rfl rfl (fun u64 => (by kernel_rfl)) hst17.rle' ?_
   refine LT (int f43.n) 10 rfl rfl rfl (fun u67 hF68 => (x_load rfl rfl (run_loadVar_one ti_3 (hF68 _ _ hb38) (seg_get (j := 1) hs61 rfl)))) hst17.rle' ?_
   refine LP (.slice (some ⟨b30, off31, none⟩) l.length cap11) 12 rfl rfl rfl (fun u72 => rfl) hst17.rle' ?_
   refine LP (int (k_8 : Int)) 13 rfl rfl rfl (fun u77 => rfl) hst17.rle' ?_
   obtain ⟨cl84, hs85, hr86⟩ := he39.at k_8 (by omega)
   rw [← hf44] at hr86
   obtain rfl := tyFact_open hr86
   refine LP (ptr b30 (off31 + k_8 * 3)) 14 rfl rfl rfl (fun u82 => (x_indexAddr' rfl sl_29 ti_38 rfl rfl (by omega))) hst17.rle' ?_
   refine LP (ptr b30 (off31 + k_8 * 3 + 2)) 15 rfl rfl rfl (fun u90 => (by kernel_rfl)) hst17.rle' ?_
   refine LT (int f43.version) 16 rfl rfl rfl (fun u95 hF96 => (x_load rfl rfl (run_loadVar_one ti_3 (hF96 _ _ hb38) (seg_get (j := 2) hs85 rfl)))) hst17.rle' ?_
   refine LA_all [11] (by decide +kernel) (by simp) ?_
   intro i_ hi_
   simp only [List.mem_cons, List.not_mem_nil, or_false] at hi_
   subst hi_
   refine One_call (i := 11) rfl rfl rfl (Want.plain rfl) (x_call (vs := #[(ptr m 0), (int f43.kind), (int f43.n)]) rfl rfl (by kernel_rfl) ent_35) (VersionR_spec (F := F) (C := C) (xs := xs) f43.kind f43.n (Le.trans h1 hst17.rle') (RdS.mono hF hst17.rle') (RdS.mono hC hst17.rle') (RdS.mono hL hst17.rle') (Le.refl _) hf hc hx) ?_
   rintro e102 w100 ⟨rfl, hw103⟩
   have hst101 := hst17.grown hw103
   refine ⟨_, rfl, (fun _ => hst101.rle'), ?_⟩
   refine LP (.bool ((verR F C f43.kind f43.n) != f43.version)) 17 rfl rfl rfl (fun u105 => (by kernel_rfl)) hst101.rle' ?_
   refine LA_done (by decide +kernel) ?_
   rcases Bool.eq_false_or_eq_true ((verR F C f43.kind f43.n) != f43.version) with c107 | c107
   ·
    have q108 : ¬ verR F C f43.kind f43.n = f43.version := by simpa using c107
    refine W_cond_true (by show Value.bool _ = _; exact congrArg Value.bool c107) ?_
    refine W_seq ?_
    refine W_region_lit ?_
    refine Lq (.bool false) rfl rfl rfl rfl ?_
    refine L_nil ?_
    refine W_ret ?_
    refine ⟨_, _, res_run (rs := [.tmp 4]) (vs := [(.bool false)]) Try.results49 (.cons (.tmp rfl) .nil) hmk1, ?_⟩
    exact ⟨retB (by rw [hf6, curR_bad (by omega) hf44 (by simpa using c107)]), hst101.grow⟩
   ·
    have q109 : verR F C f43.kind f43.n = f43.version := by simpa using c107
    refine W_cond_false (by show Value.bool _ = _; exact congrArg Value.bool c107) ?_
    refine W_skip ?_
    refine W_region_lit ?_
    refine Lq (int (k_8 : Int)) rfl rfl rfl rfl ?_
    refine Lq (int ((k_8 + 1 : Nat) : Int)) rfl rfl rfl (x_add_nat rfl rfl rfl (by omega)) ?_
    refine Lq (int ((k_8 + 1 : Nat) : Int)) rfl rfl rfl rfl ?_
    refine L_nil ?_
    refine ⟨l.length - (k_8 + 1), by first | omega | (simp only [List.length_append, List.length_cons, List.length_nil]; omega), ?_⟩
    exact ⟨_, (k_8 + 1), (upd_of (upd_of (upd_of rfl rfl) rfl) rfl), hmk1, hst101, (by omega), (hf6.trans (curR_step (by omega) hf44 (by simpa using c107))), rfl⟩
  ·
   have q110 := of_decide_eq_false c14
   refine W_cond_false (by show Value.bool _ = _; exact congrArg Value.bool c14) ?_
   refine W_exit ?_
   refine W_seq ?_
   refine W_region_lit ?_
   refine Lq (.bool true) rfl rfl rfl rfl ?_
   refine L_nil ?_
   refine W_ret ?_
   refine ⟨_, _, res_run (rs := [.tmp 4]) (vs := [(.bool true)]) Try.results49 (.cons (.tmp rfl) .nil) hmk1, ?_⟩
   exact ⟨retB (by rw [hf6, curR_end (by omega)]), hst2.grow⟩

theorem findR_spec {w : World} {R : Hp} {m : Nat} {F C : List Int} {xs : List Mo} {vF vC vL : Value} (k : Int) (h1 : Le (refK m vF vC vL) R) (hF : RdS Ty.int R vF F) (hC : RdS Ty.int R vC C) (hL : RdS tyMo R vL xs) (hR : Le R (hp w)) (hf : F.length ≤ 1000) (hc : C.length ≤ 1000) (hx : xs.length ≤ 1000000) :
    Calls Try.prog 48 #[ptr m 0, int k] w fun e w' => e = .returned (.tuple #[int (posM xs k : Int), .bool (thrM xs k)]) ∧ Grow w w' := by
 have hst := Step.ro hR
 refine calls_of_W (n := 48) Try.func48 rfl Try.ntmps48 (Nat.le_of_ble_eq_true rfl) ?_
 refine W_seq ?_
 refine W_region_lit ?_
 refine Lq (int 0) rfl rfl rfl rfl ?_
 refine Lq (.bool false) rfl rfl rfl rfl ?_
 refine L_nil ?_
 refine W_seq ?_
 refine W_region_lit ?_
 refine Lq (int 0) rfl rfl rfl rfl ?_
 refine L_nil ?_
 refine W_seq ?_
 refine W_block ?_
 refine W_loop (I := fun σ w_ m_ => ∃ (σ0 : Fr) (i_ : Nat), σ = upd (upd (upd (upd (upd σ0 0 (ptr m 0)) 1 (int k)) 4 (int 0)) 5 (.bool false)) 6 (int (i_ : Int)) ∧ mks (σ0 0) = [] ∧ Step w R [] w_ R [] ∧ i_ ≤ xs.length ∧ posM xs k = i_ + posM (xs.drop i_) k ∧ m_ = xs.length - i_) (m := xs.length - 0) ?_ ?_
 ·
  exact ⟨_, 0, (upd_of (upd_of (upd_of (upd_of (upd_of rfl rfl) rfl) rfl) rfl) rfl), rfl, hst, (by omega), (by rw [List.drop_zero, Nat.zero_add]), rfl⟩
 ·
  rintro m9 σ_ w3 ⟨s7, i_8, rfl, hmk1, hst2, hf5, hf6, rfl⟩
  refine W_seq ?_
  refine W_seq ?_
  refine W_region_lit ?_
  refine Lq (int (i_8 : Int)) rfl rfl rfl rfl ?_
  refine Lq (ptr m 0) rfl rfl rfl rfl ?_
  refine Lq (ptr m 0) rfl rfl rfl rfl ?_
  refine Lq (ptr m 2) rfl rfl rfl (by kernel_rfl) ?_
  refine Lq vL rfl rfl rfl (x_load rfl rfl (run_loadVar_one ti_85 (hst2.rle' _ _ (h1 _ _ (one_self _ _))) rfl)) ?_
  obtain ⟨a10, cap11, e12, hc13⟩ := hL.shape
  subst e12
  refine Lq (int (xs.length : Int)) rfl rfl rfl (x_len_slice rfl sl_85 rfl) ?_
  refine Lq (.bool (decide ((i_8 : Int) < (xs.length : Int)))) rfl rfl rfl (by kernel_rfl) ?_
  refine Lq (.bool (decide ((i_8 : Int) < (xs.length : Int)))) rfl rfl rfl rfl ?_
  rcases Bool.eq_false_or_eq_true (decide ((i_8 : Int) < (xs.length : Int))) with c14 | c14
  ·
   have q15 := of_decide_eq_true c14
   refine L_guard rfl rfl rfl rfl c14 ?_
   refine Lq (ptr m 0) rfl rfl rfl rfl ?_
   refine L_guard rfl rfl rfl rfl c14 ?_
   refine Lq (ptr m 0) rfl rfl rfl rfl ?_
   refine L_guard rfl rfl rfl rfl c14 ?_
   refine Lq (ptr m 2) rfl rfl rfl (by kernel_rfl) ?_
   refine L_guard rfl rfl rfl rfl c14 ?_
   refine Lq (.slice a10 xs.length cap11) rfl rfl rfl (x_load rfl rfl (run_loadVar_one ti_85 (hst2.rle' _ _ (h1 _ _ (one_self _ _))) rfl)) ?_
   refine L_guard rfl rfl rfl rfl c14 ?_
   refine Lq (int (i_8 : Int)) rfl rfl rfl rfl ?_
   refine L_guard rfl rfl rfl rfl c14 ?_
   obtain ⟨b16, off17, cap18, cs19, T20, fz21, e22, hc23, hb24, he25⟩ := hL.open (by omega)
   cases e22
   obtain ⟨cl26, hs27, hr28⟩ := he25.at i_8 (by omega)
   obtain ⟨x29, hx30⟩ : ∃ x_, x_ = (xs[i_8]'(by omega)) := ⟨_, rfl⟩
   rw [← hx30] at hr28
   obtain ⟨u31, e32, hu33⟩ := tyMo_open hr28
   subst e32
   refine Lq (ptr b16 (off17 + i_8 * 2)) rfl rfl rfl (x_indexAddr' rfl sl_85 ti_103 rfl rfl (by omega)) ?_
   refine L_guard rfl rfl rfl rfl c14 ?_
   refine Lq (ptr b16 (off17 + i_8 * 2)) rfl rfl rfl (by kernel_rfl) ?_
   refine L_guard rfl rfl rfl rfl c14 ?_
   refine Lq (int x29.1) rfl rfl rfl (x_load rfl rfl (run_loadVar_one ti_3 (hst2.rle' _ _ hb24) (seg_get (j := 0) hs27 rfl))) ?_
   refine L_guard rfl rfl rfl rfl c14 ?_
   refine Lq (int k) rfl rfl rfl rfl ?_
   refine L_guard rfl rfl rfl rfl c14 ?_
   refine Lq (.bool (decide (x29.1 < k))) rfl rfl rfl (by kernel_rfl) ?_
   refine Lq (.bool (decide (x29.1 < k))) rfl rfl rfl (x_pick rfl rfl (by rw [c14]; rfl)) ?_
   refine L_nil ?_
   rcases Bool.eq_false_or_eq_true (decide (x29.1 < k)) with c34 | c34
   ·
    have q35 := of_decide_eq_true c34
    refine W_cond_true (by show Value.bool _ = _; exact congrArg Value.bool c34) ?_
    refine W_skip ?_
    refine W_block ?_
    refine W_region_lit ?_
    refine Lq (int (i_8 : Int)) rfl rfl rfl rfl ?_
    refine Lq (int ((i_8 + 1 : Nat) : Int)) rfl rfl rfl (x_add_nat rfl rfl rfl (by omega)) ?_
    refine Lq (int ((i_8 + 1 : Nat) : Int)) rfl rfl rfl rfl ?_
    refine L_nil ?_
    refine ⟨xs.length - (i_8 + 1), by first | omega | (simp only [List.length_append, List.length_cons, List.length_nil]; omega), ?_⟩
    exact ⟨_, (i_8 + 1), (upd_of (upd_of (upd_of (upd_of (upd_of rfl rfl) rfl) rfl) rfl) rfl), hmk1, hst2, (by omega), (by rw [hf6, posM_drop (by omega) (by rw [← hx30]; omega)]; omega), rfl⟩
   ·
    have q36 := of_decide_eq_false c34
    refine W_cond_false (by show Value.bool _ = _; exact congrArg Value.bool c34) ?_
    refine W_exit ?_
    refine W_seq ?_
    have hp_ : posM xs k = i_8 := by rw [hf6, posM_stop (by omega) (by rw [← hx30]; omega)]; omega
    refine W_region_draw [] (fun w => Le R (hp w)) hmix (by decide +kernel) (fun _ _ h => h) ?_
    have hst38 := hst2.draws (w3.drawn + 1)
    generalize draws w3 (w3.drawn + 1) = w37 at hst38 ⊢
    refine LP (int (i_8 : Int)) 0 rfl rfl rfl (fun u40 => rfl) hst38.rle' ?_
    refine LP (int (i_8 : Int)) 1 rfl rfl rfl (fun u43 => rfl) hst38.rle' ?_
    refine LP (ptr m 0) 2 rfl rfl rfl (fun u46 => rfl) hst38.rle' ?_
    refine LP (ptr m 0) 3 rfl rfl rfl (fun u49 => rfl) hst38.rle' ?_
    refine LP (ptr m 2) 4 rfl rfl rfl (fun u52 => (by kernel_rfl)) hst38.rle' ?_
    refine LT (.slice (some ⟨b16, off17, none⟩) xs.length cap11) 5 rfl rfl rfl (fun u55 hF56 => (x_load rfl rfl (run_loadVar_one ti_85 ((Le.trans h1 hF56) _ _ (one_self _ _)) rfl))) hst38.rle' ?_
    refine LT (int (xs.length : Int)) 6 rfl rfl rfl (fun u58 hF59 => (x_len_slice rfl sl_85 rfl)) hst38.rle' ?_
    refine LP (.bool (decide ((i_8 : Int) < (xs.length : Int)))) 7 rfl rfl rfl (fun u61 => (by kernel_rfl)) hst38.rle' ?_
    refine LP (.bool (decide ((i_8 : Int) < (xs.length : Int)))) 8 rfl rfl rfl (fun u64 => rfl) hst38.rle' ?_
    refine LP (ptr m 0) 9 rfl rfl rfl (fun u67 => rfl) hst38.rle' ?_ (hw := (Want.of rfl rfl rfl rfl (by rw [c14]; rfl)))
    refine LP (ptr m 0) 10 rfl rfl rfl (fun u70 => rfl) hst38.rle' ?_ (hw := (Want.of rfl rfl rfl rfl (by rw [c14]; rfl)))
    refine LP (ptr m 2) 11 rfl rfl rfl (fun u73 => (by kernel_rfl)) hst38.rle' ?_ (hw := (Want.of rfl rfl rfl rfl (by rw [c14]; rfl)))
    refine LT (.slice (some ⟨b16, off17, none⟩) xs.length cap11) 12 rfl rfl rfl (fun u76 hF77 => (x_load rfl rfl (run_loadVar_one ti_85 ((Le.trans h1 hF77) _ _ (one_self _ _)) rfl))) hst38.rle' ?_ (hw := (Want.of rfl rfl rfl rfl (by rw [c14]; rfl)))
    refine LP (int (i_8 : Int)) 13 rfl rfl rfl (fun u79 => rfl) hst38.rle' ?_ (hw := (Want.of rfl rfl rfl rfl (by rw [c14]; rfl)))
    obtain ⟨cl84, hs85, hr86⟩ := he25.at i_8 (by omega)
    rw [← hx30] at hr86
    obtain ⟨u87, e88, hu89⟩ := tyMo_open hr86
    subst e88
    refine LP (ptr b16 (off17 + i_8 * 2)) 14 rfl rfl rfl (fun u82 => (x_indexAddr' rfl sl_85 ti_103 rfl rfl (by omega))) hst38.rle' ?_ (hw := (Want.of rfl rfl rfl rfl (by rw [c14]; rfl)))
    refine LP (ptr b16 (off17 + i_8 * 2)) 15 rfl rfl rfl (fun u91 => (by kernel_rfl)) hst38.rle' ?_ (hw := (Want.of rfl rfl rfl rfl (by rw [c14]; rfl)))
    refine LT (int x29.1) 16 rfl rfl rfl (fun u94 hF95 => (x_load rfl rfl (run_loadVar_one ti_3 (hF95 _ _ hb24) (seg_get (j := 0) hs85 rfl)))) hst38.rle' ?_ (hw := (Want.of rfl rfl rfl rfl (by rw [c14]; rfl)))
    refine LP (int k) 17 rfl rfl rfl (fun u97 => rfl) hst38.rle' ?_ (hw := (Want.of rfl rfl rfl rfl (by rw [c14]; rfl)))
    refine LP (.bool (x29.1 == k)) 18 rfl rfl rfl (fun u100 => (by kernel_rfl)) hst38.rle' ?_ (hw := (Want.of rfl rfl rfl rfl (by rw [c14]; rfl)))
    refine LP (.bool (x29.1 == k)) 19 rfl rfl rfl (fun u103 => (x_pick rfl rfl (by rw [c14]; rfl))) hst38.rle' ?_
    refine LP (int (i_8 : Int)) 20 rfl rfl rfl (fun u106 => rfl) hst38.rle' ?_
    refine LP (.bool (x29.1 == k)) 21 rfl rfl rfl (fun u109 => rfl) hst38.rle' ?_
    refine LA_done (by decide +kernel) ?_
    refine W_ret ?_
    refine ⟨_, _, res_run (rs := [.tmp 4, .tmp 5]) (vs := [(int (i_8 : Int)), (.bool (x29.1 == k))]) Try.results48 (.cons (.tmp rfl) (.cons (.tmp rfl) .nil)) hmk1, ?_⟩
    exact ⟨by rw [thrM_at hp_ (by omega), hp_, ← hx30]; rfl, hst38.grow⟩
  ·
   have q111 := of_decide_eq_false c14
   refine L_unwanted rfl rfl rfl rfl (by rw [c14]; try rfl) rfl rfl ?_
   refine L_unwanted rfl rfl rfl rfl (by rw [c14]; try rfl) rfl rfl ?_
   refine L_unwanted rfl rfl rfl rfl (by rw [c14]; try rfl) rfl rfl ?_
   refine L_unwanted rfl rfl rfl rfl (by rw [c14]; try rfl) rfl rfl ?_
   refine L_unwanted rfl rfl rfl rfl (by rw [c14]; try rfl) rfl rfl ?_
   refine L_unwanted rfl rfl rfl rfl (by rw [c14]; try rfl) rfl rfl ?_
   refine L_unwanted rfl rfl rfl rfl (by rw [c14]; try rfl) rfl rfl ?_
   refine L_unwanted rfl rfl rfl rfl (by rw [c14]; try rfl) rfl rfl ?_
   refine L_unwanted rfl rfl rfl rfl (by rw [c14]; try rfl) rfl rfl ?_
   refine L_unwanted rfl rfl rfl rfl (by rw [c14]; try rfl) rfl rfl ?_
   refine Lq (.bool false) rfl rfl rfl (x_pick rfl rfl (by rw [c14]; rfl)) ?_
   refine L_nil ?_
   refine W_cond_false (by show Value.bool _ = _; exact congrArg Value.bool rfl) ?_
   refine W_exit ?_
   refine W_seq ?_
   have hp_ : posM xs k = i_8 := by rw [hf6, posM_end (by omega)]; omega
   refine W_region_draw [] (fun w => Le R (hp w)) hmix (by decide +kernel) (fun _ _ h => h) ?_
   have hst113 := hst2.draws (w3.drawn + 1)
   generalize draws w3 (w3.drawn + 1) = w112 at hst113 ⊢
   refine LP (int (i_8 : Int)) 0 rfl rfl rfl (fun u115 => rfl) hst113.rle' ?_
   refine LP (int (i_8 : Int)) 1 rfl rfl rfl (fun u118 => rfl) hst113.rle' ?_
   refine LP (ptr m 0) 2 rfl rfl rfl (fun u121 => rfl) hst113.rle' ?_
   refine LP (ptr m 0) 3 rfl rfl rfl (fun u124 => rfl) hst113.rle' ?_
   refine LP (ptr m 2) 4 rfl rfl rfl (fun u127 => (by kernel_rfl)) hst113.rle' ?_
   refine LT (.slice a10 xs.length cap11) 5 rfl rfl rfl (fun u130 hF131 => (x_load rfl rfl (run_loadVar_one ti_85 ((Le.trans h1 hF131) _ _ (one_self _ _)) rfl))) hst113.rle' ?_
   refine LT (int (xs.length : Int)) 6 rfl rfl rfl (fun u133 hF134 => (x_len_slice rfl sl_85 rfl)) hst113.rle' ?_
   refine LP (.bool (decide ((i_8 : Int) < (xs.length : Int)))) 7 rfl rfl rfl (fun u136 => (by kernel_rfl)) hst113.rle' ?_
   refine LP (.bool (decide ((i_8 : Int) < (xs.length : Int)))) 8 rfl rfl rfl (fun u139 => rfl) hst113.rle' ?_
   refine LV 9 rfl rfl rfl hst113.rle' ?_ (hw := (Want.of rfl rfl rfl rfl (by rw [c14]; rfl)))
   refine LV 10 rfl rfl rfl hst113.rle' ?_ (hw := (Want.of rfl rfl rfl rfl (by rw [c14]; rfl)))
   refine LV 11 rfl rfl rfl hst113.rle' ?_ (hw := (Want.of rfl rfl rfl rfl (by rw [c14]; rfl)))
   refine LV 12 rfl rfl rfl hst113.rle' ?_ (hw := (Want.of rfl rfl rfl rfl (by rw [c14]; rfl)))
   refine LV 13 rfl rfl rfl hst113.rle' ?_ (hw := (Want.of rfl rfl rfl rfl (by rw [c14]; rfl)))
   refine LV 14 rfl rfl rfl hst113.rle' ?_ (hw := (Want.of rfl rfl rfl rfl (by rw [c14]; rfl)))
   refine LV 15 rfl rfl rfl hst113.rle' ?_ (hw := (Want.of rfl rfl rfl rfl (by rw [c14]; rfl)))
   refine LV 16 rfl rfl rfl hst113.rle' ?_ (hw := (Want.of rfl rfl rfl rfl (by rw [c14]; rfl)))
   refine LV 17 rfl rfl rfl hst113.rle' ?_ (hw := (Want.of rfl rfl rfl rfl (by rw [c14]; rfl)))
   refine LV 18 rfl rfl rfl hst113.rle' ?_ (hw := (Want.of rfl rfl rfl rfl (by rw [c14]; rfl)))
   refine LP (.bool false) 19 rfl rfl rfl (fun u152 => (x_pick rfl rfl (by rw [c14]; rfl))) hst113.rle' ?_
   refine LP (int (i_8 : Int)) 20 rfl rfl rfl (fun u155 => rfl) hst113.rle' ?_
   refine LP (.bool false) 21 rfl rfl rfl (fun u158 => rfl) hst113.rle' ?_
   refine LA_done (by decide +kernel) ?_
   refine W_ret ?_
   refine ⟨_, _, res_run (rs := [.tmp 4, .tmp 5]) (vs := [(int (i_8 : Int)), (.bool false)]) Try.results48 (.cons (.tmp rfl) (.cons (.tmp rfl) .nil)) hmk1, ?_⟩
   exact ⟨by rw [thrM_no hp_ (by omega), hp_]; rfl, hst113.grow⟩

end Go.Fx.Ytlfabjfajcbdcaa
