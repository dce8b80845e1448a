/-
  Sq19, Sp17, Sp28, Sq20, Sq21, Sq22, put together.
-/
import Derived.Test.YtjpdhfhiimbpgaaGreatDoorPL5
set_option linter.unusedSimpArgs false
set_option linter.unusedVariables false
namespace Go.Fx.YtjpdhfhiimbpgaaGreatDoor
open Go Go.Fx Go.Proofs
set_option maxRecDepth 20000
set_option maxHeartbeats 1000000 in
theorem SplitR_spec {w : World} {R c : Hp} {p : Nat} {s : TS} {n : Int} (a : Int) (hs : Sats w R [c]) (htree : RefT R p s c) (hmx : s.nodes.length ≤ 900000) (hnx : s.next.length ≤ 900000) (hco : Core n s) :
    Calls Tryz.prog 48 #[ptr p 0, int a] w (Comes' w R [c] fun v' R' L' => ∃ c', v' = .tuple #[int (s.split a).1, int (s.split a).2.1] ∧ L' = [c'] ∧ RefT R' p ((s.split a).2.2) c') := by
 obtain ⟨xs, vL, vR, cL, cX, cR, hce, hd1, hd2, hd3, hL, hX, hRs, hag, hwf, hS, hrl⟩ := htree
 have hst1 : Step w R [c] w R [uni (refB p vL vR) (tri cL cX cR)] := by have h0 := Step.refl hs; rw [hce] at h0 ⊢; exact h0
 have hst := RefT.opened hst1 hd1 hd2 hd3
 clear hst1 hce hd1 hd2 hd3
 have hlen := hS.len
 have hrv := hwf.root
 have hxl := hag.len
 refine calls_of_W (n := 133) Tryz.func48 rfl Tryz.ntmps48 (Nat.le_of_ble_eq_true rfl) ?_
 refine W_seq ?_
 refine W_region_lit ?_
 refine Lq (int 0) rfl rfl rfl rfl ?_
 refine Lq (int 0) rfl rfl rfl rfl ?_
 refine L_nil ?_
 refine W_seq ?_
 refine W_seq ?_
 refine W_region_lit ?_
 refine Lq (ptr p 0) rfl rfl rfl rfl ?_
 refine Lq (int a) rfl rfl rfl rfl ?_
 have hne2 := nds_xs hag.1
 have hv1 : RefV (hp w) p (List.map Sn.sh xs) s.roots := ⟨_, _, (hst.g 0), RdS.shape (v := vL) (OwnL.freeze hL hst.rle' (hst.g 1)) (LnX.read hX hst.rle' (hst.g 2)), OwnL.freeze (v := vR) hRs hst.rle' (hst.g 3), by rw [hne2]; exact hS, by rw [hne2]; exact hrv, hrl⟩
 refine L_callG hst (v := (.bool (thereL s.nodes a))) rfl rfl rfl (x_call (vs := #[(ptr p 0), (int a)]) rfl rfl (by kernel_rfl) ent_62) (by have h_ := (thereR_spec a hv1 (Le.refl _)); rw [hne2] at h_; exact h_) (fun w3 hst4 => ?_)
 refine Lq (.bool (!(thereL s.nodes a))) rfl rfl rfl rfl ?_
 refine L_nil ?_
 rcases Bool.eq_false_or_eq_true (thereL s.nodes a) with c5 | c5
 ·
  have q6 := thereL_iff.1 c5
  refine W_cond_false (by show Value.bool _ = _; exact congrArg Value.bool (by rw [c5]; rfl)) ?_
  refine W_skip ?_
  refine W_seq ?_
  refine W_seq ?_
  refine W_region_lit ?_
  refine Lq (ptr p 0) rfl rfl rfl rfl ?_
  refine Lq (ptr p 0) rfl rfl rfl rfl ?_
  refine Lq (ptr p 0) rfl rfl rfl (by kernel_rfl) ?_
  refine Lq vL rfl rfl rfl (x_load rfl rfl (run_loadVar_one ti_70 (hst4.b 0) rfl)) ?_
  obtain ⟨a7, cap8, e9, hc10⟩ := hL.value
  subst e9
  refine Lq (int (xs.length : Int)) rfl rfl rfl (x_len_slice rfl sl_70 rfl) ?_
  refine Lq (.bool (decide ((xs.length : Int) ≥ 200))) rfl rfl rfl (by kernel_rfl) ?_
  refine L_nil ?_
  rcases Bool.eq_false_or_eq_true (decide ((xs.length : Int) ≥ 200)) with c11 | c11
  ·
   have q12 := of_decide_eq_true c11
   refine W_cond_true (by show Value.bool _ = _; exact congrArg Value.bool c11) ?_
   refine W_seq ?_
   refine W_region_lit ?_
   refine Lq (int 0) rfl rfl rfl rfl ?_
   refine Lq (int 2) rfl rfl rfl rfl ?_
   refine L_nil ?_
   refine W_ret ?_
   refine ⟨_, _, res_run (rs := [.tmp 4, .tmp 5]) (vs := [(int 0), (int 2)]) Tryz.results48 (.cons (.tmp rfl) (.cons (.tmp rfl) .nil)) rfl, ?_⟩
   have he := split_many (s := s) (a := a) c5 (by omega)
   rw [he]
   obtain ⟨c', hst', htree'⟩ := RefT.close (s := s) ((((hst4.front 3 rfl rfl).front 3 rfl rfl).front 3 rfl rfl).front 3 rfl rfl) hL hX hRs hag hwf hS hrl
   exact ⟨_, _, _, rfl, hst'.keepN 1 rfl, c', rfl, rfl, htree'⟩
  ·
   have q13 := of_decide_eq_false c11
   refine W_cond_false (by show Value.bool _ = _; exact congrArg Value.bool c11) ?_
   refine W_skip ?_
   refine W_seq ?_
   obtain ⟨an, rfl⟩ : ∃ n : Nat, a = (n : Int) := ⟨a.toNat, by omega⟩
   refine W_region_lit ?_
   refine Lq (ptr p 0) rfl rfl rfl rfl ?_
   refine Lq (int (an : Int)) rfl rfl rfl rfl ?_
   have hne15 := nds_xs hag.1
   have hv14 : RefV (hp w3) p (List.map Sn.sh xs) s.roots := ⟨_, _, (hst4.g 0), RdS.shape (v := (.slice a7 xs.length cap8)) (OwnL.freeze hL hst4.rle' (hst4.g 1)) (LnX.read hX hst4.rle' (hst4.g 2)), OwnL.freeze (v := vR) hRs hst4.rle' (hst4.g 3), by rw [hne15]; exact hS, by rw [hne15]; exact hrv, hrl⟩
   have hcl16 : cn s.nodes an < s.nodes.length := Cans.lt hS.can (by omega)
   have hq17 := canonN hS.can (k := an) (by omega)
   refine L_callG hst4 (v := (int (((cn s.nodes an) : Nat) : Int))) rfl rfl rfl (x_call (vs := #[(ptr p 0), (int (an : Int))]) rfl rfl (by kernel_rfl) ent_35) (by have h_ := (by have h_ := (CanonR_spec (an : Int) hv14 (Le.refl _)); rw [hne15] at h_; exact h_); rw [hq17] at h_; exact h_) (fun w18 hst19 => ?_)
   refine Lq (int (((cn s.nodes an) : Nat) : Int)) rfl rfl rfl rfl ?_
   refine L_nil ?_
   refine W_seq ?_
   obtain ⟨c0, hc0⟩ : ∃ k_, k_ = (cn s.nodes an) := ⟨_, rfl⟩
   have hlc0 : c0 < s.nodes.length := by rw [hc0]; omega
   rw [← hc0]
   have hcc : cn s.nodes c0 = c0 := by rw [hc0]; exact hS.can.idem (by omega)
   refine W_region_lit ?_
   refine Lq (ptr p 0) rfl rfl rfl rfl ?_
   refine Lq (ptr p 0) rfl rfl rfl rfl ?_
   refine Lq (ptr p 0) rfl rfl rfl (by kernel_rfl) ?_
   refine Lq (.slice a7 xs.length cap8) rfl rfl rfl (x_load rfl rfl (run_loadVar_one ti_70 (hst19.b 0) rfl)) ?_
   refine Lq (int (xs.length : Int)) rfl rfl rfl (x_len_slice rfl sl_70 rfl) ?_
   refine Lq (int (xs.length : Int)) rfl rfl rfl rfl ?_
   refine L_nil ?_
   refine W_seq ?_
   refine W_seq ?_
   refine W_region_lit ?_
   refine Lq (int 0) rfl rfl rfl rfl ?_
   refine L_nil ?_
   refine W_block ?_
   refine W_loop (I := fun σ w_ m_ => ∃ (σ0 : Fr) (k_ : Nat) (ys_ : List Sn) (cX2 : Hp), σ = upd (upd (upd (upd (upd (upd (upd (upd (upd (upd (upd (upd (upd (upd (upd (upd (upd (upd (upd (upd (upd (upd (upd (upd (upd σ0 0 (ptr p 0)) 1 (int (an : Int))) 4 (int 0)) 5 (int 0)) 6 (int (c0 : Int))) 7 (int (xs.length : Int))) 8 (int (k_ : Int))) 10 (ptr p 0)) 11 (int (an : Int))) 12 (.bool (thereL s.nodes (an : Int)))) 13 (.bool (!(thereL s.nodes (an : Int))))) 14 (ptr p 0)) 15 (ptr p 0)) 16 (ptr p 0)) 17 (.slice a7 xs.length cap8)) 18 (int (xs.length : Int))) 19 (.bool (decide ((xs.length : Int) ≥ 200)))) 20 (ptr p 0)) 21 (int (an : Int))) 22 (int (c0 : Int))) 23 (ptr p 0)) 24 (ptr p 0)) 25 (ptr p 0)) 26 (.slice a7 xs.length cap8)) 27 (int (xs.length : Int)) ∧ mks (σ0 0) = [] ∧ Step w R [c] w_ R [one p (.cells #[(.slice a7 xs.length cap8), vR] 72 (0, 0)), cL, cX2, cR] ∧ OwnL tySn 75 R (.slice a7 xs.length cap8) ys_ cL ∧ LnX R ys_ cX2 ∧ k_ ≤ xs.length ∧ List.map Sn.nd ys_ = List.map Sn.nd xs ∧ List.map Sn.v ys_ = List.map Sn.v xs ∧ (∀ j (hj : j < xs.length) (hj' : j < (ys_).length), (ys_)[j].lks = if j < k_ then (xs[j].lks).map (lkF (redir s.nodes (c0 : Int) (xs.length : Int))) else xs[j].lks) ∧ m_ = xs.length - k_) (m := xs.length - 0) ?_ ?_
   ·
    exact ⟨_, 0, xs, cX, (upd_of (upd_of (upd_of (upd_of (upd_of (upd_of (upd_of (upd_of (upd_of (upd_of (upd_of (upd_of (upd_of (upd_of (upd_of (upd_of (upd_of (upd_of (upd_of (upd_of (upd_of (upd_of (upd_of (upd_of (upd_of rfl rfl) rfl) rfl) rfl) rfl) rfl) rfl) rfl) rfl) rfl) rfl) rfl) rfl) rfl) rfl) rfl) rfl) rfl) rfl) rfl) rfl) rfl) rfl) rfl) rfl), rfl, ((((hst19.front 3 rfl rfl).front 3 rfl rfl).front 3 rfl rfl).front 3 rfl rfl), hL, hX, (by omega), rfl, rfl, (fun j hj hj' => by rw [if_neg (by omega)]), rfl⟩
   ·
    rintro m34 σ_ w22 ⟨s30, k_31, ys_32, cX233, rfl, hmk20, hst21, hi24, hi25, hf26, hf27, hf28, hf29, rfl⟩
    have hyl : ys_32.length = xs.length := by have h_ := congrArg List.length hf27; simpa using h_
    refine W_seq ?_
    refine W_seq ?_
    refine W_region_lit ?_
    refine Lq (int (k_31 : Int)) rfl rfl rfl rfl ?_
    refine Lq (ptr p 0) rfl rfl rfl rfl ?_
    refine Lq (ptr p 0) rfl rfl rfl rfl ?_
    refine Lq (ptr p 0) rfl rfl rfl (by kernel_rfl) ?_
    refine Lq (.slice a7 xs.length cap8) rfl rfl rfl (x_load rfl rfl (run_loadVar_one ti_70 (hst21.b 0) rfl)) ?_
    refine Lq (int (xs.length : Int)) rfl rfl rfl (x_len_slice rfl sl_70 rfl) ?_
    refine Lq (.bool (decide ((k_31 : Int) < (xs.length : Int)))) rfl rfl rfl (by kernel_rfl) ?_
    refine L_nil ?_
    rcases Bool.eq_false_or_eq_true (decide ((k_31 : Int) < (xs.length : Int))) with c35 | c35
    ·
     have q36 := of_decide_eq_true c35
     refine W_cond_true (by show Value.bool _ = _; exact congrArg Value.bool c35) ?_
     refine W_skip ?_
     refine W_seq ?_
     refine W_block ?_
     refine W_seq ?_
     obtain ⟨c1, c2, hE, hce2, hdE, hback, hread⟩ := hi25.look4 k_31 (by omega)
     obtain ⟨y, hy⟩ : ∃ y_, y_ = ys_32[k_31]'(by omega) := ⟨_, rfl⟩
     rw [← hy] at hE
     obtain ⟨a9, cap9, e9, hcp9⟩ := hE.value
     obtain ⟨yn, yl, yv⟩ := y
     dsimp only at hE e9 hcp9
     subst e9
     have hst37 := (hst21.front 2 rfl rfl)
     rw [hce2] at hst37
     have hst38 := hst37.split hdE
     have hylb : yl.length ≤ 1000000 := by have h1_ := hf29 k_31 (by omega) (by omega); rw [if_neg (by omega), ← hy] at h1_; have h2_ := congrArg List.length (h1_.trans (hag.2 k_31 (by omega))); have h3_ := lks_len s.next (k_31 : Int); dsimp only at h2_; omega
     refine W_region_lit ?_
     refine Lq (int 0) rfl rfl rfl rfl ?_
     refine L_nil ?_
     refine W_block ?_
     refine W_loop (I := fun σ w_ m_ => ∃ (σ0 : Fr) (j_ : Nat) (cE : Hp), σ = upd (upd (upd (upd (upd (upd (upd (upd (upd (upd (upd (upd (upd (upd (upd (upd (upd (upd (upd (upd (upd (upd (upd (upd (upd (upd (upd (upd (upd (upd (upd (upd (upd σ0 0 (ptr p 0)) 1 (int (an : Int))) 4 (int 0)) 5 (int 0)) 6 (int (c0 : Int))) 7 (int (xs.length : Int))) 8 (int (k_31 : Int))) 9 (int (j_ : Int))) 10 (ptr p 0)) 11 (int (an : Int))) 12 (.bool (thereL s.nodes (an : Int)))) 13 (.bool (!(thereL s.nodes (an : Int))))) 14 (ptr p 0)) 15 (ptr p 0)) 16 (ptr p 0)) 17 (.slice a7 xs.length cap8)) 18 (int (xs.length : Int))) 19 (.bool (decide ((xs.length : Int) ≥ 200)))) 20 (ptr p 0)) 21 (int (an : Int))) 22 (int (c0 : Int))) 23 (ptr p 0)) 24 (ptr p 0)) 25 (ptr p 0)) 26 (.slice a7 xs.length cap8)) 27 (int (xs.length : Int))) 28 (int (k_31 : Int))) 29 (ptr p 0)) 30 (ptr p 0)) 31 (ptr p 0)) 32 (.slice a7 xs.length cap8)) 33 (int (xs.length : Int))) 34 (.bool (decide ((k_31 : Int) < (xs.length : Int)))) ∧ mks (σ0 0) = [] ∧ Step w R [c] w_ R [cE, c2, one p (.cells #[(.slice a7 xs.length cap8), vR] 72 (0, 0)), cL, cR] ∧ OwnL tyLk 91 R (.slice a9 yl.length cap9) (mixL (lkF (redir s.nodes (c0 : Int) (xs.length : Int))) yl j_) cE ∧ j_ ≤ yl.length ∧ m_ = yl.length - j_) (m := yl.length - 0) ?_ ?_
     ·
      exact ⟨_, 0, c1, (upd_of (upd_of (upd_of (upd_of (upd_of (upd_of (upd_of (upd_of (upd_of (upd_of (upd_of (upd_of (upd_of (upd_of (upd_of (upd_of (upd_of (upd_of (upd_of (upd_of (upd_of (upd_of (upd_of (upd_of (upd_of (upd_of (upd_of (upd_of (upd_of (upd_of (upd_of (upd_of (upd_of rfl rfl) rfl) rfl) rfl) rfl) rfl) rfl) rfl) rfl) rfl) rfl) rfl) rfl) rfl) rfl) rfl) rfl) rfl) rfl) rfl) rfl) rfl) rfl) rfl) rfl) rfl) rfl) rfl) rfl) rfl) rfl) rfl) rfl), hmk20, (((((hst38.front 4 rfl rfl).front 4 rfl rfl).front 4 rfl rfl).front 4 rfl rfl).front 4 rfl rfl), (by rw [mixL_zero]; exact hE), (by omega), rfl⟩
     ·
      rintro m48 σ_ w41 ⟨s45, j_46, cE47, rfl, hmk39, hst40, hi43, hf44, rfl⟩
      have hml := mixL_len (lkF (redir s.nodes (c0 : Int) (xs.length : Int))) yl j_46
      refine W_seq ?_
      refine W_seq ?_
      refine W_region_lit ?_
      refine Lq (int (j_46 : Int)) rfl rfl rfl rfl ?_
      refine Lq (ptr p 0) rfl rfl rfl rfl ?_
      refine Lq (ptr p 0) rfl rfl rfl rfl ?_
      refine Lq (ptr p 0) rfl rfl rfl (by kernel_rfl) ?_
      refine Lq (.slice a7 xs.length cap8) rfl rfl rfl (x_load rfl rfl (run_loadVar_one ti_70 (hst40.b 2) rfl)) ?_
      refine Lq (int (k_31 : Int)) rfl rfl rfl rfl ?_
      obtain ⟨b49, cap50, N51, e52, hc53, hrow54, hback55⟩ := OwnL.row hi24 (by omega)
      obtain ⟨rfl, hl56, rfl⟩ := Value.slice.inj e52
      try rw [← hl56] at hback55
      obtain ⟨cl57, cs58, hr59, hcb60, hsg61⟩ := Row.at hrow54 k_31 (by omega)
      rw [← hy] at hr59
      obtain ⟨vn62, rfl, hvn63, a64, n65, cap66, e67⟩ := tySn_open hr59
      refine Lq (ptr b49 (0 + k_31 * 4)) rfl rfl rfl (x_indexAddr' rfl sl_70 ti_75 rfl rfl (by omega)) ?_
      refine Lq (ptr b49 (0 + k_31 * 4 + 3)) rfl rfl rfl (by kernel_rfl) ?_
      refine Lq (.slice a9 yl.length cap9) rfl rfl rfl (x_load rfl rfl (run_loadVar_one ti_73 ((hst40.g 3) _ _ hcb60) (seg_get (j := 3) hsg61 rfl))) ?_
      refine Lq (int (yl.length : Int)) rfl rfl rfl (x_len_slice rfl sl_73 rfl) ?_
      refine Lq (.bool (decide ((j_46 : Int) < (yl.length : Int)))) rfl rfl rfl (by kernel_rfl) ?_
      refine L_nil ?_
      rcases Bool.eq_false_or_eq_true (decide ((j_46 : Int) < (yl.length : Int))) with c68 | c68
      ·
       have q69 := of_decide_eq_true c68
       refine W_cond_true (by show Value.bool _ = _; exact congrArg Value.bool c68) ?_
       refine W_skip ?_
       refine W_seq ?_
       refine W_block ?_
       refine W_seq ?_
       refine W_region_lit ?_
       refine Lq (ptr p 0) rfl rfl rfl rfl ?_
       refine Lq (ptr p 0) rfl rfl rfl rfl ?_
       refine Lq (ptr p 0) rfl rfl rfl rfl ?_
       refine Lq (ptr p 0) rfl rfl rfl (by kernel_rfl) ?_
       refine Lq (.slice (some ⟨b49, 0, none⟩) xs.length cap8) rfl rfl rfl (x_load rfl rfl (run_loadVar_one ti_70 (hst40.b 2) rfl)) ?_
       refine Lq (int (k_31 : Int)) rfl rfl rfl rfl ?_
       obtain ⟨cl70, cs71, hr72, hcb73, hsg74⟩ := Row.at hrow54 k_31 (by omega)
       rw [← hy] at hr72
       obtain ⟨vn75, rfl, hvn76, a77, n78, cap79, e80⟩ := tySn_open hr72
       refine Lq (ptr b49 (0 + k_31 * 4)) rfl rfl rfl (x_indexAddr' rfl sl_70 ti_75 rfl rfl (by omega)) ?_
       refine Lq (ptr b49 (0 + k_31 * 4 + 3)) rfl rfl rfl (by kernel_rfl) ?_
       refine Lq (.slice a9 yl.length cap9) rfl rfl rfl (x_load rfl rfl (run_loadVar_one ti_73 ((hst40.g 3) _ _ hcb73) (seg_get (j := 3) hsg74 rfl))) ?_
       refine Lq (int (j_46 : Int)) rfl rfl rfl rfl ?_
       obtain ⟨b81, cap82, N83, e84, hc85, hrow86, hback87⟩ := OwnL.row hi43 (by omega)
       obtain ⟨rfl, hl88, rfl⟩ := Value.slice.inj e84
       try rw [← hl88] at hback87
       obtain ⟨cl89, cs90, hr91, hcb92, hsg93⟩ := Row.at hrow86 j_46 (by omega)
       have hmx94 := mixL_at (F := (lkF (redir s.nodes (c0 : Int) (xs.length : Int)))) (l := yl) (j := j_46) (by omega) (by omega)
       rw [hmx94] at hr91
       have hx95 := tyLk_open hr91
       subst hx95
       refine Lq (ptr b81 (0 + j_46 * 2)) rfl rfl rfl (x_indexAddr' rfl sl_73 ti_91 rfl rfl (by omega)) ?_
       refine Lq (ptr b81 (0 + j_46 * 2 + 1)) rfl rfl rfl (by kernel_rfl) ?_
       refine Lq (int ((yl[j_46]'(by omega)).2)) rfl rfl rfl (x_load rfl rfl (run_loadVar_one ti_3 ((hst40.g 0) _ _ hcb92) (seg_get (j := 1) hsg93 rfl))) ?_
       obtain ⟨l96, hv97, hne98⟩ := RefV.mix (R' := hp w41) (p := p) (k := k_31) (y := Sn.mk yn yl (.slice (some ⟨b81, 0, none⟩) yl.length cap9)) (m := (mixL (lkF (redir s.nodes (c0 : Int) (xs.length : Int))) yl j_46)) (hst40.g 2) hst40.rle' (hback55 R ys_32 cL (by first | rfl | (simp only [List.length_set]; done) | (simp only [List.length_set]; omega) | omega) hrow54) (hst40.g 3) hRs (hst40.g 4) hread (hst40.g 1) (hback87 R (mixL (lkF (redir s.nodes (c0 : Int) (xs.length : Int))) yl j_46) cE47 (by first | rfl | (simp only [List.length_set]; done) | (simp only [List.length_set]; omega) | omega) hrow86) (hst40.g 0) (by omega) hy (hf27.trans hag.1) hS hrv hrl
       refine L_callG hst40 (v := (int (canon s.nodes ((yl[j_46]'(by omega)).2)))) rfl rfl rfl (x_call (vs := #[(ptr p 0), (int ((yl[j_46]'(by omega)).2))]) rfl rfl (by kernel_rfl) ent_35) (by have h_ := (CanonR_spec ((yl[j_46]'(by omega)).2) hv97 (Le.refl _)); rw [hne98] at h_; exact h_) (fun w99 hst100 => ?_)
       refine Lq (int (c0 : Int)) rfl rfl rfl rfl ?_
       refine Lq (.bool ((canon s.nodes ((yl[j_46]'(by omega)).2)) == (c0 : Int))) rfl rfl rfl (by kernel_rfl) ?_
       refine L_nil ?_
       rcases Bool.eq_false_or_eq_true ((canon s.nodes ((yl[j_46]'(by omega)).2)) == (c0 : Int)) with c101 | c101
       ·
        have q102 := eq_of_beq c101
        refine W_cond_true (by show Value.bool _ = _; exact congrArg Value.bool c101) ?_
        refine W_region_lit ?_
        refine Lq (ptr p 0) rfl rfl rfl rfl ?_
        refine Lq (ptr p 0) rfl rfl rfl rfl ?_
        refine Lq (ptr p 0) rfl rfl rfl (by kernel_rfl) ?_
        refine Lq (.slice (some ⟨b49, 0, none⟩) xs.length cap8) rfl rfl rfl (x_load rfl rfl (run_loadVar_one ti_70 (hst100.b 2) rfl)) ?_
        refine Lq (int (k_31 : Int)) rfl rfl rfl rfl ?_
        obtain ⟨cl103, cs104, hr105, hcb106, hsg107⟩ := Row.at hrow54 k_31 (by omega)
        rw [← hy] at hr105
        obtain ⟨vn108, rfl, hvn109, a110, n111, cap112, e113⟩ := tySn_open hr105
        refine Lq (ptr b49 (0 + k_31 * 4)) rfl rfl rfl (x_indexAddr' rfl sl_70 ti_75 rfl rfl (by omega)) ?_
        refine Lq (ptr b49 (0 + k_31 * 4 + 3)) rfl rfl rfl (by kernel_rfl) ?_
        refine Lq (.slice (some ⟨b81, 0, none⟩) yl.length cap9) rfl rfl rfl (x_load rfl rfl (run_loadVar_one ti_73 ((hst100.g 3) _ _ hcb106) (seg_get (j := 3) hsg107 rfl))) ?_
        refine Lq (int (j_46 : Int)) rfl rfl rfl rfl ?_
        refine Lq (int (xs.length : Int)) rfl rfl rfl rfl ?_
        obtain ⟨cl114, cs115, hr116, hcb117, hsg118⟩ := Row.at hrow86 j_46 (by omega)
        have hmx119 := mixL_at (F := (lkF (redir s.nodes (c0 : Int) (xs.length : Int)))) (l := yl) (j := j_46) (by omega) (by omega)
        rw [hmx119] at hr116
        have hx120 := tyLk_open hr116
        subst hx120
        refine Lq (ptr b81 (0 + j_46 * 2)) rfl rfl rfl (x_indexAddr' rfl sl_73 ti_91 rfl rfl (by omega)) ?_
        refine Lq (ptr b81 (0 + j_46 * 2 + 1)) rfl rfl rfl (by kernel_rfl) ?_
        obtain ⟨c121, w122, hr123, hrow124, hst125⟩ := Row.storeG (P := Tryz.prog) (v := (int (xs.length : Int))) (y := ((yl[j_46]'(by omega)).1, (xs.length : Int))) hrow86 hst100 ti_3 j_46 (by omega) 1 (by decide) rfl rfl (fun c1 h1 => by rw [mixL_at _ (by omega)] at h1; rw [tyLk_open h1]; exact tyLk_mk _ _ _)
        refine L_skip rfl rfl (x_store rfl rfl rfl hr123) ?_
        refine L_nil ?_
        refine W_region_lit ?_
        refine Lq (int (j_46 : Int)) rfl rfl rfl rfl ?_
        refine Lq (int ((j_46 + 1 : Nat) : Int)) rfl rfl rfl (x_add_nat rfl rfl rfl (by omega)) ?_
        refine Lq (int ((j_46 + 1 : Nat) : Int)) rfl rfl rfl rfl ?_
        refine L_nil ?_
        refine ⟨yl.length - (j_46 + 1), by first | omega | (simp only [List.length_append, List.length_cons, List.length_nil]; omega), ?_⟩
        exact ⟨_, (j_46 + 1), c121, (upd_of (upd_of (upd_of (upd_of (upd_of (upd_of (upd_of (upd_of (upd_of (upd_of (upd_of (upd_of (upd_of (upd_of (upd_of (upd_of (upd_of (upd_of (upd_of (upd_of (upd_of (upd_of (upd_of (upd_of (upd_of (upd_of (upd_of (upd_of (upd_of (upd_of (upd_of (upd_of (upd_of rfl rfl) rfl) rfl) rfl) rfl) rfl) rfl) rfl) rfl) rfl) rfl) rfl) rfl) rfl) rfl) rfl) rfl) rfl) rfl) rfl) rfl) rfl) rfl) rfl) rfl) rfl) rfl) rfl) rfl) rfl) rfl) rfl) rfl), hmk39, (((((hst125.front 4 rfl rfl).front 4 rfl rfl).front 4 rfl rfl).front 4 rfl rfl).front 4 rfl rfl), (OwnL.cast (hback87 R (List.set (mixL (lkF (redir s.nodes (c0 : Int) (xs.length : Int))) yl j_46) j_46 ((yl[j_46]'(by omega)).1, (xs.length : Int))) c121 (by first | rfl | (simp only [List.length_set]; done) | (simp only [List.length_set]; omega) | omega) hrow124) (by rw [← mixL_set (by omega), lkF_yes (eq_of_beq c101)])), (by omega), rfl⟩
       ·
        have q126 := ne_of_beq_false c101
        refine W_cond_false (by show Value.bool _ = _; exact congrArg Value.bool c101) ?_
        refine W_skip ?_
        refine W_region_lit ?_
        refine Lq (int (j_46 : Int)) rfl rfl rfl rfl ?_
        refine Lq (int ((j_46 + 1 : Nat) : Int)) rfl rfl rfl (x_add_nat rfl rfl rfl (by omega)) ?_
        refine Lq (int ((j_46 + 1 : Nat) : Int)) rfl rfl rfl rfl ?_
        refine L_nil ?_
        refine ⟨yl.length - (j_46 + 1), by first | omega | (simp only [List.length_append, List.length_cons, List.length_nil]; omega), ?_⟩
        exact ⟨_, (j_46 + 1), cE47, (upd_of (upd_of (upd_of (upd_of (upd_of (upd_of (upd_of (upd_of (upd_of (upd_of (upd_of (upd_of (upd_of (upd_of (upd_of (upd_of (upd_of (upd_of (upd_of (upd_of (upd_of (upd_of (upd_of (upd_of (upd_of (upd_of (upd_of (upd_of (upd_of (upd_of (upd_of (upd_of (upd_of rfl rfl) rfl) rfl) rfl) rfl) rfl) rfl) rfl) rfl) rfl) rfl) rfl) rfl) rfl) rfl) rfl) rfl) rfl) rfl) rfl) rfl) rfl) rfl) rfl) rfl) rfl) rfl) rfl) rfl) rfl) rfl) rfl) rfl), hmk39, (((((hst100.front 4 rfl rfl).front 4 rfl rfl).front 4 rfl rfl).front 4 rfl rfl).front 4 rfl rfl), (OwnL.cast (hback87 R (mixL (lkF (redir s.nodes (c0 : Int) (xs.length : Int))) yl j_46) cE47 (by first | rfl | (simp only [List.length_set]; done) | (simp only [List.length_set]; omega) | omega) hrow86) (mixL_same (by omega) (lkF_no (ne_of_beq_false c101))).symm), (by omega), rfl⟩
      ·
       have q127 := of_decide_eq_false c68
       refine W_cond_false (by show Value.bool _ = _; exact congrArg Value.bool c68) ?_
       refine W_exit ?_
       have hE128 := OwnL.cast hi43 (mixL_all (by omega))
       have hst129 := (((((hst40.front 4 rfl rfl).front 4 rfl rfl).front 4 rfl rfl).front 4 rfl rfl).front 4 rfl rfl)
       have hd130 := (List.pairwise_cons.1 hst129.sats.dj).1 _ (List.mem_cons_self ..)
       have hX131 := hback _ (Sn.mk yn (yl.map (lkF (redir s.nodes (c0 : Int) (xs.length : Int)))) (.slice a9 yl.length cap9)) _ (Le.refl _) hE128 hd130
       have hst132 := hst129.join
       refine W_region_lit ?_
       refine Lq (int (k_31 : Int)) rfl rfl rfl rfl ?_
       refine Lq (int ((k_31 + 1 : Nat) : Int)) rfl rfl rfl (x_add_nat rfl rfl rfl (by omega)) ?_
       refine Lq (int ((k_31 + 1 : Nat) : Int)) rfl rfl rfl rfl ?_
       refine L_nil ?_
       refine ⟨xs.length - (k_31 + 1), by first | omega | (simp only [List.length_append, List.length_cons, List.length_nil]; omega), ?_⟩
       exact ⟨_, (k_31 + 1), (List.set ys_32 k_31 (Sn.mk yn (yl.map (lkF (redir s.nodes (c0 : Int) (xs.length : Int)))) (.slice a9 yl.length cap9))), (uni cE47 c2), (upd_of (upd_of (upd_of (upd_of (upd_of (upd_of (upd_of (upd_of (upd_of (upd_of (upd_of (upd_of (upd_of (upd_of (upd_of (upd_of (upd_of (upd_of (upd_of (upd_of (upd_of (upd_of (upd_of (upd_of (upd_of rfl rfl) rfl) rfl) rfl) rfl) rfl) rfl) rfl) rfl) rfl) rfl) rfl) rfl) rfl) rfl) rfl) rfl) rfl) rfl) rfl) rfl) rfl) rfl) rfl) rfl), hmk39, ((((hst132.front 3 rfl rfl).front 1 rfl rfl).front 3 rfl rfl).front 3 rfl rfl), (OwnL.relks (hback55 R ys_32 cL (by first | rfl | (simp only [List.length_set]; done) | (simp only [List.length_set]; omega) | omega) hrow54) (set_nd (by omega) (by rw [← hy])) (set_v (by omega) (by rw [← hy]))), hX131, (by omega), ((set_nd (by omega) (by rw [← hy])).trans hf27), ((set_v (by omega) (by rw [← hy])).trans hf28), (turned_step (by omega) (by omega) hf29 (by rw [← hy])), rfl⟩
    ·
     have q133 := of_decide_eq_false c35
     refine W_cond_false (by show Value.bool _ = _; exact congrArg Value.bool c35) ?_
     refine W_exit ?_
     refine W_seq ?_
     refine W_seq ?_
     refine W_region_lit ?_
     refine Lq (ptr p 0) rfl rfl rfl rfl ?_
     refine Lq (ptr p 0) rfl rfl rfl rfl ?_
     refine Lq (ptr p 0) rfl rfl rfl rfl ?_
     refine Lq (ptr p 0) rfl rfl rfl (by kernel_rfl) ?_
     refine Lq (.slice a7 xs.length cap8) rfl rfl rfl (x_load rfl rfl (run_loadVar_one ti_70 (hst21.b 0) rfl)) ?_
     refine Lq (int (c0 : Int)) rfl rfl rfl rfl ?_
     obtain ⟨b134, cap135, N136, e137, hc138, hrow139, hback140⟩ := OwnL.row hi24 (by omega)
     obtain ⟨rfl, hl141, rfl⟩ := Value.slice.inj e137
     try rw [← hl141] at hback140
     obtain ⟨cl142, cs143, hr144, hcb145, hsg146⟩ := Row.at hrow139 c0 (by omega)
     obtain ⟨x147, hx148⟩ : ∃ x_, x_ = (ys_32[c0]'(by omega)) := ⟨_, rfl⟩
     rw [← hx148] at hr144
     have hnd149 := nd_at (hf27.trans hag.1) (by omega) (by omega) hx148
     have hbn : x147.nd.names.length ≤ 1000000 := by rw [← hnd149]; exact hS.names _ _
     obtain ⟨vn150, rfl, hvn151, a152, n153, cap154, e155⟩ := tySn_open hr144
     refine Lq (ptr b134 (0 + c0 * 4)) rfl rfl rfl (x_indexAddr' rfl sl_70 ti_75 rfl rfl (by omega)) ?_
     refine Lq (ptr b134 (0 + c0 * 4)) rfl rfl rfl (by kernel_rfl) ?_
     refine Lq (int x147.nd.cls) rfl rfl rfl (x_load rfl rfl (run_loadVar_one ti_3 ((hst21.g 1) _ _ hcb145) (seg_get (j := 0) hsg146 rfl))) ?_
     have hne157 := nds_xs (hf27.trans hag.1)
     have hv156 : RefV (hp w22) p (List.map Sn.sh ys_32) s.roots := ⟨_, _, (hst21.g 0), RdS.shape (v := (.slice (some ⟨b134, 0, none⟩) xs.length cap8)) (OwnL.freeze (hback140 R ys_32 cL (by first | rfl | (simp only [List.length_set]; done) | (simp only [List.length_set]; omega) | omega) hrow139) hst21.rle' (hst21.g 1)) (LnX.read hi25 hst21.rle' (hst21.g 2)), OwnL.freeze (v := vR) hRs hst21.rle' (hst21.g 3), by rw [hne157]; exact hS, by rw [hne157]; exact hrv, hrl⟩
     refine L_callG hst21 (v := (int (rootL s.nodes s.roots x147.nd.cls))) rfl rfl rfl (x_call (vs := #[(ptr p 0), (int x147.nd.cls)]) rfl rfl (by kernel_rfl) ent_37) (by have h_ := (RootR_spec x147.nd.cls hv156 (Le.refl _)); rw [hne157] at h_; exact h_) (fun w158 hst159 => ?_)
     refine Lq (int (c0 : Int)) rfl rfl rfl rfl ?_
     refine Lq (.bool ((rootL s.nodes s.roots x147.nd.cls) == (c0 : Int))) rfl rfl rfl (by kernel_rfl) ?_
     refine L_nil ?_
     rcases Bool.eq_false_or_eq_true ((rootL s.nodes s.roots x147.nd.cls) == (c0 : Int)) with c160 | c160
     ·
      have q161 := eq_of_beq c160
      refine W_cond_true (by show Value.bool _ = _; exact congrArg Value.bool c160) ?_
      have hroot := eq_of_beq c160
      obtain ⟨kc, hkc, hkl⟩ := root_cls hroot
      obtain ⟨a162, cap163, e164, hc165⟩ := hRs.value
      subst e164
      obtain ⟨b166, cap167, N168, e169, hc170, hrow171, hback172⟩ := OwnL.row hRs (by omega)
      obtain ⟨rfl, hl173, rfl⟩ := Value.slice.inj e169
      try rw [← hl173] at hback172
      refine W_region_draw [14] (fun w => Le R (hp w) ∧ Le (one p (.cells #[(.slice (some ⟨b134, 0, none⟩) xs.length cap8), (.slice (some ⟨b166, 0, none⟩) s.roots.length cap163)] 72 (0, 0))) (hp w) ∧ Le cL (hp w) ∧ Le cX233 (hp w) ∧ Le cR (hp w)) hmix (by decide +kernel) (fun _ _ h => h) ?_
      have hst175 := hst159.draws (w158.drawn + 1)
      generalize draws w158 (w158.drawn + 1) = w174 at hst175 ⊢
      refine LP (ptr p 0) 0 rfl rfl rfl (fun u177 => rfl) hst175.a4 ?_
      refine LP (ptr p 0) 1 rfl rfl rfl (fun u180 => rfl) hst175.a4 ?_
      refine LP (ptr p 1) 2 rfl rfl rfl (fun u183 => (by kernel_rfl)) hst175.a4 ?_
      refine LT (.slice (some ⟨b166, 0, none⟩) s.roots.length cap163) 3 rfl rfl rfl (fun u186 hF187 => (x_load rfl rfl (run_loadVar_one ti_62 (hF187.2.1 _ _ (one_self _ _)) rfl))) hst175.a4 ?_
      refine LP (ptr p 0) 4 rfl rfl rfl (fun u189 => rfl) hst175.a4 ?_
      refine LP (ptr p 0) 5 rfl rfl rfl (fun u192 => rfl) hst175.a4 ?_
      refine LP (ptr p 0) 6 rfl rfl rfl (fun u195 => (by kernel_rfl)) hst175.a4 ?_
      refine LT (.slice (some ⟨b134, 0, none⟩) xs.length cap8) 7 rfl rfl rfl (fun u198 hF199 => (x_load rfl rfl (run_loadVar_one ti_70 (hF199.2.1 _ _ (one_self _ _)) rfl))) hst175.a4 ?_
      refine LP (int (c0 : Int)) 8 rfl rfl rfl (fun u201 => rfl) hst175.a4 ?_
      obtain ⟨cl206, cs207, hr208, hcb209, hsg210⟩ := Row.at hrow139 c0 (by omega)
      rw [← hx148] at hr208
      obtain ⟨vn211, rfl, hvn212⟩ := tySn_openC hr208 hkc
      refine LP (ptr b134 (0 + c0 * 4)) 9 rfl rfl rfl (fun u204 => (x_indexAddr' rfl sl_70 ti_75 rfl rfl (by omega))) hst175.a4 ?_
      refine LP (ptr b134 (0 + c0 * 4)) 10 rfl rfl rfl (fun u214 => (by kernel_rfl)) hst175.a4 ?_
      refine LT (int (kc : Int)) 11 rfl rfl rfl (fun u217 hF218 => (x_load rfl rfl (run_loadVar_one ti_3 (hF218.2.2.1 _ _ hcb209) (seg_get (j := 0) hsg210 rfl)))) hst175.a4 ?_
      refine LP (int (xs.length : Int)) 12 rfl rfl rfl (fun u220 => rfl) hst175.a4 ?_
      obtain ⟨cl225, cs226, hr227, hcb228, hsg229⟩ := Row.at hrow171 kc (by omega)
      have hx230 : cl225 = [.int .i64 (s.roots[kc]'(by omega))] := hr227
      subst hx230
      refine LP (ptr b166 (0 + kc * 1)) 13 rfl rfl rfl (fun u223 => (x_indexAddr' rfl sl_62 ti_3 rfl rfl (by omega))) hst175.a4 ?_
      refine LA_all [14] (by decide +kernel) (by simp) ?_
      intro i_ hi_
      simp only [List.mem_cons, List.not_mem_nil, or_false] at hi_
      subst hi_
      obtain ⟨c232, w233, hr234, hrow235, hst236⟩ := Row.store (P := Tryz.prog) (v := (int (xs.length : Int))) (y := (xs.length : Int)) hrow171 (hst175.front 3 rfl rfl) ti_3 kc (by omega) rfl
      refine One_skip (i := 14) rfl rfl (Want.plain rfl) (x_store rfl rfl rfl hr234) (fun h => absurd h (by decide +kernel)) ?_
      refine LA_done (by decide +kernel) ?_
      refine W_seq ?_
      refine W_region_draw [28] (fun w => Le R (hp w) ∧ Le (one p (.cells #[(.slice (some ⟨b134, 0, none⟩) xs.length cap8), (.slice (some ⟨b166, 0, none⟩) s.roots.length cap163)] 72 (0, 0))) (hp w)) hmix (by decide +kernel) (fun _ _ h => h) ?_
      have hst238 := hst236.draws (w233.drawn + 1)
      generalize draws w233 (w233.drawn + 1) = w237 at hst238 ⊢
      refine LP (ptr p 0) 0 rfl rfl rfl (fun u240 => rfl) ⟨hst238.rle', hst238.g 1⟩ ?_
      refine LP (ptr p 0) 1 rfl rfl rfl (fun u243 => rfl) ⟨hst238.rle', hst238.g 1⟩ ?_
      refine LP (ptr p 0) 2 rfl rfl rfl (fun u246 => rfl) ⟨hst238.rle', hst238.g 1⟩ ?_
      refine LP (ptr p 0) 3 rfl rfl rfl (fun u249 => (by kernel_rfl)) ⟨hst238.rle', hst238.g 1⟩ ?_
      refine LT (.slice (some ⟨b134, 0, none⟩) xs.length cap8) 4 rfl rfl rfl (fun u252 hF253 => (x_load rfl rfl (run_loadVar_one ti_70 (hF253.2 _ _ (one_self _ _)) rfl))) ⟨hst238.rle', hst238.g 1⟩ ?_
      refine LP (ptr p 0) 5 rfl rfl rfl (fun u255 => rfl) ⟨hst238.rle', hst238.g 1⟩ ?_
      refine LP (ptr p 0) 6 rfl rfl rfl (fun u258 => rfl) ⟨hst238.rle', hst238.g 1⟩ ?_
      refine LP (ptr p 0) 7 rfl rfl rfl (fun u261 => (by kernel_rfl)) ⟨hst238.rle', hst238.g 1⟩ ?_
      refine LT (.slice (some ⟨b134, 0, none⟩) xs.length cap8) 8 rfl rfl rfl (fun u264 hF265 => (x_load rfl rfl (run_loadVar_one ti_70 (hF265.2 _ _ (one_self _ _)) rfl))) ⟨hst238.rle', hst238.g 1⟩ ?_
      refine LP (int (c0 : Int)) 9 rfl rfl rfl (fun u267 => rfl) ⟨hst238.rle', hst238.g 1⟩ ?_
      obtain ⟨cl272, cs273, hr274, hcb275, hsg276⟩ := Row.at hrow139 c0 (by omega)
      rw [← hx148] at hr274
      obtain ⟨vn277, rfl, hvn278⟩ := tySn_openC hr274 hkc
      refine LP (ptr b134 (0 + c0 * 4)) 10 rfl rfl rfl (fun u270 => (x_indexAddr' rfl sl_70 ti_75 rfl rfl (by omega))) ⟨hst238.rle', hst238.g 1⟩ ?_
      refine LP (ptr b134 (0 + c0 * 4)) 11 rfl rfl rfl (fun u280 => (by kernel_rfl)) ⟨hst238.rle', hst238.g 1⟩ ?_
      refine LP (ptr p 0) 14 rfl rfl rfl (fun u287 => rfl) ⟨hst238.rle', hst238.g 1⟩ ?_
      refine LP (ptr p 0) 15 rfl rfl rfl (fun u294 => rfl) ⟨hst238.rle', hst238.g 1⟩ ?_
      refine LP (ptr p 0) 16 rfl rfl rfl (fun u301 => (by kernel_rfl)) ⟨hst238.rle', hst238.g 1⟩ ?_
      refine LT (.slice (some ⟨b134, 0, none⟩) xs.length cap8) 17 rfl rfl rfl (fun u308 hF309 => (x_load rfl rfl (run_loadVar_one ti_70 (hF309.2 _ _ (one_self _ _)) rfl))) ⟨hst238.rle', hst238.g 1⟩ ?_
      refine LP (int (c0 : Int)) 18 rfl rfl rfl (fun u315 => rfl) ⟨hst238.rle', hst238.g 1⟩ ?_
      obtain ⟨cl324, cs325, hr326, hcb327, hsg328⟩ := Row.at hrow139 c0 (by omega)
      rw [← hx148] at hr326
      obtain ⟨vn329, rfl, hvn330⟩ := tySn_openC hr326 hkc
      refine LP (ptr b134 (0 + c0 * 4)) 19 rfl rfl rfl (fun u322 => (x_indexAddr' rfl sl_70 ti_75 rfl rfl (by omega))) ⟨hst238.rle', hst238.g 1⟩ ?_
      refine LP (ptr b134 (0 + c0 * 4 + 2)) 20 rfl rfl rfl (fun u336 => (by kernel_rfl)) ⟨hst238.rle', hst238.g 1⟩ ?_
      refine LA_all [12, 13, 21] (by decide +kernel) (by simp) ?_
      intro i_ hi_
      simp only [List.mem_cons, List.not_mem_nil, or_false] at hi_
      rcases hi_ with rfl | rfl | rfl
      ·
       refine One_val (i := 12) (v := (int (kc : Int))) rfl rfl rfl (Want.plain rfl) (x_load rfl rfl (run_loadVar_one ti_3 ((hst238.g 2) _ _ hcb275) (seg_get (j := 0) hsg276 rfl))) (fun _ => ⟨hst238.rle', hst238.g 1⟩) ?_
       refine LA_all [13, 21] (by decide +kernel) (by simp) ?_
       intro i_ hi_
       simp only [List.mem_cons, List.not_mem_nil, or_false] at hi_
       rcases hi_ with rfl | rfl
       ·
        refine One_new hst238 (i := 13) (v := fun b => .slice (some ⟨b, 0, none⟩) 0 0) (ob := .cells #[] 9 (0, 0)) rfl rfl rfl (Want.plain rfl) (by kernel_rfl) (fun b350 w351 hst352 => ?_)
        refine ⟨(fun _ => ⟨hst352.rle', hst352.g 2⟩), ?_⟩
        refine LA_all [21] (by decide +kernel) (by simp) ?_
        intro i_ hi_
        simp only [List.mem_cons, List.not_mem_nil, or_false] at hi_
        subst hi_
        refine One_val (i := 21) (v := vn329) rfl rfl rfl (Want.plain rfl) (x_load rfl rfl (run_loadVar_one ti_42 ((hst352.g 3) _ _ hcb327) (seg_get (j := 2) hsg328 rfl))) (fun _ => ⟨hst352.rle', hst352.g 2⟩) ?_
        refine LA_all [22] (by decide +kernel) (by simp) ?_
        intro i_ hi_
        simp only [List.mem_cons, List.not_mem_nil, or_false] at hi_
        subst hi_
        have ho359 : OwnL Ty.str 9 R (.slice (some ⟨b350, 0, none⟩) 0 0) ([] : List Str) (one b350 (.cells #[] 9 (0, 0))) := OwnL.lit (cs := []) Encs.nil rfl (by decide)
        obtain ⟨v360, c361, w362, hr363, ho364, hst365⟩ := run_appendM (P := Tryz.prog) (tt := 42) sl_42 ti_9 rfl ho359 hst352 (RdS.mono hvn330 (Le.refl _)) hst352.rle' (by simp only [List.length_append, List.length_cons, List.length_nil]; omega) (by simp only [List.length_append, List.length_cons, List.length_nil, maxLen]; omega)
        refine One_val (i := 22) (v := v360) rfl rfl rfl (Want.plain rfl) (x_append rfl rfl rfl hr363) (fun _ => ⟨hst365.rle', hst365.g 2⟩) ?_
        obtain ⟨R366, hst367, hle368, hc369⟩ := Step.frz hst365
        have hm370 := Row.mono hrow235 hle368
        have hm371 := Row.mono hrow139 hle368
        have hm372 := LnX.mono hi25 hle368
        have hrd373 := OwnL.freeze ho364 hle368 hc369
        have hxs374 : (([] : List Str) ++ x147.nd.names).length = x147.nd.names.length := by simp
        obtain ⟨a378, cap379, e380, hc381⟩ := hrd373.shape
        subst e380
        refine LP (.agg #[(int (kc : Int)), (int (-1)), (.slice a378 ((([] : List Str) ++ x147.nd.names).length) cap379), (.slice none 0 0)]) 23 rfl rfl rfl (fun u376 => (by kernel_rfl)) ⟨(Le.trans hle368 hst367.rle'), hst367.g 1⟩ ?_
        refine LA_all [24] (by decide +kernel) (by simp) ?_
        intro i_ hi_
        simp only [List.mem_cons, List.not_mem_nil, or_false] at hi_
        subst hi_
        refine One_new hst367 (i := 24) (v := fun b => .slice (some ⟨b, 0, none⟩) 1 1) (ob := .cells #[(int (kc : Int)), (int (-1)), (.slice a378 ((([] : List Str) ++ x147.nd.names).length) cap379), (.slice none 0 0)] 75 (0, 0)) rfl rfl rfl (Want.plain rfl) (by kernel_rfl) (fun b385 w386 hst387 => ?_)
        refine ⟨(fun _ => ⟨(Le.trans hle368 hst387.rle'), hst387.g 2⟩), ?_⟩
        refine LA_all [25] (by decide +kernel) (by simp) ?_
        intro i_ hi_
        simp only [List.mem_cons, List.not_mem_nil, or_false] at hi_
        subst hi_
        have ho391 := (hback172 R366 (s.roots.set kc (xs.length : Int)) c232 (by first | rfl | (simp only [List.length_set]; done) | (simp only [List.length_set]; omega) | omega) hm370)
        have ho392 := (hback140 R366 ys_32 cL (by first | rfl | (simp only [List.length_set]; done) | (simp only [List.length_set]; omega) | omega) hm371)
        refine One_append (j := 25) hst387 (t := 70) (e := 75) (ys := [Sn.mk (Nd.mk (kc : Int) (-1) (([] : List Str) ++ x147.nd.names)) [] (.slice none 0 0)]) (src := [(int (kc : Int)), (int (-1)), (.slice a378 ((([] : List Str) ++ x147.nd.names).length) cap379), (.slice none 0 0)]) 3 rfl rfl rfl (Want.plain rfl) rfl rfl rfl sl_70 ti_75 rfl rfl rfl ho392 (src_own (hst387.b 0)) (sn_mk (RdS.mono hrd373 (Le.refl _))) rfl (by first | omega | (simp only [List.length_append, List.length_cons, List.length_nil]; omega)) (by first | (simp only [maxLen]; omega) | (simp only [List.length_append, List.length_cons, List.length_nil, maxLen]; omega)) (fun v393 c394 w395 ho396 hst397 => ?_)
        refine ⟨(fun _ => ⟨(Le.trans hle368 hst397.rle'), hst397.g 3⟩), ?_⟩
        refine LP (ptr p 0) 26 rfl rfl rfl (fun u399 => rfl) ⟨(Le.trans hle368 hst397.rle'), hst397.g 3⟩ ?_
        refine LP (ptr p 0) 27 rfl rfl rfl (fun u402 => (by kernel_rfl)) ⟨(Le.trans hle368 hst397.rle'), hst397.g 3⟩ ?_
        refine LA_all [28] (by decide +kernel) (by simp) ?_
        intro i_ hi_
        simp only [List.mem_cons, List.not_mem_nil, or_false] at hi_
        subst hi_
        obtain ⟨a405, cap406, e407, hc408⟩ := ho396.value
        subst e407
        obtain ⟨w409, hr411, hst410⟩ := run_storeW (P := Tryz.prog) (b := p) (off := 0) (v := (.slice a405 ((ys_32 ++ [Sn.mk (Nd.mk (kc : Int) (-1) (([] : List Str) ++ x147.nd.names)) [] (.slice none 0 0)]).length) cap406)) hst397 3 ti_70 rfl rfl rfl rfl rfl rfl
        change Step _ _ _ _ _ [c394, one b385 (.cells #[(int (kc : Int)), (int (-1)), (.slice a378 ((([] : List Str) ++ x147.nd.names).length) cap379), (.slice none 0 0)] 75 (0, 0)), c232, one p (.cells #[(.slice a405 ((ys_32 ++ [Sn.mk (Nd.mk (kc : Int) (-1) (([] : List Str) ++ x147.nd.names)) [] (.slice none 0 0)]).length) cap406), (.slice (some ⟨b166, 0, none⟩) s.roots.length cap163)] 72 (0, 0)), cX233] at hst410
        refine One_skip (i := 28) rfl rfl (Want.plain rfl) (x_store rfl rfl rfl hr411) (fun h => absurd h (by decide +kernel)) ?_
        refine LA_done (by decide +kernel) ?_
        refine W_seq ?_
        refine W_region_lit ?_
        refine Lq (int (xs.length : Int)) rfl rfl rfl rfl ?_
        refine Lq (int (xs.length : Int)) rfl rfl rfl rfl ?_
        refine Lq (int 0) rfl rfl rfl rfl ?_
        refine L_nil ?_
        refine W_ret ?_
        refine ⟨_, _, res_run (rs := [.tmp 4, .tmp 5]) (vs := [(int (xs.length : Int)), (int 0)]) Tryz.results48 (.cons (.tmp rfl) (.cons (.tmp rfl) .nil)) hmk20, ?_⟩
        have he := split_new (s := s) (a := an) (by omega) (by omega)
        rw [← hc0] at he
        rw [he]
        have hndc := nd_of (by omega) hnd149
        have hagr := hag.split hwf (c := c0) hf27 (fun j hj hj' => by have h_ := hf29 j hj hj'; rw [if_pos (by omega)] at h_; rw [h_, hxl])
        rw [hndc] at hagr
        rw [hkc] at hagr
        obtain ⟨c', hst', htree'⟩ := RefT.close (s := s.splitC c0) ((((hst410.front 2 rfl rfl).front 4 rfl rfl).front 2 rfl rfl).front 4 rfl rfl) ho396 (hm372.app (y := ⟨⟨(kc : Int), -1, ((([] : List Str) ++ x147.nd.names))⟩, [], .slice none 0 0⟩) rfl rfl) (OwnL.castI ho391 (splitC_roots_yes hwf hco (by omega) hcc hnd149 hkc hxl hroot)) hagr (hwf.splitC c0) (hS.app (by omega) (by rw [hndc]; exact hbn) rfl) (by show (List.map _ _).length ≤ _; rw [List.length_map]; exact hrl)
        exact ⟨_, _, _, rfl, hst'.keepN 1 rfl, c', (by rw [hxl]; rfl), rfl, htree'⟩
       ·
        refine One_val (i := 21) (v := vn329) rfl rfl rfl (Want.plain rfl) (x_load rfl rfl (run_loadVar_one ti_42 ((hst238.g 2) _ _ hcb327) (seg_get (j := 2) hsg328 rfl))) (fun _ => ⟨hst238.rle', hst238.g 1⟩) ?_
        refine LA_all [13] (by decide +kernel) (by simp) ?_
        intro i_ hi_
        simp only [List.mem_cons, List.not_mem_nil, or_false] at hi_
        subst hi_
        refine One_new hst238 (i := 13) (v := fun b => .slice (some ⟨b, 0, none⟩) 0 0) (ob := .cells #[] 9 (0, 0)) rfl rfl rfl (Want.plain rfl) (by kernel_rfl) (fun b415 w416 hst417 => ?_)
        refine ⟨(fun _ => ⟨hst417.rle', hst417.g 2⟩), ?_⟩
        refine LA_all [22] (by decide +kernel) (by simp) ?_
        intro i_ hi_
        simp only [List.mem_cons, List.not_mem_nil, or_false] at hi_
        subst hi_
        have ho421 : OwnL Ty.str 9 R (.slice (some ⟨b415, 0, none⟩) 0 0) ([] : List Str) (one b415 (.cells #[] 9 (0, 0))) := OwnL.lit (cs := []) Encs.nil rfl (by decide)
        obtain ⟨v422, c423, w424, hr425, ho426, hst427⟩ := run_appendM (P := Tryz.prog) (tt := 42) sl_42 ti_9 rfl ho421 hst417 (RdS.mono hvn330 (Le.refl _)) hst417.rle' (by simp only [List.length_append, List.length_cons, List.length_nil]; omega) (by simp only [List.length_append, List.length_cons, List.length_nil, maxLen]; omega)
        refine One_val (i := 22) (v := v422) rfl rfl rfl (Want.plain rfl) (x_append rfl rfl rfl hr425) (fun _ => ⟨hst427.rle', hst427.g 2⟩) ?_
        obtain ⟨R428, hst429, hle430, hc431⟩ := Step.frz hst427
        have hm432 := Row.mono hrow235 hle430
        have hm433 := Row.mono hrow139 hle430
        have hm434 := LnX.mono hi25 hle430
        have hrd435 := OwnL.freeze ho426 hle430 hc431
        have hxs436 : (([] : List Str) ++ x147.nd.names).length = x147.nd.names.length := by simp
        obtain ⟨a440, cap441, e442, hc443⟩ := hrd435.shape
        subst e442
        refine LP (.agg #[(int (kc : Int)), (int (-1)), (.slice a440 ((([] : List Str) ++ x147.nd.names).length) cap441), (.slice none 0 0)]) 23 rfl rfl rfl (fun u438 => (by kernel_rfl)) ⟨(Le.trans hle430 hst429.rle'), hst429.g 1⟩ ?_
        refine LA_all [24] (by decide +kernel) (by simp) ?_
        intro i_ hi_
        simp only [List.mem_cons, List.not_mem_nil, or_false] at hi_
        subst hi_
        refine One_new hst429 (i := 24) (v := fun b => .slice (some ⟨b, 0, none⟩) 1 1) (ob := .cells #[(int (kc : Int)), (int (-1)), (.slice a440 ((([] : List Str) ++ x147.nd.names).length) cap441), (.slice none 0 0)] 75 (0, 0)) rfl rfl rfl (Want.plain rfl) (by kernel_rfl) (fun b447 w448 hst449 => ?_)
        refine ⟨(fun _ => ⟨(Le.trans hle430 hst449.rle'), hst449.g 2⟩), ?_⟩
        refine LA_all [25] (by decide +kernel) (by simp) ?_
        intro i_ hi_
        simp only [List.mem_cons, List.not_mem_nil, or_false] at hi_
        subst hi_
        have ho453 := (hback172 R428 (s.roots.set kc (xs.length : Int)) c232 (by first | rfl | (simp only [List.length_set]; done) | (simp only [List.length_set]; omega) | omega) hm432)
        have ho454 := (hback140 R428 ys_32 cL (by first | rfl | (simp only [List.length_set]; done) | (simp only [List.length_set]; omega) | omega) hm433)
        refine One_append (j := 25) hst449 (t := 70) (e := 75) (ys := [Sn.mk (Nd.mk (kc : Int) (-1) (([] : List Str) ++ x147.nd.names)) [] (.slice none 0 0)]) (src := [(int (kc : Int)), (int (-1)), (.slice a440 ((([] : List Str) ++ x147.nd.names).length) cap441), (.slice none 0 0)]) 3 rfl rfl rfl (Want.plain rfl) rfl rfl rfl sl_70 ti_75 rfl rfl rfl ho454 (src_own (hst449.b 0)) (sn_mk (RdS.mono hrd435 (Le.refl _))) rfl (by first | omega | (simp only [List.length_append, List.length_cons, List.length_nil]; omega)) (by first | (simp only [maxLen]; omega) | (simp only [List.length_append, List.length_cons, List.length_nil, maxLen]; omega)) (fun v455 c456 w457 ho458 hst459 => ?_)
        refine ⟨(fun _ => ⟨(Le.trans hle430 hst459.rle'), hst459.g 3⟩), ?_⟩
        refine LP (ptr p 0) 26 rfl rfl rfl (fun u461 => rfl) ⟨(Le.trans hle430 hst459.rle'), hst459.g 3⟩ ?_
        refine LP (ptr p 0) 27 rfl rfl rfl (fun u464 => (by kernel_rfl)) ⟨(Le.trans hle430 hst459.rle'), hst459.g 3⟩ ?_
        refine LA_all [28] (by decide +kernel) (by simp) ?_
        intro i_ hi_
        simp only [List.mem_cons, List.not_mem_nil, or_false] at hi_
        subst hi_
        obtain ⟨a467, cap468, e469, hc470⟩ := ho458.value
        subst e469
        obtain ⟨w471, hr473, hst472⟩ := run_storeW (P := Tryz.prog) (b := p) (off := 0) (v := (.slice a467 ((ys_32 ++ [Sn.mk (Nd.mk (kc : Int) (-1) (([] : List Str) ++ x147.nd.names)) [] (.slice none 0 0)]).length) cap468)) hst459 3 ti_70 rfl rfl rfl rfl rfl rfl
        change Step _ _ _ _ _ [c456, one b447 (.cells #[(int (kc : Int)), (int (-1)), (.slice a440 ((([] : List Str) ++ x147.nd.names).length) cap441), (.slice none 0 0)] 75 (0, 0)), c232, one p (.cells #[(.slice a467 ((ys_32 ++ [Sn.mk (Nd.mk (kc : Int) (-1) (([] : List Str) ++ x147.nd.names)) [] (.slice none 0 0)]).length) cap468), (.slice (some ⟨b166, 0, none⟩) s.roots.length cap163)] 72 (0, 0)), cX233] at hst472
        refine One_skip (i := 28) rfl rfl (Want.plain rfl) (x_store rfl rfl rfl hr473) (fun h => absurd h (by decide +kernel)) ?_
        refine LA_done (by decide +kernel) ?_
        refine W_seq ?_
        refine W_region_lit ?_
        refine Lq (int (xs.length : Int)) rfl rfl rfl rfl ?_
        refine Lq (int (xs.length : Int)) rfl rfl rfl rfl ?_
        refine Lq (int 0) rfl rfl rfl rfl ?_
        refine L_nil ?_
        refine W_ret ?_
        refine ⟨_, _, res_run (rs := [.tmp 4, .tmp 5]) (vs := [(int (xs.length : Int)), (int 0)]) Tryz.results48 (.cons (.tmp rfl) (.cons (.tmp rfl) .nil)) hmk20, ?_⟩
        have he := split_new (s := s) (a := an) (by omega) (by omega)
        rw [← hc0] at he
        rw [he]
        have hndc := nd_of (by omega) hnd149
        have hagr := hag.split hwf (c := c0) hf27 (fun j hj hj' => by have h_ := hf29 j hj hj'; rw [if_pos (by omega)] at h_; rw [h_, hxl])
        rw [hndc] at hagr
        rw [hkc] at hagr
        obtain ⟨c', hst', htree'⟩ := RefT.close (s := s.splitC c0) ((((hst472.front 2 rfl rfl).front 4 rfl rfl).front 2 rfl rfl).front 4 rfl rfl) ho458 (hm434.app (y := ⟨⟨(kc : Int), -1, ((([] : List Str) ++ x147.nd.names))⟩, [], .slice none 0 0⟩) rfl rfl) (OwnL.castI ho453 (splitC_roots_yes hwf hco (by omega) hcc hnd149 hkc hxl hroot)) hagr (hwf.splitC c0) (hS.app (by omega) (by rw [hndc]; exact hbn) rfl) (by show (List.map _ _).length ≤ _; rw [List.length_map]; exact hrl)
        exact ⟨_, _, _, rfl, hst'.keepN 1 rfl, c', (by rw [hxl]; rfl), rfl, htree'⟩
      ·
       refine One_new hst238 (i := 13) (v := fun b => .slice (some ⟨b, 0, none⟩) 0 0) (ob := .cells #[] 9 (0, 0)) rfl rfl rfl (Want.plain rfl) (by kernel_rfl) (fun b474 w475 hst476 => ?_)
       refine ⟨(fun _ => ⟨hst476.rle', hst476.g 2⟩), ?_⟩
       refine LA_all [12, 21] (by decide +kernel) (by simp) ?_
       intro i_ hi_
       simp only [List.mem_cons, List.not_mem_nil, or_false] at hi_
       rcases hi_ with rfl | rfl
       ·
        refine One_val (i := 12) (v := (int (kc : Int))) rfl rfl rfl (Want.plain rfl) (x_load rfl rfl (run_loadVar_one ti_3 ((hst476.g 3) _ _ hcb275) (seg_get (j := 0) hsg276 rfl))) (fun _ => ⟨hst476.rle', hst476.g 2⟩) ?_
        refine LA_all [21] (by decide +kernel) (by simp) ?_
        intro i_ hi_
        simp only [List.mem_cons, List.not_mem_nil, or_false] at hi_
        subst hi_
        refine One_val (i := 21) (v := vn329) rfl rfl rfl (Want.plain rfl) (x_load rfl rfl (run_loadVar_one ti_42 ((hst476.g 3) _ _ hcb327) (seg_get (j := 2) hsg328 rfl))) (fun _ => ⟨hst476.rle', hst476.g 2⟩) ?_
        refine LA_all [22] (by decide +kernel) (by simp) ?_
        intro i_ hi_
        simp only [List.mem_cons, List.not_mem_nil, or_false] at hi_
        subst hi_
        have ho488 : OwnL Ty.str 9 R (.slice (some ⟨b474, 0, none⟩) 0 0) ([] : List Str) (one b474 (.cells #[] 9 (0, 0))) := OwnL.lit (cs := []) Encs.nil rfl (by decide)
        obtain ⟨v489, c490, w491, hr492, ho493, hst494⟩ := run_appendM (P := Tryz.prog) (tt := 42) sl_42 ti_9 rfl ho488 hst476 (RdS.mono hvn330 (Le.refl _)) hst476.rle' (by simp only [List.length_append, List.length_cons, List.length_nil]; omega) (by simp only [List.length_append, List.length_cons, List.length_nil, maxLen]; omega)
        refine One_val (i := 22) (v := v489) rfl rfl rfl (Want.plain rfl) (x_append rfl rfl rfl hr492) (fun _ => ⟨hst494.rle', hst494.g 2⟩) ?_
        obtain ⟨R495, hst496, hle497, hc498⟩ := Step.frz hst494
        have hm499 := Row.mono hrow235 hle497
        have hm500 := Row.mono hrow139 hle497
        have hm501 := LnX.mono hi25 hle497
        have hrd502 := OwnL.freeze ho493 hle497 hc498
        have hxs503 : (([] : List Str) ++ x147.nd.names).length = x147.nd.names.length := by simp
        obtain ⟨a507, cap508, e509, hc510⟩ := hrd502.shape
        subst e509
        refine LP (.agg #[(int (kc : Int)), (int (-1)), (.slice a507 ((([] : List Str) ++ x147.nd.names).length) cap508), (.slice none 0 0)]) 23 rfl rfl rfl (fun u505 => (by kernel_rfl)) ⟨(Le.trans hle497 hst496.rle'), hst496.g 1⟩ ?_
        refine LA_all [24] (by decide +kernel) (by simp) ?_
        intro i_ hi_
        simp only [List.mem_cons, List.not_mem_nil, or_false] at hi_
        subst hi_
        refine One_new hst496 (i := 24) (v := fun b => .slice (some ⟨b, 0, none⟩) 1 1) (ob := .cells #[(int (kc : Int)), (int (-1)), (.slice a507 ((([] : List Str) ++ x147.nd.names).length) cap508), (.slice none 0 0)] 75 (0, 0)) rfl rfl rfl (Want.plain rfl) (by kernel_rfl) (fun b514 w515 hst516 => ?_)
        refine ⟨(fun _ => ⟨(Le.trans hle497 hst516.rle'), hst516.g 2⟩), ?_⟩
        refine LA_all [25] (by decide +kernel) (by simp) ?_
        intro i_ hi_
        simp only [List.mem_cons, List.not_mem_nil, or_false] at hi_
        subst hi_
        have ho520 := (hback172 R495 (s.roots.set kc (xs.length : Int)) c232 (by first | rfl | (simp only [List.length_set]; done) | (simp only [List.length_set]; omega) | omega) hm499)
        have ho521 := (hback140 R495 ys_32 cL (by first | rfl | (simp only [List.length_set]; done) | (simp only [List.length_set]; omega) | omega) hm500)
        refine One_append (j := 25) hst516 (t := 70) (e := 75) (ys := [Sn.mk (Nd.mk (kc : Int) (-1) (([] : List Str) ++ x147.nd.names)) [] (.slice none 0 0)]) (src := [(int (kc : Int)), (int (-1)), (.slice a507 ((([] : List Str) ++ x147.nd.names).length) cap508), (.slice none 0 0)]) 3 rfl rfl rfl (Want.plain rfl) rfl rfl rfl sl_70 ti_75 rfl rfl rfl ho521 (src_own (hst516.b 0)) (sn_mk (RdS.mono hrd502 (Le.refl _))) rfl (by first | omega | (simp only [List.length_append, List.length_cons, List.length_nil]; omega)) (by first | (simp only [maxLen]; omega) | (simp only [List.length_append, List.length_cons, List.length_nil, maxLen]; omega)) (fun v522 c523 w524 ho525 hst526 => ?_)
        refine ⟨(fun _ => ⟨(Le.trans hle497 hst526.rle'), hst526.g 3⟩), ?_⟩
        refine LP (ptr p 0) 26 rfl rfl rfl (fun u528 => rfl) ⟨(Le.trans hle497 hst526.rle'), hst526.g 3⟩ ?_
        refine LP (ptr p 0) 27 rfl rfl rfl (fun u531 => (by kernel_rfl)) ⟨(Le.trans hle497 hst526.rle'), hst526.g 3⟩ ?_
        refine LA_all [28] (by decide +kernel) (by simp) ?_
        intro i_ hi_
        simp only [List.mem_cons, List.not_mem_nil, or_false] at hi_
        subst hi_
        obtain ⟨a534, cap535, e536, hc537⟩ := ho525.value
        subst e536
        obtain ⟨w538, hr540, hst539⟩ := run_storeW (P := Tryz.prog) (b := p) (off := 0) (v := (.slice a534 ((ys_32 ++ [Sn.mk (Nd.mk (kc : Int) (-1) (([] : List Str) ++ x147.nd.names)) [] (.slice none 0 0)]).length) cap535)) hst526 3 ti_70 rfl rfl rfl rfl rfl rfl
        change Step _ _ _ _ _ [c523, one b514 (.cells #[(int (kc : Int)), (int (-1)), (.slice a507 ((([] : List Str) ++ x147.nd.names).length) cap508), (.slice none 0 0)] 75 (0, 0)), c232, one p (.cells #[(.slice a534 ((ys_32 ++ [Sn.mk (Nd.mk (kc : Int) (-1) (([] : List Str) ++ x147.nd.names)) [] (.slice none 0 0)]).length) cap535), (.slice (some ⟨b166, 0, none⟩) s.roots.length cap163)] 72 (0, 0)), cX233] at hst539
        refine One_skip (i := 28) rfl rfl (Want.plain rfl) (x_store rfl rfl rfl hr540) (fun h => absurd h (by decide +kernel)) ?_
        refine LA_done (by decide +kernel) ?_
        refine W_seq ?_
        refine W_region_lit ?_
        refine Lq (int (xs.length : Int)) rfl rfl rfl rfl ?_
        refine Lq (int (xs.length : Int)) rfl rfl rfl rfl ?_
        refine Lq (int 0) rfl rfl rfl rfl ?_
        refine L_nil ?_
        refine W_ret ?_
        refine ⟨_, _, res_run (rs := [.tmp 4, .tmp 5]) (vs := [(int (xs.length : Int)), (int 0)]) Tryz.results48 (.cons (.tmp rfl) (.cons (.tmp rfl) .nil)) hmk20, ?_⟩
        have he := split_new (s := s) (a := an) (by omega) (by omega)
        rw [← hc0] at he
        rw [he]
        have hndc := nd_of (by omega) hnd149
        have hagr := hag.split hwf (c := c0) hf27 (fun j hj hj' => by have h_ := hf29 j hj hj'; rw [if_pos (by omega)] at h_; rw [h_, hxl])
        rw [hndc] at hagr
        rw [hkc] at hagr
        obtain ⟨c', hst', htree'⟩ := RefT.close (s := s.splitC c0) ((((hst539.front 2 rfl rfl).front 4 rfl rfl).front 2 rfl rfl).front 4 rfl rfl) ho525 (hm501.app (y := ⟨⟨(kc : Int), -1, ((([] : List Str) ++ x147.nd.names))⟩, [], .slice none 0 0⟩) rfl rfl) (OwnL.castI ho520 (splitC_roots_yes hwf hco (by omega) hcc hnd149 hkc hxl hroot)) hagr (hwf.splitC c0) (hS.app (by omega) (by rw [hndc]; exact hbn) rfl) (by show (List.map _ _).length ≤ _; rw [List.length_map]; exact hrl)
        exact ⟨_, _, _, rfl, hst'.keepN 1 rfl, c', (by rw [hxl]; rfl), rfl, htree'⟩
       ·
        refine One_val (i := 21) (v := vn329) rfl rfl rfl (Want.plain rfl) (x_load rfl rfl (run_loadVar_one ti_42 ((hst476.g 3) _ _ hcb327) (seg_get (j := 2) hsg328 rfl))) (fun _ => ⟨hst476.rle', hst476.g 2⟩) ?_
        refine LA_all [12, 22] (by decide +kernel) (by simp) ?_
        intro i_ hi_
        simp only [List.mem_cons, List.not_mem_nil, or_false] at hi_
        rcases hi_ with rfl | rfl
        ·
         refine One_val (i := 12) (v := (int (kc : Int))) rfl rfl rfl (Want.plain rfl) (x_load rfl rfl (run_loadVar_one ti_3 ((hst476.g 3) _ _ hcb275) (seg_get (j := 0) hsg276 rfl))) (fun _ => ⟨hst476.rle', hst476.g 2⟩) ?_
         refine LA_all [22] (by decide +kernel) (by simp) ?_
         intro i_ hi_
         simp only [List.mem_cons, List.not_mem_nil, or_false] at hi_
         subst hi_
         have ho549 : OwnL Ty.str 9 R (.slice (some ⟨b474, 0, none⟩) 0 0) ([] : List Str) (one b474 (.cells #[] 9 (0, 0))) := OwnL.lit (cs := []) Encs.nil rfl (by decide)
         obtain ⟨v550, c551, w552, hr553, ho554, hst555⟩ := run_appendM (P := Tryz.prog) (tt := 42) sl_42 ti_9 rfl ho549 hst476 (RdS.mono hvn330 (Le.refl _)) hst476.rle' (by simp only [List.length_append, List.length_cons, List.length_nil]; omega) (by simp only [List.length_append, List.length_cons, List.length_nil, maxLen]; omega)
         refine One_val (i := 22) (v := v550) rfl rfl rfl (Want.plain rfl) (x_append rfl rfl rfl hr553) (fun _ => ⟨hst555.rle', hst555.g 2⟩) ?_
         obtain ⟨R556, hst557, hle558, hc559⟩ := Step.frz hst555
         have hm560 := Row.mono hrow235 hle558
         have hm561 := Row.mono hrow139 hle558
         have hm562 := LnX.mono hi25 hle558
         have hrd563 := OwnL.freeze ho554 hle558 hc559
         have hxs564 : (([] : List Str) ++ x147.nd.names).length = x147.nd.names.length := by simp
         obtain ⟨a568, cap569, e570, hc571⟩ := hrd563.shape
         subst e570
         refine LP (.agg #[(int (kc : Int)), (int (-1)), (.slice a568 ((([] : List Str) ++ x147.nd.names).length) cap569), (.slice none 0 0)]) 23 rfl rfl rfl (fun u566 => (by kernel_rfl)) ⟨(Le.trans hle558 hst557.rle'), hst557.g 1⟩ ?_
         refine LA_all [24] (by decide +kernel) (by simp) ?_
         intro i_ hi_
         simp only [List.mem_cons, List.not_mem_nil, or_false] at hi_
         subst hi_
         refine One_new hst557 (i := 24) (v := fun b => .slice (some ⟨b, 0, none⟩) 1 1) (ob := .cells #[(int (kc : Int)), (int (-1)), (.slice a568 ((([] : List Str) ++ x147.nd.names).length) cap569), (.slice none 0 0)] 75 (0, 0)) rfl rfl rfl (Want.plain rfl) (by kernel_rfl) (fun b575 w576 hst577 => ?_)
         refine ⟨(fun _ => ⟨(Le.trans hle558 hst577.rle'), hst577.g 2⟩), ?_⟩
         refine LA_all [25] (by decide +kernel) (by simp) ?_
         intro i_ hi_
         simp only [List.mem_cons, List.not_mem_nil, or_false] at hi_
         subst hi_
         have ho581 := (hback172 R556 (s.roots.set kc (xs.length : Int)) c232 (by first | rfl | (simp only [List.length_set]; done) | (simp only [List.length_set]; omega) | omega) hm560)
         have ho582 := (hback140 R556 ys_32 cL (by first | rfl | (simp only [List.length_set]; done) | (simp only [List.length_set]; omega) | omega) hm561)
         refine One_append (j := 25) hst577 (t := 70) (e := 75) (ys := [Sn.mk (Nd.mk (kc : Int) (-1) (([] : List Str) ++ x147.nd.names)) [] (.slice none 0 0)]) (src := [(int (kc : Int)), (int (-1)), (.slice a568 ((([] : List Str) ++ x147.nd.names).length) cap569), (.slice none 0 0)]) 3 rfl rfl rfl (Want.plain rfl) rfl rfl rfl sl_70 ti_75 rfl rfl rfl ho582 (src_own (hst577.b 0)) (sn_mk (RdS.mono hrd563 (Le.refl _))) rfl (by first | omega | (simp only [List.length_append, List.length_cons, List.length_nil]; omega)) (by first | (simp only [maxLen]; omega) | (simp only [List.length_append, List.length_cons, List.length_nil, maxLen]; omega)) (fun v583 c584 w585 ho586 hst587 => ?_)
         refine ⟨(fun _ => ⟨(Le.trans hle558 hst587.rle'), hst587.g 3⟩), ?_⟩
         refine LP (ptr p 0) 26 rfl rfl rfl (fun u589 => rfl) ⟨(Le.trans hle558 hst587.rle'), hst587.g 3⟩ ?_
         refine LP (ptr p 0) 27 rfl rfl rfl (fun u592 => (by kernel_rfl)) ⟨(Le.trans hle558 hst587.rle'), hst587.g 3⟩ ?_
         refine LA_all [28] (by decide +kernel) (by simp) ?_
         intro i_ hi_
         simp only [List.mem_cons, List.not_mem_nil, or_false] at hi_
         subst hi_
         obtain ⟨a595, cap596, e597, hc598⟩ := ho586.value
         subst e597
         obtain ⟨w599, hr601, hst600⟩ := run_storeW (P := Tryz.prog) (b := p) (off := 0) (v := (.slice a595 ((ys_32 ++ [Sn.mk (Nd.mk (kc : Int) (-1) (([] : List Str) ++ x147.nd.names)) [] (.slice none 0 0)]).length) cap596)) hst587 3 ti_70 rfl rfl rfl rfl rfl rfl
         change Step _ _ _ _ _ [c584, one b575 (.cells #[(int (kc : Int)), (int (-1)), (.slice a568 ((([] : List Str) ++ x147.nd.names).length) cap569), (.slice none 0 0)] 75 (0, 0)), c232, one p (.cells #[(.slice a595 ((ys_32 ++ [Sn.mk (Nd.mk (kc : Int) (-1) (([] : List Str) ++ x147.nd.names)) [] (.slice none 0 0)]).length) cap596), (.slice (some ⟨b166, 0, none⟩) s.roots.length cap163)] 72 (0, 0)), cX233] at hst600
         refine One_skip (i := 28) rfl rfl (Want.plain rfl) (x_store rfl rfl rfl hr601) (fun h => absurd h (by decide +kernel)) ?_
         refine LA_done (by decide +kernel) ?_
         refine W_seq ?_
         refine W_region_lit ?_
         refine Lq (int (xs.length : Int)) rfl rfl rfl rfl ?_
         refine Lq (int (xs.length : Int)) rfl rfl rfl rfl ?_
         refine Lq (int 0) rfl rfl rfl rfl ?_
         refine L_nil ?_
         refine W_ret ?_
         refine ⟨_, _, res_run (rs := [.tmp 4, .tmp 5]) (vs := [(int (xs.length : Int)), (int 0)]) Tryz.results48 (.cons (.tmp rfl) (.cons (.tmp rfl) .nil)) hmk20, ?_⟩
         have he := split_new (s := s) (a := an) (by omega) (by omega)
         rw [← hc0] at he
         rw [he]
         have hndc := nd_of (by omega) hnd149
         have hagr := hag.split hwf (c := c0) hf27 (fun j hj hj' => by have h_ := hf29 j hj hj'; rw [if_pos (by omega)] at h_; rw [h_, hxl])
         rw [hndc] at hagr
         rw [hkc] at hagr
         obtain ⟨c', hst', htree'⟩ := RefT.close (s := s.splitC c0) ((((hst600.front 2 rfl rfl).front 4 rfl rfl).front 2 rfl rfl).front 4 rfl rfl) ho586 (hm562.app (y := ⟨⟨(kc : Int), -1, ((([] : List Str) ++ x147.nd.names))⟩, [], .slice none 0 0⟩) rfl rfl) (OwnL.castI ho581 (splitC_roots_yes hwf hco (by omega) hcc hnd149 hkc hxl hroot)) hagr (hwf.splitC c0) (hS.app (by omega) (by rw [hndc]; exact hbn) rfl) (by show (List.map _ _).length ≤ _; rw [List.length_map]; exact hrl)
         exact ⟨_, _, _, rfl, hst'.keepN 1 rfl, c', (by rw [hxl]; rfl), rfl, htree'⟩
        ·
         have ho602 : OwnL Ty.str 9 R (.slice (some ⟨b474, 0, none⟩) 0 0) ([] : List Str) (one b474 (.cells #[] 9 (0, 0))) := OwnL.lit (cs := []) Encs.nil rfl (by decide)
         obtain ⟨v603, c604, w605, hr606, ho607, hst608⟩ := run_appendM (P := Tryz.prog) (tt := 42) sl_42 ti_9 rfl ho602 hst476 (RdS.mono hvn330 (Le.refl _)) hst476.rle' (by simp only [List.length_append, List.length_cons, List.length_nil]; omega) (by simp only [List.length_append, List.length_cons, List.length_nil, maxLen]; omega)
         refine One_val (i := 22) (v := v603) rfl rfl rfl (Want.plain rfl) (x_append rfl rfl rfl hr606) (fun _ => ⟨hst608.rle', hst608.g 2⟩) ?_
         obtain ⟨R609, hst610, hle611, hc612⟩ := Step.frz hst608
         have hm613 := Row.mono hrow235 hle611
         have hm614 := Row.mono hrow139 hle611
         have hm615 := LnX.mono hi25 hle611
         have hrd616 := OwnL.freeze ho607 hle611 hc612
         have hxs617 : (([] : List Str) ++ x147.nd.names).length = x147.nd.names.length := by simp
         refine LA_all [12] (by decide +kernel) (by simp) ?_
         intro i_ hi_
         simp only [List.mem_cons, List.not_mem_nil, or_false] at hi_
         subst hi_
         refine One_val (i := 12) (v := (int (kc : Int))) rfl rfl rfl (Want.plain rfl) (x_load rfl rfl (run_loadVar_one ti_3 ((hst610.g 2) _ _ hcb275) (seg_get (j := 0) hsg276 rfl))) (fun _ => ⟨(Le.trans hle611 hst610.rle'), hst610.g 1⟩) ?_
         obtain ⟨a624, cap625, e626, hc627⟩ := hrd616.shape
         subst e626
         refine LP (.agg #[(int (kc : Int)), (int (-1)), (.slice a624 ((([] : List Str) ++ x147.nd.names).length) cap625), (.slice none 0 0)]) 23 rfl rfl rfl (fun u622 => (by kernel_rfl)) ⟨(Le.trans hle611 hst610.rle'), hst610.g 1⟩ ?_
         refine LA_all [24] (by decide +kernel) (by simp) ?_
         intro i_ hi_
         simp only [List.mem_cons, List.not_mem_nil, or_false] at hi_
         subst hi_
         refine One_new hst610 (i := 24) (v := fun b => .slice (some ⟨b, 0, none⟩) 1 1) (ob := .cells #[(int (kc : Int)), (int (-1)), (.slice a624 ((([] : List Str) ++ x147.nd.names).length) cap625), (.slice none 0 0)] 75 (0, 0)) rfl rfl rfl (Want.plain rfl) (by kernel_rfl) (fun b631 w632 hst633 => ?_)
         refine ⟨(fun _ => ⟨(Le.trans hle611 hst633.rle'), hst633.g 2⟩), ?_⟩
         refine LA_all [25] (by decide +kernel) (by simp) ?_
         intro i_ hi_
         simp only [List.mem_cons, List.not_mem_nil, or_false] at hi_
         subst hi_
         have ho637 := (hback172 R609 (s.roots.set kc (xs.length : Int)) c232 (by first | rfl | (simp only [List.length_set]; done) | (simp only [List.length_set]; omega) | omega) hm613)
         have ho638 := (hback140 R609 ys_32 cL (by first | rfl | (simp only [List.length_set]; done) | (simp only [List.length_set]; omega) | omega) hm614)
         refine One_append (j := 25) hst633 (t := 70) (e := 75) (ys := [Sn.mk (Nd.mk (kc : Int) (-1) (([] : List Str) ++ x147.nd.names)) [] (.slice none 0 0)]) (src := [(int (kc : Int)), (int (-1)), (.slice a624 ((([] : List Str) ++ x147.nd.names).length) cap625), (.slice none 0 0)]) 3 rfl rfl rfl (Want.plain rfl) rfl rfl rfl sl_70 ti_75 rfl rfl rfl ho638 (src_own (hst633.b 0)) (sn_mk (RdS.mono hrd616 (Le.refl _))) rfl (by first | omega | (simp only [List.length_append, List.length_cons, List.length_nil]; omega)) (by first | (simp only [maxLen]; omega) | (simp only [List.length_append, List.length_cons, List.length_nil, maxLen]; omega)) (fun v639 c640 w641 ho642 hst643 => ?_)
         refine ⟨(fun _ => ⟨(Le.trans hle611 hst643.rle'), hst643.g 3⟩), ?_⟩
         refine LP (ptr p 0) 26 rfl rfl rfl (fun u645 => rfl) ⟨(Le.trans hle611 hst643.rle'), hst643.g 3⟩ ?_
         refine LP (ptr p 0) 27 rfl rfl rfl (fun u648 => (by kernel_rfl)) ⟨(Le.trans hle611 hst643.rle'), hst643.g 3⟩ ?_
         refine LA_all [28] (by decide +kernel) (by simp) ?_
         intro i_ hi_
         simp only [List.mem_cons, List.not_mem_nil, or_false] at hi_
         subst hi_
         obtain ⟨a651, cap652, e653, hc654⟩ := ho642.value
         subst e653
         obtain ⟨w655, hr657, hst656⟩ := run_storeW (P := Tryz.prog) (b := p) (off := 0) (v := (.slice a651 ((ys_32 ++ [Sn.mk (Nd.mk (kc : Int) (-1) (([] : List Str) ++ x147.nd.names)) [] (.slice none 0 0)]).length) cap652)) hst643 3 ti_70 rfl rfl rfl rfl rfl rfl
         change Step _ _ _ _ _ [c640, one b631 (.cells #[(int (kc : Int)), (int (-1)), (.slice a624 ((([] : List Str) ++ x147.nd.names).length) cap625), (.slice none 0 0)] 75 (0, 0)), c232, one p (.cells #[(.slice a651 ((ys_32 ++ [Sn.mk (Nd.mk (kc : Int) (-1) (([] : List Str) ++ x147.nd.names)) [] (.slice none 0 0)]).length) cap652), (.slice (some ⟨b166, 0, none⟩) s.roots.length cap163)] 72 (0, 0)), cX233] at hst656
         refine One_skip (i := 28) rfl rfl (Want.plain rfl) (x_store rfl rfl rfl hr657) (fun h => absurd h (by decide +kernel)) ?_
         refine LA_done (by decide +kernel) ?_
         refine W_seq ?_
         refine W_region_lit ?_
         refine Lq (int (xs.length : Int)) rfl rfl rfl rfl ?_
         refine Lq (int (xs.length : Int)) rfl rfl rfl rfl ?_
         refine Lq (int 0) rfl rfl rfl rfl ?_
         refine L_nil ?_
         refine W_ret ?_
         refine ⟨_, _, res_run (rs := [.tmp 4, .tmp 5]) (vs := [(int (xs.length : Int)), (int 0)]) Tryz.results48 (.cons (.tmp rfl) (.cons (.tmp rfl) .nil)) hmk20, ?_⟩
         have he := split_new (s := s) (a := an) (by omega) (by omega)
         rw [← hc0] at he
         rw [he]
         have hndc := nd_of (by omega) hnd149
         have hagr := hag.split hwf (c := c0) hf27 (fun j hj hj' => by have h_ := hf29 j hj hj'; rw [if_pos (by omega)] at h_; rw [h_, hxl])
         rw [hndc] at hagr
         rw [hkc] at hagr
         obtain ⟨c', hst', htree'⟩ := RefT.close (s := s.splitC c0) ((((hst656.front 2 rfl rfl).front 4 rfl rfl).front 2 rfl rfl).front 4 rfl rfl) ho642 (hm615.app (y := ⟨⟨(kc : Int), -1, ((([] : List Str) ++ x147.nd.names))⟩, [], .slice none 0 0⟩) rfl rfl) (OwnL.castI ho637 (splitC_roots_yes hwf hco (by omega) hcc hnd149 hkc hxl hroot)) hagr (hwf.splitC c0) (hS.app (by omega) (by rw [hndc]; exact hbn) rfl) (by show (List.map _ _).length ≤ _; rw [List.length_map]; exact hrl)
         exact ⟨_, _, _, rfl, hst'.keepN 1 rfl, c', (by rw [hxl]; rfl), rfl, htree'⟩
      ·
       refine One_val (i := 21) (v := vn329) rfl rfl rfl (Want.plain rfl) (x_load rfl rfl (run_loadVar_one ti_42 ((hst238.g 2) _ _ hcb327) (seg_get (j := 2) hsg328 rfl))) (fun _ => ⟨hst238.rle', hst238.g 1⟩) ?_
       refine LA_all [12, 13] (by decide +kernel) (by simp) ?_
       intro i_ hi_
       simp only [List.mem_cons, List.not_mem_nil, or_false] at hi_
       rcases hi_ with rfl | rfl
       ·
        refine One_val (i := 12) (v := (int (kc : Int))) rfl rfl rfl (Want.plain rfl) (x_load rfl rfl (run_loadVar_one ti_3 ((hst238.g 2) _ _ hcb275) (seg_get (j := 0) hsg276 rfl))) (fun _ => ⟨hst238.rle', hst238.g 1⟩) ?_
        refine LA_all [13] (by decide +kernel) (by simp) ?_
        intro i_ hi_
        simp only [List.mem_cons, List.not_mem_nil, or_false] at hi_
        subst hi_
        refine One_new hst238 (i := 13) (v := fun b => .slice (some ⟨b, 0, none⟩) 0 0) (ob := .cells #[] 9 (0, 0)) rfl rfl rfl (Want.plain rfl) (by kernel_rfl) (fun b666 w667 hst668 => ?_)
        refine ⟨(fun _ => ⟨hst668.rle', hst668.g 2⟩), ?_⟩
        refine LA_all [22] (by decide +kernel) (by simp) ?_
        intro i_ hi_
        simp only [List.mem_cons, List.not_mem_nil, or_false] at hi_
        subst hi_
        have ho672 : OwnL Ty.str 9 R (.slice (some ⟨b666, 0, none⟩) 0 0) ([] : List Str) (one b666 (.cells #[] 9 (0, 0))) := OwnL.lit (cs := []) Encs.nil rfl (by decide)
        obtain ⟨v673, c674, w675, hr676, ho677, hst678⟩ := run_appendM (P := Tryz.prog) (tt := 42) sl_42 ti_9 rfl ho672 hst668 (RdS.mono hvn330 (Le.refl _)) hst668.rle' (by simp only [List.length_append, List.length_cons, List.length_nil]; omega) (by simp only [List.length_append, List.length_cons, List.length_nil, maxLen]; omega)
        refine One_val (i := 22) (v := v673) rfl rfl rfl (Want.plain rfl) (x_append rfl rfl rfl hr676) (fun _ => ⟨hst678.rle', hst678.g 2⟩) ?_
        obtain ⟨R679, hst680, hle681, hc682⟩ := Step.frz hst678
        have hm683 := Row.mono hrow235 hle681
        have hm684 := Row.mono hrow139 hle681
        have hm685 := LnX.mono hi25 hle681
        have hrd686 := OwnL.freeze ho677 hle681 hc682
        have hxs687 : (([] : List Str) ++ x147.nd.names).length = x147.nd.names.length := by simp
        obtain ⟨a691, cap692, e693, hc694⟩ := hrd686.shape
        subst e693
        refine LP (.agg #[(int (kc : Int)), (int (-1)), (.slice a691 ((([] : List Str) ++ x147.nd.names).length) cap692), (.slice none 0 0)]) 23 rfl rfl rfl (fun u689 => (by kernel_rfl)) ⟨(Le.trans hle681 hst680.rle'), hst680.g 1⟩ ?_
        refine LA_all [24] (by decide +kernel) (by simp) ?_
        intro i_ hi_
        simp only [List.mem_cons, List.not_mem_nil, or_false] at hi_
        subst hi_
        refine One_new hst680 (i := 24) (v := fun b => .slice (some ⟨b, 0, none⟩) 1 1) (ob := .cells #[(int (kc : Int)), (int (-1)), (.slice a691 ((([] : List Str) ++ x147.nd.names).length) cap692), (.slice none 0 0)] 75 (0, 0)) rfl rfl rfl (Want.plain rfl) (by kernel_rfl) (fun b698 w699 hst700 => ?_)
        refine ⟨(fun _ => ⟨(Le.trans hle681 hst700.rle'), hst700.g 2⟩), ?_⟩
        refine LA_all [25] (by decide +kernel) (by simp) ?_
        intro i_ hi_
        simp only [List.mem_cons, List.not_mem_nil, or_false] at hi_
        subst hi_
        have ho704 := (hback172 R679 (s.roots.set kc (xs.length : Int)) c232 (by first | rfl | (simp only [List.length_set]; done) | (simp only [List.length_set]; omega) | omega) hm683)
        have ho705 := (hback140 R679 ys_32 cL (by first | rfl | (simp only [List.length_set]; done) | (simp only [List.length_set]; omega) | omega) hm684)
        refine One_append (j := 25) hst700 (t := 70) (e := 75) (ys := [Sn.mk (Nd.mk (kc : Int) (-1) (([] : List Str) ++ x147.nd.names)) [] (.slice none 0 0)]) (src := [(int (kc : Int)), (int (-1)), (.slice a691 ((([] : List Str) ++ x147.nd.names).length) cap692), (.slice none 0 0)]) 3 rfl rfl rfl (Want.plain rfl) rfl rfl rfl sl_70 ti_75 rfl rfl rfl ho705 (src_own (hst700.b 0)) (sn_mk (RdS.mono hrd686 (Le.refl _))) rfl (by first | omega | (simp only [List.length_append, List.length_cons, List.length_nil]; omega)) (by first | (simp only [maxLen]; omega) | (simp only [List.length_append, List.length_cons, List.length_nil, maxLen]; omega)) (fun v706 c707 w708 ho709 hst710 => ?_)
        refine ⟨(fun _ => ⟨(Le.trans hle681 hst710.rle'), hst710.g 3⟩), ?_⟩
        refine LP (ptr p 0) 26 rfl rfl rfl (fun u712 => rfl) ⟨(Le.trans hle681 hst710.rle'), hst710.g 3⟩ ?_
        refine LP (ptr p 0) 27 rfl rfl rfl (fun u715 => (by kernel_rfl)) ⟨(Le.trans hle681 hst710.rle'), hst710.g 3⟩ ?_
        refine LA_all [28] (by decide +kernel) (by simp) ?_
        intro i_ hi_
        simp only [List.mem_cons, List.not_mem_nil, or_false] at hi_
        subst hi_
        obtain ⟨a718, cap719, e720, hc721⟩ := ho709.value
        subst e720
        obtain ⟨w722, hr724, hst723⟩ := run_storeW (P := Tryz.prog) (b := p) (off := 0) (v := (.slice a718 ((ys_32 ++ [Sn.mk (Nd.mk (kc : Int) (-1) (([] : List Str) ++ x147.nd.names)) [] (.slice none 0 0)]).length) cap719)) hst710 3 ti_70 rfl rfl rfl rfl rfl rfl
        change Step _ _ _ _ _ [c707, one b698 (.cells #[(int (kc : Int)), (int (-1)), (.slice a691 ((([] : List Str) ++ x147.nd.names).length) cap692), (.slice none 0 0)] 75 (0, 0)), c232, one p (.cells #[(.slice a718 ((ys_32 ++ [Sn.mk (Nd.mk (kc : Int) (-1) (([] : List Str) ++ x147.nd.names)) [] (.slice none 0 0)]).length) cap719), (.slice (some ⟨b166, 0, none⟩) s.roots.length cap163)] 72 (0, 0)), cX233] at hst723
        refine One_skip (i := 28) rfl rfl (Want.plain rfl) (x_store rfl rfl rfl hr724) (fun h => absurd h (by decide +kernel)) ?_
        refine LA_done (by decide +kernel) ?_
        refine W_seq ?_
        refine W_region_lit ?_
        refine Lq (int (xs.length : Int)) rfl rfl rfl rfl ?_
        refine Lq (int (xs.length : Int)) rfl rfl rfl rfl ?_
        refine Lq (int 0) rfl rfl rfl rfl ?_
        refine L_nil ?_
        refine W_ret ?_
        refine ⟨_, _, res_run (rs := [.tmp 4, .tmp 5]) (vs := [(int (xs.length : Int)), (int 0)]) Tryz.results48 (.cons (.tmp rfl) (.cons (.tmp rfl) .nil)) hmk20, ?_⟩
        have he := split_new (s := s) (a := an) (by omega) (by omega)
        rw [← hc0] at he
        rw [he]
        have hndc := nd_of (by omega) hnd149
        have hagr := hag.split hwf (c := c0) hf27 (fun j hj hj' => by have h_ := hf29 j hj hj'; rw [if_pos (by omega)] at h_; rw [h_, hxl])
        rw [hndc] at hagr
        rw [hkc] at hagr
        obtain ⟨c', hst', htree'⟩ := RefT.close (s := s.splitC c0) ((((hst723.front 2 rfl rfl).front 4 rfl rfl).front 2 rfl rfl).front 4 rfl rfl) ho709 (hm685.app (y := ⟨⟨(kc : Int), -1, ((([] : List Str) ++ x147.nd.names))⟩, [], .slice none 0 0⟩) rfl rfl) (OwnL.castI ho704 (splitC_roots_yes hwf hco (by omega) hcc hnd149 hkc hxl hroot)) hagr (hwf.splitC c0) (hS.app (by omega) (by rw [hndc]; exact hbn) rfl) (by show (List.map _ _).length ≤ _; rw [List.length_map]; exact hrl)
        exact ⟨_, _, _, rfl, hst'.keepN 1 rfl, c', (by rw [hxl]; rfl), rfl, htree'⟩
       ·
        refine One_new hst238 (i := 13) (v := fun b => .slice (some ⟨b, 0, none⟩) 0 0) (ob := .cells #[] 9 (0, 0)) rfl rfl rfl (Want.plain rfl) (by kernel_rfl) (fun b725 w726 hst727 => ?_)
        refine ⟨(fun _ => ⟨hst727.rle', hst727.g 2⟩), ?_⟩
        refine LA_all [12, 22] (by decide +kernel) (by simp) ?_
        intro i_ hi_
        simp only [List.mem_cons, List.not_mem_nil, or_false] at hi_
        rcases hi_ with rfl | rfl
        ·
         refine One_val (i := 12) (v := (int (kc : Int))) rfl rfl rfl (Want.plain rfl) (x_load rfl rfl (run_loadVar_one ti_3 ((hst727.g 3) _ _ hcb275) (seg_get (j := 0) hsg276 rfl))) (fun _ => ⟨hst727.rle', hst727.g 2⟩) ?_
         refine LA_all [22] (by decide +kernel) (by simp) ?_
         intro i_ hi_
         simp only [List.mem_cons, List.not_mem_nil, or_false] at hi_
         subst hi_
         have ho736 : OwnL Ty.str 9 R (.slice (some ⟨b725, 0, none⟩) 0 0) ([] : List Str) (one b725 (.cells #[] 9 (0, 0))) := OwnL.lit (cs := []) Encs.nil rfl (by decide)
         obtain ⟨v737, c738, w739, hr740, ho741, hst742⟩ := run_appendM (P := Tryz.prog) (tt := 42) sl_42 ti_9 rfl ho736 hst727 (RdS.mono hvn330 (Le.refl _)) hst727.rle' (by simp only [List.length_append, List.length_cons, List.length_nil]; omega) (by simp only [List.length_append, List.length_cons, List.length_nil, maxLen]; omega)
         refine One_val (i := 22) (v := v737) rfl rfl rfl (Want.plain rfl) (x_append rfl rfl rfl hr740) (fun _ => ⟨hst742.rle', hst742.g 2⟩) ?_
         obtain ⟨R743, hst744, hle745, hc746⟩ := Step.frz hst742
         have hm747 := Row.mono hrow235 hle745
         have hm748 := Row.mono hrow139 hle745
         have hm749 := LnX.mono hi25 hle745
         have hrd750 := OwnL.freeze ho741 hle745 hc746
         have hxs751 : (([] : List Str) ++ x147.nd.names).length = x147.nd.names.length := by simp
         obtain ⟨a755, cap756, e757, hc758⟩ := hrd750.shape
         subst e757
         refine LP (.agg #[(int (kc : Int)), (int (-1)), (.slice a755 ((([] : List Str) ++ x147.nd.names).length) cap756), (.slice none 0 0)]) 23 rfl rfl rfl (fun u753 => (by kernel_rfl)) ⟨(Le.trans hle745 hst744.rle'), hst744.g 1⟩ ?_
         refine LA_all [24] (by decide +kernel) (by simp) ?_
         intro i_ hi_
         simp only [List.mem_cons, List.not_mem_nil, or_false] at hi_
         subst hi_
         refine One_new hst744 (i := 24) (v := fun b => .slice (some ⟨b, 0, none⟩) 1 1) (ob := .cells #[(int (kc : Int)), (int (-1)), (.slice a755 ((([] : List Str) ++ x147.nd.names).length) cap756), (.slice none 0 0)] 75 (0, 0)) rfl rfl rfl (Want.plain rfl) (by kernel_rfl) (fun b762 w763 hst764 => ?_)
         refine ⟨(fun _ => ⟨(Le.trans hle745 hst764.rle'), hst764.g 2⟩), ?_⟩
         refine LA_all [25] (by decide +kernel) (by simp) ?_
         intro i_ hi_
         simp only [List.mem_cons, List.not_mem_nil, or_false] at hi_
         subst hi_
         have ho768 := (hback172 R743 (s.roots.set kc (xs.length : Int)) c232 (by first | rfl | (simp only [List.length_set]; done) | (simp only [List.length_set]; omega) | omega) hm747)
         have ho769 := (hback140 R743 ys_32 cL (by first | rfl | (simp only [List.length_set]; done) | (simp only [List.length_set]; omega) | omega) hm748)
         refine One_append (j := 25) hst764 (t := 70) (e := 75) (ys := [Sn.mk (Nd.mk (kc : Int) (-1) (([] : List Str) ++ x147.nd.names)) [] (.slice none 0 0)]) (src := [(int (kc : Int)), (int (-1)), (.slice a755 ((([] : List Str) ++ x147.nd.names).length) cap756), (.slice none 0 0)]) 3 rfl rfl rfl (Want.plain rfl) rfl rfl rfl sl_70 ti_75 rfl rfl rfl ho769 (src_own (hst764.b 0)) (sn_mk (RdS.mono hrd750 (Le.refl _))) rfl (by first | omega | (simp only [List.length_append, List.length_cons, List.length_nil]; omega)) (by first | (simp only [maxLen]; omega) | (simp only [List.length_append, List.length_cons, List.length_nil, maxLen]; omega)) (fun v770 c771 w772 ho773 hst774 => ?_)
         refine ⟨(fun _ => ⟨(Le.trans hle745 hst774.rle'), hst774.g 3⟩), ?_⟩
         refine LP (ptr p 0) 26 rfl rfl rfl (fun u776 => rfl) ⟨(Le.trans hle745 hst774.rle'), hst774.g 3⟩ ?_
         refine LP (ptr p 0) 27 rfl rfl rfl (fun u779 => (by kernel_rfl)) ⟨(Le.trans hle745 hst774.rle'), hst774.g 3⟩ ?_
         refine LA_all [28] (by decide +kernel) (by simp) ?_
         intro i_ hi_
         simp only [List.mem_cons, List.not_mem_nil, or_false] at hi_
         subst hi_
         obtain ⟨a782, cap783, e784, hc785⟩ := ho773.value
         subst e784
         obtain ⟨w786, hr788, hst787⟩ := run_storeW (P := Tryz.prog) (b := p) (off := 0) (v := (.slice a782 ((ys_32 ++ [Sn.mk (Nd.mk (kc : Int) (-1) (([] : List Str) ++ x147.nd.names)) [] (.slice none 0 0)]).length) cap783)) hst774 3 ti_70 rfl rfl rfl rfl rfl rfl
         change Step _ _ _ _ _ [c771, one b762 (.cells #[(int (kc : Int)), (int (-1)), (.slice a755 ((([] : List Str) ++ x147.nd.names).length) cap756), (.slice none 0 0)] 75 (0, 0)), c232, one p (.cells #[(.slice a782 ((ys_32 ++ [Sn.mk (Nd.mk (kc : Int) (-1) (([] : List Str) ++ x147.nd.names)) [] (.slice none 0 0)]).length) cap783), (.slice (some ⟨b166, 0, none⟩) s.roots.length cap163)] 72 (0, 0)), cX233] at hst787
         refine One_skip (i := 28) rfl rfl (Want.plain rfl) (x_store rfl rfl rfl hr788) (fun h => absurd h (by decide +kernel)) ?_
         refine LA_done (by decide +kernel) ?_
         refine W_seq ?_
         refine W_region_lit ?_
         refine Lq (int (xs.length : Int)) rfl rfl rfl rfl ?_
         refine Lq (int (xs.length : Int)) rfl rfl rfl rfl ?_
         refine Lq (int 0) rfl rfl rfl rfl ?_
         refine L_nil ?_
         refine W_ret ?_
         refine ⟨_, _, res_run (rs := [.tmp 4, .tmp 5]) (vs := [(int (xs.length : Int)), (int 0)]) Tryz.results48 (.cons (.tmp rfl) (.cons (.tmp rfl) .nil)) hmk20, ?_⟩
         have he := split_new (s := s) (a := an) (by omega) (by omega)
         rw [← hc0] at he
         rw [he]
         have hndc := nd_of (by omega) hnd149
         have hagr := hag.split hwf (c := c0) hf27 (fun j hj hj' => by have h_ := hf29 j hj hj'; rw [if_pos (by omega)] at h_; rw [h_, hxl])
         rw [hndc] at hagr
         rw [hkc] at hagr
         obtain ⟨c', hst', htree'⟩ := RefT.close (s := s.splitC c0) ((((hst787.front 2 rfl rfl).front 4 rfl rfl).front 2 rfl rfl).front 4 rfl rfl) ho773 (hm749.app (y := ⟨⟨(kc : Int), -1, ((([] : List Str) ++ x147.nd.names))⟩, [], .slice none 0 0⟩) rfl rfl) (OwnL.castI ho768 (splitC_roots_yes hwf hco (by omega) hcc hnd149 hkc hxl hroot)) hagr (hwf.splitC c0) (hS.app (by omega) (by rw [hndc]; exact hbn) rfl) (by show (List.map _ _).length ≤ _; rw [List.length_map]; exact hrl)
         exact ⟨_, _, _, rfl, hst'.keepN 1 rfl, c', (by rw [hxl]; rfl), rfl, htree'⟩
        ·
         have ho789 : OwnL Ty.str 9 R (.slice (some ⟨b725, 0, none⟩) 0 0) ([] : List Str) (one b725 (.cells #[] 9 (0, 0))) := OwnL.lit (cs := []) Encs.nil rfl (by decide)
         obtain ⟨v790, c791, w792, hr793, ho794, hst795⟩ := run_appendM (P := Tryz.prog) (tt := 42) sl_42 ti_9 rfl ho789 hst727 (RdS.mono hvn330 (Le.refl _)) hst727.rle' (by simp only [List.length_append, List.length_cons, List.length_nil]; omega) (by simp only [List.length_append, List.length_cons, List.length_nil, maxLen]; omega)
         refine One_val (i := 22) (v := v790) rfl rfl rfl (Want.plain rfl) (x_append rfl rfl rfl hr793) (fun _ => ⟨hst795.rle', hst795.g 2⟩) ?_
         obtain ⟨R796, hst797, hle798, hc799⟩ := Step.frz hst795
         have hm800 := Row.mono hrow235 hle798
         have hm801 := Row.mono hrow139 hle798
         have hm802 := LnX.mono hi25 hle798
         have hrd803 := OwnL.freeze ho794 hle798 hc799
         have hxs804 : (([] : List Str) ++ x147.nd.names).length = x147.nd.names.length := by simp
         refine LA_all [12] (by decide +kernel) (by simp) ?_
         intro i_ hi_
         simp only [List.mem_cons, List.not_mem_nil, or_false] at hi_
         subst hi_
         refine One_val (i := 12) (v := (int (kc : Int))) rfl rfl rfl (Want.plain rfl) (x_load rfl rfl (run_loadVar_one ti_3 ((hst797.g 2) _ _ hcb275) (seg_get (j := 0) hsg276 rfl))) (fun _ => ⟨(Le.trans hle798 hst797.rle'), hst797.g 1⟩) ?_
         obtain ⟨a811, cap812, e813, hc814⟩ := hrd803.shape
         subst e813
         refine LP (.agg #[(int (kc : Int)), (int (-1)), (.slice a811 ((([] : List Str) ++ x147.nd.names).length) cap812), (.slice none 0 0)]) 23 rfl rfl rfl (fun u809 => (by kernel_rfl)) ⟨(Le.trans hle798 hst797.rle'), hst797.g 1⟩ ?_
         refine LA_all [24] (by decide +kernel) (by simp) ?_
         intro i_ hi_
         simp only [List.mem_cons, List.not_mem_nil, or_false] at hi_
         subst hi_
         refine One_new hst797 (i := 24) (v := fun b => .slice (some ⟨b, 0, none⟩) 1 1) (ob := .cells #[(int (kc : Int)), (int (-1)), (.slice a811 ((([] : List Str) ++ x147.nd.names).length) cap812), (.slice none 0 0)] 75 (0, 0)) rfl rfl rfl (Want.plain rfl) (by kernel_rfl) (fun b818 w819 hst820 => ?_)
         refine ⟨(fun _ => ⟨(Le.trans hle798 hst820.rle'), hst820.g 2⟩), ?_⟩
         refine LA_all [25] (by decide +kernel) (by simp) ?_
         intro i_ hi_
         simp only [List.mem_cons, List.not_mem_nil, or_false] at hi_
         subst hi_
         have ho824 := (hback172 R796 (s.roots.set kc (xs.length : Int)) c232 (by first | rfl | (simp only [List.length_set]; done) | (simp only [List.length_set]; omega) | omega) hm800)
         have ho825 := (hback140 R796 ys_32 cL (by first | rfl | (simp only [List.length_set]; done) | (simp only [List.length_set]; omega) | omega) hm801)
         refine One_append (j := 25) hst820 (t := 70) (e := 75) (ys := [Sn.mk (Nd.mk (kc : Int) (-1) (([] : List Str) ++ x147.nd.names)) [] (.slice none 0 0)]) (src := [(int (kc : Int)), (int (-1)), (.slice a811 ((([] : List Str) ++ x147.nd.names).length) cap812), (.slice none 0 0)]) 3 rfl rfl rfl (Want.plain rfl) rfl rfl rfl sl_70 ti_75 rfl rfl rfl ho825 (src_own (hst820.b 0)) (sn_mk (RdS.mono hrd803 (Le.refl _))) rfl (by first | omega | (simp only [List.length_append, List.length_cons, List.length_nil]; omega)) (by first | (simp only [maxLen]; omega) | (simp only [List.length_append, List.length_cons, List.length_nil, maxLen]; omega)) (fun v826 c827 w828 ho829 hst830 => ?_)
         refine ⟨(fun _ => ⟨(Le.trans hle798 hst830.rle'), hst830.g 3⟩), ?_⟩
         refine LP (ptr p 0) 26 rfl rfl rfl (fun u832 => rfl) ⟨(Le.trans hle798 hst830.rle'), hst830.g 3⟩ ?_
         refine LP (ptr p 0) 27 rfl rfl rfl (fun u835 => (by kernel_rfl)) ⟨(Le.trans hle798 hst830.rle'), hst830.g 3⟩ ?_
         refine LA_all [28] (by decide +kernel) (by simp) ?_
         intro i_ hi_
         simp only [List.mem_cons, List.not_mem_nil, or_false] at hi_
         subst hi_
         obtain ⟨a838, cap839, e840, hc841⟩ := ho829.value
         subst e840
         obtain ⟨w842, hr844, hst843⟩ := run_storeW (P := Tryz.prog) (b := p) (off := 0) (v := (.slice a838 ((ys_32 ++ [Sn.mk (Nd.mk (kc : Int) (-1) (([] : List Str) ++ x147.nd.names)) [] (.slice none 0 0)]).length) cap839)) hst830 3 ti_70 rfl rfl rfl rfl rfl rfl
         change Step _ _ _ _ _ [c827, one b818 (.cells #[(int (kc : Int)), (int (-1)), (.slice a811 ((([] : List Str) ++ x147.nd.names).length) cap812), (.slice none 0 0)] 75 (0, 0)), c232, one p (.cells #[(.slice a838 ((ys_32 ++ [Sn.mk (Nd.mk (kc : Int) (-1) (([] : List Str) ++ x147.nd.names)) [] (.slice none 0 0)]).length) cap839), (.slice (some ⟨b166, 0, none⟩) s.roots.length cap163)] 72 (0, 0)), cX233] at hst843
         refine One_skip (i := 28) rfl rfl (Want.plain rfl) (x_store rfl rfl rfl hr844) (fun h => absurd h (by decide +kernel)) ?_
         refine LA_done (by decide +kernel) ?_
         refine W_seq ?_
         refine W_region_lit ?_
         refine Lq (int (xs.length : Int)) rfl rfl rfl rfl ?_
         refine Lq (int (xs.length : Int)) rfl rfl rfl rfl ?_
         refine Lq (int 0) rfl rfl rfl rfl ?_
         refine L_nil ?_
         refine W_ret ?_
         refine ⟨_, _, res_run (rs := [.tmp 4, .tmp 5]) (vs := [(int (xs.length : Int)), (int 0)]) Tryz.results48 (.cons (.tmp rfl) (.cons (.tmp rfl) .nil)) hmk20, ?_⟩
         have he := split_new (s := s) (a := an) (by omega) (by omega)
         rw [← hc0] at he
         rw [he]
         have hndc := nd_of (by omega) hnd149
         have hagr := hag.split hwf (c := c0) hf27 (fun j hj hj' => by have h_ := hf29 j hj hj'; rw [if_pos (by omega)] at h_; rw [h_, hxl])
         rw [hndc] at hagr
         rw [hkc] at hagr
         obtain ⟨c', hst', htree'⟩ := RefT.close (s := s.splitC c0) ((((hst843.front 2 rfl rfl).front 4 rfl rfl).front 2 rfl rfl).front 4 rfl rfl) ho829 (hm802.app (y := ⟨⟨(kc : Int), -1, ((([] : List Str) ++ x147.nd.names))⟩, [], .slice none 0 0⟩) rfl rfl) (OwnL.castI ho824 (splitC_roots_yes hwf hco (by omega) hcc hnd149 hkc hxl hroot)) hagr (hwf.splitC c0) (hS.app (by omega) (by rw [hndc]; exact hbn) rfl) (by show (List.map _ _).length ≤ _; rw [List.length_map]; exact hrl)
         exact ⟨_, _, _, rfl, hst'.keepN 1 rfl, c', (by rw [hxl]; rfl), rfl, htree'⟩
     ·
      have q845 := ne_of_beq_false c160
      refine W_cond_false (by show Value.bool _ = _; exact congrArg Value.bool c160) ?_
      refine W_skip ?_
      refine W_seq ?_
      refine W_region_draw [28] (fun w => Le R (hp w) ∧ Le (one p (.cells #[(.slice (some ⟨b134, 0, none⟩) xs.length cap8), vR] 72 (0, 0))) (hp w)) hmix (by decide +kernel) (fun _ _ h => h) ?_
      have hst847 := hst159.draws (w158.drawn + 1)
      generalize draws w158 (w158.drawn + 1) = w846 at hst847 ⊢
      refine LP (ptr p 0) 0 rfl rfl rfl (fun u849 => rfl) ⟨hst847.rle', hst847.g 0⟩ ?_
      refine LP (ptr p 0) 1 rfl rfl rfl (fun u852 => rfl) ⟨hst847.rle', hst847.g 0⟩ ?_
      refine LP (ptr p 0) 2 rfl rfl rfl (fun u855 => rfl) ⟨hst847.rle', hst847.g 0⟩ ?_
      refine LP (ptr p 0) 3 rfl rfl rfl (fun u858 => (by kernel_rfl)) ⟨hst847.rle', hst847.g 0⟩ ?_
      refine LT (.slice (some ⟨b134, 0, none⟩) xs.length cap8) 4 rfl rfl rfl (fun u861 hF862 => (x_load rfl rfl (run_loadVar_one ti_70 (hF862.2 _ _ (one_self _ _)) rfl))) ⟨hst847.rle', hst847.g 0⟩ ?_
      refine LP (ptr p 0) 5 rfl rfl rfl (fun u864 => rfl) ⟨hst847.rle', hst847.g 0⟩ ?_
      refine LP (ptr p 0) 6 rfl rfl rfl (fun u867 => rfl) ⟨hst847.rle', hst847.g 0⟩ ?_
      refine LP (ptr p 0) 7 rfl rfl rfl (fun u870 => (by kernel_rfl)) ⟨hst847.rle', hst847.g 0⟩ ?_
      refine LT (.slice (some ⟨b134, 0, none⟩) xs.length cap8) 8 rfl rfl rfl (fun u873 hF874 => (x_load rfl rfl (run_loadVar_one ti_70 (hF874.2 _ _ (one_self _ _)) rfl))) ⟨hst847.rle', hst847.g 0⟩ ?_
      refine LP (int (c0 : Int)) 9 rfl rfl rfl (fun u876 => rfl) ⟨hst847.rle', hst847.g 0⟩ ?_
      obtain ⟨cl881, cs882, hr883, hcb884, hsg885⟩ := Row.at hrow139 c0 (by omega)
      rw [← hx148] at hr883
      obtain ⟨vn886, rfl, hvn887, a888, n889, cap890, e891⟩ := tySn_open hr883
      refine LP (ptr b134 (0 + c0 * 4)) 10 rfl rfl rfl (fun u879 => (x_indexAddr' rfl sl_70 ti_75 rfl rfl (by omega))) ⟨hst847.rle', hst847.g 0⟩ ?_
      refine LP (ptr b134 (0 + c0 * 4)) 11 rfl rfl rfl (fun u893 => (by kernel_rfl)) ⟨hst847.rle', hst847.g 0⟩ ?_
      refine LP (ptr p 0) 14 rfl rfl rfl (fun u900 => rfl) ⟨hst847.rle', hst847.g 0⟩ ?_
      refine LP (ptr p 0) 15 rfl rfl rfl (fun u907 => rfl) ⟨hst847.rle', hst847.g 0⟩ ?_
      refine LP (ptr p 0) 16 rfl rfl rfl (fun u914 => (by kernel_rfl)) ⟨hst847.rle', hst847.g 0⟩ ?_
      refine LT (.slice (some ⟨b134, 0, none⟩) xs.length cap8) 17 rfl rfl rfl (fun u921 hF922 => (x_load rfl rfl (run_loadVar_one ti_70 (hF922.2 _ _ (one_self _ _)) rfl))) ⟨hst847.rle', hst847.g 0⟩ ?_
      refine LP (int (c0 : Int)) 18 rfl rfl rfl (fun u928 => rfl) ⟨hst847.rle', hst847.g 0⟩ ?_
      obtain ⟨cl937, cs938, hr939, hcb940, hsg941⟩ := Row.at hrow139 c0 (by omega)
      rw [← hx148] at hr939
      obtain ⟨vn942, rfl, hvn943, a944, n945, cap946, e947⟩ := tySn_open hr939
      refine LP (ptr b134 (0 + c0 * 4)) 19 rfl rfl rfl (fun u935 => (x_indexAddr' rfl sl_70 ti_75 rfl rfl (by omega))) ⟨hst847.rle', hst847.g 0⟩ ?_
      refine LP (ptr b134 (0 + c0 * 4 + 2)) 20 rfl rfl rfl (fun u953 => (by kernel_rfl)) ⟨hst847.rle', hst847.g 0⟩ ?_
      refine LA_all [12, 13, 21] (by decide +kernel) (by simp) ?_
      intro i_ hi_
      simp only [List.mem_cons, List.not_mem_nil, or_false] at hi_
      rcases hi_ with rfl | rfl | rfl
      ·
       refine One_val (i := 12) (v := (int x147.nd.cls)) rfl rfl rfl (Want.plain rfl) (x_load rfl rfl (run_loadVar_one ti_3 ((hst847.g 1) _ _ hcb884) (seg_get (j := 0) hsg885 rfl))) (fun _ => ⟨hst847.rle', hst847.g 0⟩) ?_
       refine LA_all [13, 21] (by decide +kernel) (by simp) ?_
       intro i_ hi_
       simp only [List.mem_cons, List.not_mem_nil, or_false] at hi_
       rcases hi_ with rfl | rfl
       ·
        refine One_new hst847 (i := 13) (v := fun b => .slice (some ⟨b, 0, none⟩) 0 0) (ob := .cells #[] 9 (0, 0)) rfl rfl rfl (Want.plain rfl) (by kernel_rfl) (fun b967 w968 hst969 => ?_)
        refine ⟨(fun _ => ⟨hst969.rle', hst969.g 1⟩), ?_⟩
        refine LA_all [21] (by decide +kernel) (by simp) ?_
        intro i_ hi_
        simp only [List.mem_cons, List.not_mem_nil, or_false] at hi_
        subst hi_
        refine One_val (i := 21) (v := vn942) rfl rfl rfl (Want.plain rfl) (x_load rfl rfl (run_loadVar_one ti_42 ((hst969.g 2) _ _ hcb940) (seg_get (j := 2) hsg941 rfl))) (fun _ => ⟨hst969.rle', hst969.g 1⟩) ?_
        refine LA_all [22] (by decide +kernel) (by simp) ?_
        intro i_ hi_
        simp only [List.mem_cons, List.not_mem_nil, or_false] at hi_
        subst hi_
        have ho976 : OwnL Ty.str 9 R (.slice (some ⟨b967, 0, none⟩) 0 0) ([] : List Str) (one b967 (.cells #[] 9 (0, 0))) := OwnL.lit (cs := []) Encs.nil rfl (by decide)
        obtain ⟨v977, c978, w979, hr980, ho981, hst982⟩ := run_appendM (P := Tryz.prog) (tt := 42) sl_42 ti_9 rfl ho976 hst969 (RdS.mono hvn943 (Le.refl _)) hst969.rle' (by simp only [List.length_append, List.length_cons, List.length_nil]; omega) (by simp only [List.length_append, List.length_cons, List.length_nil, maxLen]; omega)
        refine One_val (i := 22) (v := v977) rfl rfl rfl (Want.plain rfl) (x_append rfl rfl rfl hr980) (fun _ => ⟨hst982.rle', hst982.g 1⟩) ?_
        obtain ⟨R983, hst984, hle985, hc986⟩ := Step.frz hst982
        have hm987 := Row.mono hrow139 hle985
        have hm988 := LnX.mono hi25 hle985
        have hm989 := OwnL.mono hRs hle985
        have hrd990 := OwnL.freeze ho981 hle985 hc986
        have hxs991 : (([] : List Str) ++ x147.nd.names).length = x147.nd.names.length := by simp
        obtain ⟨a995, cap996, e997, hc998⟩ := hrd990.shape
        subst e997
        refine LP (.agg #[(int x147.nd.cls), (int (-1)), (.slice a995 ((([] : List Str) ++ x147.nd.names).length) cap996), (.slice none 0 0)]) 23 rfl rfl rfl (fun u993 => (by kernel_rfl)) ⟨(Le.trans hle985 hst984.rle'), hst984.g 0⟩ ?_
        refine LA_all [24] (by decide +kernel) (by simp) ?_
        intro i_ hi_
        simp only [List.mem_cons, List.not_mem_nil, or_false] at hi_
        subst hi_
        refine One_new hst984 (i := 24) (v := fun b => .slice (some ⟨b, 0, none⟩) 1 1) (ob := .cells #[(int x147.nd.cls), (int (-1)), (.slice a995 ((([] : List Str) ++ x147.nd.names).length) cap996), (.slice none 0 0)] 75 (0, 0)) rfl rfl rfl (Want.plain rfl) (by kernel_rfl) (fun b1002 w1003 hst1004 => ?_)
        refine ⟨(fun _ => ⟨(Le.trans hle985 hst1004.rle'), hst1004.g 1⟩), ?_⟩
        refine LA_all [25] (by decide +kernel) (by simp) ?_
        intro i_ hi_
        simp only [List.mem_cons, List.not_mem_nil, or_false] at hi_
        subst hi_
        have ho1008 := (hback140 R983 ys_32 cL (by first | rfl | (simp only [List.length_set]; done) | (simp only [List.length_set]; omega) | omega) hm987)
        refine One_append (j := 25) hst1004 (t := 70) (e := 75) (ys := [Sn.mk (Nd.mk x147.nd.cls (-1) (([] : List Str) ++ x147.nd.names)) [] (.slice none 0 0)]) (src := [(int x147.nd.cls), (int (-1)), (.slice a995 ((([] : List Str) ++ x147.nd.names).length) cap996), (.slice none 0 0)]) 2 rfl rfl rfl (Want.plain rfl) rfl rfl rfl sl_70 ti_75 rfl rfl rfl ho1008 (src_own (hst1004.b 0)) (sn_mk (RdS.mono hrd990 (Le.refl _))) rfl (by first | omega | (simp only [List.length_append, List.length_cons, List.length_nil]; omega)) (by first | (simp only [maxLen]; omega) | (simp only [List.length_append, List.length_cons, List.length_nil, maxLen]; omega)) (fun v1009 c1010 w1011 ho1012 hst1013 => ?_)
        refine ⟨(fun _ => ⟨(Le.trans hle985 hst1013.rle'), hst1013.g 2⟩), ?_⟩
        refine LP (ptr p 0) 26 rfl rfl rfl (fun u1015 => rfl) ⟨(Le.trans hle985 hst1013.rle'), hst1013.g 2⟩ ?_
        refine LP (ptr p 0) 27 rfl rfl rfl (fun u1018 => (by kernel_rfl)) ⟨(Le.trans hle985 hst1013.rle'), hst1013.g 2⟩ ?_
        refine LA_all [28] (by decide +kernel) (by simp) ?_
        intro i_ hi_
        simp only [List.mem_cons, List.not_mem_nil, or_false] at hi_
        subst hi_
        obtain ⟨a1021, cap1022, e1023, hc1024⟩ := ho1012.value
        subst e1023
        obtain ⟨w1025, hr1027, hst1026⟩ := run_storeW (P := Tryz.prog) (b := p) (off := 0) (v := (.slice a1021 ((ys_32 ++ [Sn.mk (Nd.mk x147.nd.cls (-1) (([] : List Str) ++ x147.nd.names)) [] (.slice none 0 0)]).length) cap1022)) hst1013 2 ti_70 rfl rfl rfl rfl rfl rfl
        change Step _ _ _ _ _ [c1010, one b1002 (.cells #[(int x147.nd.cls), (int (-1)), (.slice a995 ((([] : List Str) ++ x147.nd.names).length) cap996), (.slice none 0 0)] 75 (0, 0)), one p (.cells #[(.slice a1021 ((ys_32 ++ [Sn.mk (Nd.mk x147.nd.cls (-1) (([] : List Str) ++ x147.nd.names)) [] (.slice none 0 0)]).length) cap1022), vR] 72 (0, 0)), cX233, cR] at hst1026
        refine One_skip (i := 28) rfl rfl (Want.plain rfl) (x_store rfl rfl rfl hr1027) (fun h => absurd h (by decide +kernel)) ?_
        refine LA_done (by decide +kernel) ?_
        refine W_seq ?_
        refine W_region_lit ?_
        refine Lq (int (xs.length : Int)) rfl rfl rfl rfl ?_
        refine Lq (int (xs.length : Int)) rfl rfl rfl rfl ?_
        refine Lq (int 0) rfl rfl rfl rfl ?_
        refine L_nil ?_
        refine W_ret ?_
        refine ⟨_, _, res_run (rs := [.tmp 4, .tmp 5]) (vs := [(int (xs.length : Int)), (int 0)]) Tryz.results48 (.cons (.tmp rfl) (.cons (.tmp rfl) .nil)) hmk20, ?_⟩
        have he := split_new (s := s) (a := an) (by omega) (by omega)
        rw [← hc0] at he
        rw [he]
        have hndc := nd_of (by omega) hnd149
        have hagr := hag.split hwf (c := c0) hf27 (fun j hj hj' => by have h_ := hf29 j hj hj'; rw [if_pos (by omega)] at h_; rw [h_, hxl])
        rw [hndc] at hagr
        obtain ⟨c', hst', htree'⟩ := RefT.close (s := s.splitC c0) ((((hst1026.front 4 rfl rfl).front 4 rfl rfl).front 2 rfl rfl).front 4 rfl rfl) ho1012 (hm988.app (y := ⟨⟨x147.nd.cls, -1, ((([] : List Str) ++ x147.nd.names))⟩, [], .slice none 0 0⟩) rfl rfl) (OwnL.castI hm989 (splitC_roots_no hwf hco (by omega) hcc hnd149 (ne_of_beq_false c160))) hagr (hwf.splitC c0) (hS.app (by omega) (by rw [hndc]; exact hbn) rfl) (by show (List.map _ _).length ≤ _; rw [List.length_map]; exact hrl)
        exact ⟨_, _, _, rfl, hst'.keepN 1 rfl, c', (by rw [hxl]; rfl), rfl, htree'⟩
       ·
        refine One_val (i := 21) (v := vn942) rfl rfl rfl (Want.plain rfl) (x_load rfl rfl (run_loadVar_one ti_42 ((hst847.g 1) _ _ hcb940) (seg_get (j := 2) hsg941 rfl))) (fun _ => ⟨hst847.rle', hst847.g 0⟩) ?_
        refine LA_all [13] (by decide +kernel) (by simp) ?_
        intro i_ hi_
        simp only [List.mem_cons, List.not_mem_nil, or_false] at hi_
        subst hi_
        refine One_new hst847 (i := 13) (v := fun b => .slice (some ⟨b, 0, none⟩) 0 0) (ob := .cells #[] 9 (0, 0)) rfl rfl rfl (Want.plain rfl) (by kernel_rfl) (fun b1031 w1032 hst1033 => ?_)
        refine ⟨(fun _ => ⟨hst1033.rle', hst1033.g 1⟩), ?_⟩
        refine LA_all [22] (by decide +kernel) (by simp) ?_
        intro i_ hi_
        simp only [List.mem_cons, List.not_mem_nil, or_false] at hi_
        subst hi_
        have ho1037 : OwnL Ty.str 9 R (.slice (some ⟨b1031, 0, none⟩) 0 0) ([] : List Str) (one b1031 (.cells #[] 9 (0, 0))) := OwnL.lit (cs := []) Encs.nil rfl (by decide)
        obtain ⟨v1038, c1039, w1040, hr1041, ho1042, hst1043⟩ := run_appendM (P := Tryz.prog) (tt := 42) sl_42 ti_9 rfl ho1037 hst1033 (RdS.mono hvn943 (Le.refl _)) hst1033.rle' (by simp only [List.length_append, List.length_cons, List.length_nil]; omega) (by simp only [List.length_append, List.length_cons, List.length_nil, maxLen]; omega)
        refine One_val (i := 22) (v := v1038) rfl rfl rfl (Want.plain rfl) (x_append rfl rfl rfl hr1041) (fun _ => ⟨hst1043.rle', hst1043.g 1⟩) ?_
        obtain ⟨R1044, hst1045, hle1046, hc1047⟩ := Step.frz hst1043
        have hm1048 := Row.mono hrow139 hle1046
        have hm1049 := LnX.mono hi25 hle1046
        have hm1050 := OwnL.mono hRs hle1046
        have hrd1051 := OwnL.freeze ho1042 hle1046 hc1047
        have hxs1052 : (([] : List Str) ++ x147.nd.names).length = x147.nd.names.length := by simp
        obtain ⟨a1056, cap1057, e1058, hc1059⟩ := hrd1051.shape
        subst e1058
        refine LP (.agg #[(int x147.nd.cls), (int (-1)), (.slice a1056 ((([] : List Str) ++ x147.nd.names).length) cap1057), (.slice none 0 0)]) 23 rfl rfl rfl (fun u1054 => (by kernel_rfl)) ⟨(Le.trans hle1046 hst1045.rle'), hst1045.g 0⟩ ?_
        refine LA_all [24] (by decide +kernel) (by simp) ?_
        intro i_ hi_
        simp only [List.mem_cons, List.not_mem_nil, or_false] at hi_
        subst hi_
        refine One_new hst1045 (i := 24) (v := fun b => .slice (some ⟨b, 0, none⟩) 1 1) (ob := .cells #[(int x147.nd.cls), (int (-1)), (.slice a1056 ((([] : List Str) ++ x147.nd.names).length) cap1057), (.slice none 0 0)] 75 (0, 0)) rfl rfl rfl (Want.plain rfl) (by kernel_rfl) (fun b1063 w1064 hst1065 => ?_)
        refine ⟨(fun _ => ⟨(Le.trans hle1046 hst1065.rle'), hst1065.g 1⟩), ?_⟩
        refine LA_all [25] (by decide +kernel) (by simp) ?_
        intro i_ hi_
        simp only [List.mem_cons, List.not_mem_nil, or_false] at hi_
        subst hi_
        have ho1069 := (hback140 R1044 ys_32 cL (by first | rfl | (simp only [List.length_set]; done) | (simp only [List.length_set]; omega) | omega) hm1048)
        refine One_append (j := 25) hst1065 (t := 70) (e := 75) (ys := [Sn.mk (Nd.mk x147.nd.cls (-1) (([] : List Str) ++ x147.nd.names)) [] (.slice none 0 0)]) (src := [(int x147.nd.cls), (int (-1)), (.slice a1056 ((([] : List Str) ++ x147.nd.names).length) cap1057), (.slice none 0 0)]) 2 rfl rfl rfl (Want.plain rfl) rfl rfl rfl sl_70 ti_75 rfl rfl rfl ho1069 (src_own (hst1065.b 0)) (sn_mk (RdS.mono hrd1051 (Le.refl _))) rfl (by first | omega | (simp only [List.length_append, List.length_cons, List.length_nil]; omega)) (by first | (simp only [maxLen]; omega) | (simp only [List.length_append, List.length_cons, List.length_nil, maxLen]; omega)) (fun v1070 c1071 w1072 ho1073 hst1074 => ?_)
        refine ⟨(fun _ => ⟨(Le.trans hle1046 hst1074.rle'), hst1074.g 2⟩), ?_⟩
        refine LP (ptr p 0) 26 rfl rfl rfl (fun u1076 => rfl) ⟨(Le.trans hle1046 hst1074.rle'), hst1074.g 2⟩ ?_
        refine LP (ptr p 0) 27 rfl rfl rfl (fun u1079 => (by kernel_rfl)) ⟨(Le.trans hle1046 hst1074.rle'), hst1074.g 2⟩ ?_
        refine LA_all [28] (by decide +kernel) (by simp) ?_
        intro i_ hi_
        simp only [List.mem_cons, List.not_mem_nil, or_false] at hi_
        subst hi_
        obtain ⟨a1082, cap1083, e1084, hc1085⟩ := ho1073.value
        subst e1084
        obtain ⟨w1086, hr1088, hst1087⟩ := run_storeW (P := Tryz.prog) (b := p) (off := 0) (v := (.slice a1082 ((ys_32 ++ [Sn.mk (Nd.mk x147.nd.cls (-1) (([] : List Str) ++ x147.nd.names)) [] (.slice none 0 0)]).length) cap1083)) hst1074 2 ti_70 rfl rfl rfl rfl rfl rfl
        change Step _ _ _ _ _ [c1071, one b1063 (.cells #[(int x147.nd.cls), (int (-1)), (.slice a1056 ((([] : List Str) ++ x147.nd.names).length) cap1057), (.slice none 0 0)] 75 (0, 0)), one p (.cells #[(.slice a1082 ((ys_32 ++ [Sn.mk (Nd.mk x147.nd.cls (-1) (([] : List Str) ++ x147.nd.names)) [] (.slice none 0 0)]).length) cap1083), vR] 72 (0, 0)), cX233, cR] at hst1087
        refine One_skip (i := 28) rfl rfl (Want.plain rfl) (x_store rfl rfl rfl hr1088) (fun h => absurd h (by decide +kernel)) ?_
        refine LA_done (by decide +kernel) ?_
        refine W_seq ?_
        refine W_region_lit ?_
        refine Lq (int (xs.length : Int)) rfl rfl rfl rfl ?_
        refine Lq (int (xs.length : Int)) rfl rfl rfl rfl ?_
        refine Lq (int 0) rfl rfl rfl rfl ?_
        refine L_nil ?_
        refine W_ret ?_
        refine ⟨_, _, res_run (rs := [.tmp 4, .tmp 5]) (vs := [(int (xs.length : Int)), (int 0)]) Tryz.results48 (.cons (.tmp rfl) (.cons (.tmp rfl) .nil)) hmk20, ?_⟩
        have he := split_new (s := s) (a := an) (by omega) (by omega)
        rw [← hc0] at he
        rw [he]
        have hndc := nd_of (by omega) hnd149
        have hagr := hag.split hwf (c := c0) hf27 (fun j hj hj' => by have h_ := hf29 j hj hj'; rw [if_pos (by omega)] at h_; rw [h_, hxl])
        rw [hndc] at hagr
        obtain ⟨c', hst', htree'⟩ := RefT.close (s := s.splitC c0) ((((hst1087.front 4 rfl rfl).front 4 rfl rfl).front 2 rfl rfl).front 4 rfl rfl) ho1073 (hm1049.app (y := ⟨⟨x147.nd.cls, -1, ((([] : List Str) ++ x147.nd.names))⟩, [], .slice none 0 0⟩) rfl rfl) (OwnL.castI hm1050 (splitC_roots_no hwf hco (by omega) hcc hnd149 (ne_of_beq_false c160))) hagr (hwf.splitC c0) (hS.app (by omega) (by rw [hndc]; exact hbn) rfl) (by show (List.map _ _).length ≤ _; rw [List.length_map]; exact hrl)
        exact ⟨_, _, _, rfl, hst'.keepN 1 rfl, c', (by rw [hxl]; rfl), rfl, htree'⟩
      ·
       refine One_new hst847 (i := 13) (v := fun b => .slice (some ⟨b, 0, none⟩) 0 0) (ob := .cells #[] 9 (0, 0)) rfl rfl rfl (Want.plain rfl) (by kernel_rfl) (fun b1089 w1090 hst1091 => ?_)
       refine ⟨(fun _ => ⟨hst1091.rle', hst1091.g 1⟩), ?_⟩
       refine LA_all [12, 21] (by decide +kernel) (by simp) ?_
       intro i_ hi_
       simp only [List.mem_cons, List.not_mem_nil, or_false] at hi_
       rcases hi_ with rfl | rfl
       ·
        refine One_val (i := 12) (v := (int x147.nd.cls)) rfl rfl rfl (Want.plain rfl) (x_load rfl rfl (run_loadVar_one ti_3 ((hst1091.g 2) _ _ hcb884) (seg_get (j := 0) hsg885 rfl))) (fun _ => ⟨hst1091.rle', hst1091.g 1⟩) ?_
        refine LA_all [21] (by decide +kernel) (by simp) ?_
        intro i_ hi_
        simp only [List.mem_cons, List.not_mem_nil, or_false] at hi_
        subst hi_
        refine One_val (i := 21) (v := vn942) rfl rfl rfl (Want.plain rfl) (x_load rfl rfl (run_loadVar_one ti_42 ((hst1091.g 2) _ _ hcb940) (seg_get (j := 2) hsg941 rfl))) (fun _ => ⟨hst1091.rle', hst1091.g 1⟩) ?_
        refine LA_all [22] (by decide +kernel) (by simp) ?_
        intro i_ hi_
        simp only [List.mem_cons, List.not_mem_nil, or_false] at hi_
        subst hi_
        have ho1103 : OwnL Ty.str 9 R (.slice (some ⟨b1089, 0, none⟩) 0 0) ([] : List Str) (one b1089 (.cells #[] 9 (0, 0))) := OwnL.lit (cs := []) Encs.nil rfl (by decide)
        obtain ⟨v1104, c1105, w1106, hr1107, ho1108, hst1109⟩ := run_appendM (P := Tryz.prog) (tt := 42) sl_42 ti_9 rfl ho1103 hst1091 (RdS.mono hvn943 (Le.refl _)) hst1091.rle' (by simp only [List.length_append, List.length_cons, List.length_nil]; omega) (by simp only [List.length_append, List.length_cons, List.length_nil, maxLen]; omega)
        refine One_val (i := 22) (v := v1104) rfl rfl rfl (Want.plain rfl) (x_append rfl rfl rfl hr1107) (fun _ => ⟨hst1109.rle', hst1109.g 1⟩) ?_
        obtain ⟨R1110, hst1111, hle1112, hc1113⟩ := Step.frz hst1109
        have hm1114 := Row.mono hrow139 hle1112
        have hm1115 := LnX.mono hi25 hle1112
        have hm1116 := OwnL.mono hRs hle1112
        have hrd1117 := OwnL.freeze ho1108 hle1112 hc1113
        have hxs1118 : (([] : List Str) ++ x147.nd.names).length = x147.nd.names.length := by simp
        obtain ⟨a1122, cap1123, e1124, hc1125⟩ := hrd1117.shape
        subst e1124
        refine LP (.agg #[(int x147.nd.cls), (int (-1)), (.slice a1122 ((([] : List Str) ++ x147.nd.names).length) cap1123), (.slice none 0 0)]) 23 rfl rfl rfl (fun u1120 => (by kernel_rfl)) ⟨(Le.trans hle1112 hst1111.rle'), hst1111.g 0⟩ ?_
        refine LA_all [24] (by decide +kernel) (by simp) ?_
        intro i_ hi_
        simp only [List.mem_cons, List.not_mem_nil, or_false] at hi_
        subst hi_
        refine One_new hst1111 (i := 24) (v := fun b => .slice (some ⟨b, 0, none⟩) 1 1) (ob := .cells #[(int x147.nd.cls), (int (-1)), (.slice a1122 ((([] : List Str) ++ x147.nd.names).length) cap1123), (.slice none 0 0)] 75 (0, 0)) rfl rfl rfl (Want.plain rfl) (by kernel_rfl) (fun b1129 w1130 hst1131 => ?_)
        refine ⟨(fun _ => ⟨(Le.trans hle1112 hst1131.rle'), hst1131.g 1⟩), ?_⟩
        refine LA_all [25] (by decide +kernel) (by simp) ?_
        intro i_ hi_
        simp only [List.mem_cons, List.not_mem_nil, or_false] at hi_
        subst hi_
        have ho1135 := (hback140 R1110 ys_32 cL (by first | rfl | (simp only [List.length_set]; done) | (simp only [List.length_set]; omega) | omega) hm1114)
        refine One_append (j := 25) hst1131 (t := 70) (e := 75) (ys := [Sn.mk (Nd.mk x147.nd.cls (-1) (([] : List Str) ++ x147.nd.names)) [] (.slice none 0 0)]) (src := [(int x147.nd.cls), (int (-1)), (.slice a1122 ((([] : List Str) ++ x147.nd.names).length) cap1123), (.slice none 0 0)]) 2 rfl rfl rfl (Want.plain rfl) rfl rfl rfl sl_70 ti_75 rfl rfl rfl ho1135 (src_own (hst1131.b 0)) (sn_mk (RdS.mono hrd1117 (Le.refl _))) rfl (by first | omega | (simp only [List.length_append, List.length_cons, List.length_nil]; omega)) (by first | (simp only [maxLen]; omega) | (simp only [List.length_append, List.length_cons, List.length_nil, maxLen]; omega)) (fun v1136 c1137 w1138 ho1139 hst1140 => ?_)
        refine ⟨(fun _ => ⟨(Le.trans hle1112 hst1140.rle'), hst1140.g 2⟩), ?_⟩
        refine LP (ptr p 0) 26 rfl rfl rfl (fun u1142 => rfl) ⟨(Le.trans hle1112 hst1140.rle'), hst1140.g 2⟩ ?_
        refine LP (ptr p 0) 27 rfl rfl rfl (fun u1145 => (by kernel_rfl)) ⟨(Le.trans hle1112 hst1140.rle'), hst1140.g 2⟩ ?_
        refine LA_all [28] (by decide +kernel) (by simp) ?_
        intro i_ hi_
        simp only [List.mem_cons, List.not_mem_nil, or_false] at hi_
        subst hi_
        obtain ⟨a1148, cap1149, e1150, hc1151⟩ := ho1139.value
        subst e1150
        obtain ⟨w1152, hr1154, hst1153⟩ := run_storeW (P := Tryz.prog) (b := p) (off := 0) (v := (.slice a1148 ((ys_32 ++ [Sn.mk (Nd.mk x147.nd.cls (-1) (([] : List Str) ++ x147.nd.names)) [] (.slice none 0 0)]).length) cap1149)) hst1140 2 ti_70 rfl rfl rfl rfl rfl rfl
        change Step _ _ _ _ _ [c1137, one b1129 (.cells #[(int x147.nd.cls), (int (-1)), (.slice a1122 ((([] : List Str) ++ x147.nd.names).length) cap1123), (.slice none 0 0)] 75 (0, 0)), one p (.cells #[(.slice a1148 ((ys_32 ++ [Sn.mk (Nd.mk x147.nd.cls (-1) (([] : List Str) ++ x147.nd.names)) [] (.slice none 0 0)]).length) cap1149), vR] 72 (0, 0)), cX233, cR] at hst1153
        refine One_skip (i := 28) rfl rfl (Want.plain rfl) (x_store rfl rfl rfl hr1154) (fun h => absurd h (by decide +kernel)) ?_
        refine LA_done (by decide +kernel) ?_
        refine W_seq ?_
        refine W_region_lit ?_
        refine Lq (int (xs.length : Int)) rfl rfl rfl rfl ?_
        refine Lq (int (xs.length : Int)) rfl rfl rfl rfl ?_
        refine Lq (int 0) rfl rfl rfl rfl ?_
        refine L_nil ?_
        refine W_ret ?_
        refine ⟨_, _, res_run (rs := [.tmp 4, .tmp 5]) (vs := [(int (xs.length : Int)), (int 0)]) Tryz.results48 (.cons (.tmp rfl) (.cons (.tmp rfl) .nil)) hmk20, ?_⟩
        have he := split_new (s := s) (a := an) (by omega) (by omega)
        rw [← hc0] at he
        rw [he]
        have hndc := nd_of (by omega) hnd149
        have hagr := hag.split hwf (c := c0) hf27 (fun j hj hj' => by have h_ := hf29 j hj hj'; rw [if_pos (by omega)] at h_; rw [h_, hxl])
        rw [hndc] at hagr
        obtain ⟨c', hst', htree'⟩ := RefT.close (s := s.splitC c0) ((((hst1153.front 4 rfl rfl).front 4 rfl rfl).front 2 rfl rfl).front 4 rfl rfl) ho1139 (hm1115.app (y := ⟨⟨x147.nd.cls, -1, ((([] : List Str) ++ x147.nd.names))⟩, [], .slice none 0 0⟩) rfl rfl) (OwnL.castI hm1116 (splitC_roots_no hwf hco (by omega) hcc hnd149 (ne_of_beq_false c160))) hagr (hwf.splitC c0) (hS.app (by omega) (by rw [hndc]; exact hbn) rfl) (by show (List.map _ _).length ≤ _; rw [List.length_map]; exact hrl)
        exact ⟨_, _, _, rfl, hst'.keepN 1 rfl, c', (by rw [hxl]; rfl), rfl, htree'⟩
       ·
        refine One_val (i := 21) (v := vn942) rfl rfl rfl (Want.plain rfl) (x_load rfl rfl (run_loadVar_one ti_42 ((hst1091.g 2) _ _ hcb940) (seg_get (j := 2) hsg941 rfl))) (fun _ => ⟨hst1091.rle', hst1091.g 1⟩) ?_
        refine LA_all [12, 22] (by decide +kernel) (by simp) ?_
        intro i_ hi_
        simp only [List.mem_cons, List.not_mem_nil, or_false] at hi_
        rcases hi_ with rfl | rfl
        ·
         refine One_val (i := 12) (v := (int x147.nd.cls)) rfl rfl rfl (Want.plain rfl) (x_load rfl rfl (run_loadVar_one ti_3 ((hst1091.g 2) _ _ hcb884) (seg_get (j := 0) hsg885 rfl))) (fun _ => ⟨hst1091.rle', hst1091.g 1⟩) ?_
         refine LA_all [22] (by decide +kernel) (by simp) ?_
         intro i_ hi_
         simp only [List.mem_cons, List.not_mem_nil, or_false] at hi_
         subst hi_
         have ho1163 : OwnL Ty.str 9 R (.slice (some ⟨b1089, 0, none⟩) 0 0) ([] : List Str) (one b1089 (.cells #[] 9 (0, 0))) := OwnL.lit (cs := []) Encs.nil rfl (by decide)
         obtain ⟨v1164, c1165, w1166, hr1167, ho1168, hst1169⟩ := run_appendM (P := Tryz.prog) (tt := 42) sl_42 ti_9 rfl ho1163 hst1091 (RdS.mono hvn943 (Le.refl _)) hst1091.rle' (by simp only [List.length_append, List.length_cons, List.length_nil]; omega) (by simp only [List.length_append, List.length_cons, List.length_nil, maxLen]; omega)
         refine One_val (i := 22) (v := v1164) rfl rfl rfl (Want.plain rfl) (x_append rfl rfl rfl hr1167) (fun _ => ⟨hst1169.rle', hst1169.g 1⟩) ?_
         obtain ⟨R1170, hst1171, hle1172, hc1173⟩ := Step.frz hst1169
         have hm1174 := Row.mono hrow139 hle1172
         have hm1175 := LnX.mono hi25 hle1172
         have hm1176 := OwnL.mono hRs hle1172
         have hrd1177 := OwnL.freeze ho1168 hle1172 hc1173
         have hxs1178 : (([] : List Str) ++ x147.nd.names).length = x147.nd.names.length := by simp
         obtain ⟨a1182, cap1183, e1184, hc1185⟩ := hrd1177.shape
         subst e1184
         refine LP (.agg #[(int x147.nd.cls), (int (-1)), (.slice a1182 ((([] : List Str) ++ x147.nd.names).length) cap1183), (.slice none 0 0)]) 23 rfl rfl rfl (fun u1180 => (by kernel_rfl)) ⟨(Le.trans hle1172 hst1171.rle'), hst1171.g 0⟩ ?_
         refine LA_all [24] (by decide +kernel) (by simp) ?_
         intro i_ hi_
         simp only [List.mem_cons, List.not_mem_nil, or_false] at hi_
         subst hi_
         refine One_new hst1171 (i := 24) (v := fun b => .slice (some ⟨b, 0, none⟩) 1 1) (ob := .cells #[(int x147.nd.cls), (int (-1)), (.slice a1182 ((([] : List Str) ++ x147.nd.names).length) cap1183), (.slice none 0 0)] 75 (0, 0)) rfl rfl rfl (Want.plain rfl) (by kernel_rfl) (fun b1189 w1190 hst1191 => ?_)
         refine ⟨(fun _ => ⟨(Le.trans hle1172 hst1191.rle'), hst1191.g 1⟩), ?_⟩
         refine LA_all [25] (by decide +kernel) (by simp) ?_
         intro i_ hi_
         simp only [List.mem_cons, List.not_mem_nil, or_false] at hi_
         subst hi_
         have ho1195 := (hback140 R1170 ys_32 cL (by first | rfl | (simp only [List.length_set]; done) | (simp only [List.length_set]; omega) | omega) hm1174)
         refine One_append (j := 25) hst1191 (t := 70) (e := 75) (ys := [Sn.mk (Nd.mk x147.nd.cls (-1) (([] : List Str) ++ x147.nd.names)) [] (.slice none 0 0)]) (src := [(int x147.nd.cls), (int (-1)), (.slice a1182 ((([] : List Str) ++ x147.nd.names).length) cap1183), (.slice none 0 0)]) 2 rfl rfl rfl (Want.plain rfl) rfl rfl rfl sl_70 ti_75 rfl rfl rfl ho1195 (src_own (hst1191.b 0)) (sn_mk (RdS.mono hrd1177 (Le.refl _))) rfl (by first | omega | (simp only [List.length_append, List.length_cons, List.length_nil]; omega)) (by first | (simp only [maxLen]; omega) | (simp only [List.length_append, List.length_cons, List.length_nil, maxLen]; omega)) (fun v1196 c1197 w1198 ho1199 hst1200 => ?_)
         refine ⟨(fun _ => ⟨(Le.trans hle1172 hst1200.rle'), hst1200.g 2⟩), ?_⟩
         refine LP (ptr p 0) 26 rfl rfl rfl (fun u1202 => rfl) ⟨(Le.trans hle1172 hst1200.rle'), hst1200.g 2⟩ ?_
         refine LP (ptr p 0) 27 rfl rfl rfl (fun u1205 => (by kernel_rfl)) ⟨(Le.trans hle1172 hst1200.rle'), hst1200.g 2⟩ ?_
         refine LA_all [28] (by decide +kernel) (by simp) ?_
         intro i_ hi_
         simp only [List.mem_cons, List.not_mem_nil, or_false] at hi_
         subst hi_
         obtain ⟨a1208, cap1209, e1210, hc1211⟩ := ho1199.value
         subst e1210
         obtain ⟨w1212, hr1214, hst1213⟩ := run_storeW (P := Tryz.prog) (b := p) (off := 0) (v := (.slice a1208 ((ys_32 ++ [Sn.mk (Nd.mk x147.nd.cls (-1) (([] : List Str) ++ x147.nd.names)) [] (.slice none 0 0)]).length) cap1209)) hst1200 2 ti_70 rfl rfl rfl rfl rfl rfl
         change Step _ _ _ _ _ [c1197, one b1189 (.cells #[(int x147.nd.cls), (int (-1)), (.slice a1182 ((([] : List Str) ++ x147.nd.names).length) cap1183), (.slice none 0 0)] 75 (0, 0)), one p (.cells #[(.slice a1208 ((ys_32 ++ [Sn.mk (Nd.mk x147.nd.cls (-1) (([] : List Str) ++ x147.nd.names)) [] (.slice none 0 0)]).length) cap1209), vR] 72 (0, 0)), cX233, cR] at hst1213
         refine One_skip (i := 28) rfl rfl (Want.plain rfl) (x_store rfl rfl rfl hr1214) (fun h => absurd h (by decide +kernel)) ?_
         refine LA_done (by decide +kernel) ?_
         refine W_seq ?_
         refine W_region_lit ?_
         refine Lq (int (xs.length : Int)) rfl rfl rfl rfl ?_
         refine Lq (int (xs.length : Int)) rfl rfl rfl rfl ?_
         refine Lq (int 0) rfl rfl rfl rfl ?_
         refine L_nil ?_
         refine W_ret ?_
         refine ⟨_, _, res_run (rs := [.tmp 4, .tmp 5]) (vs := [(int (xs.length : Int)), (int 0)]) Tryz.results48 (.cons (.tmp rfl) (.cons (.tmp rfl) .nil)) hmk20, ?_⟩
         have he := split_new (s := s) (a := an) (by omega) (by omega)
         rw [← hc0] at he
         rw [he]
         have hndc := nd_of (by omega) hnd149
         have hagr := hag.split hwf (c := c0) hf27 (fun j hj hj' => by have h_ := hf29 j hj hj'; rw [if_pos (by omega)] at h_; rw [h_, hxl])
         rw [hndc] at hagr
         obtain ⟨c', hst', htree'⟩ := RefT.close (s := s.splitC c0) ((((hst1213.front 4 rfl rfl).front 4 rfl rfl).front 2 rfl rfl).front 4 rfl rfl) ho1199 (hm1175.app (y := ⟨⟨x147.nd.cls, -1, ((([] : List Str) ++ x147.nd.names))⟩, [], .slice none 0 0⟩) rfl rfl) (OwnL.castI hm1176 (splitC_roots_no hwf hco (by omega) hcc hnd149 (ne_of_beq_false c160))) hagr (hwf.splitC c0) (hS.app (by omega) (by rw [hndc]; exact hbn) rfl) (by show (List.map _ _).length ≤ _; rw [List.length_map]; exact hrl)
         exact ⟨_, _, _, rfl, hst'.keepN 1 rfl, c', (by rw [hxl]; rfl), rfl, htree'⟩
        ·
         have ho1215 : OwnL Ty.str 9 R (.slice (some ⟨b1089, 0, none⟩) 0 0) ([] : List Str) (one b1089 (.cells #[] 9 (0, 0))) := OwnL.lit (cs := []) Encs.nil rfl (by decide)
         obtain ⟨v1216, c1217, w1218, hr1219, ho1220, hst1221⟩ := run_appendM (P := Tryz.prog) (tt := 42) sl_42 ti_9 rfl ho1215 hst1091 (RdS.mono hvn943 (Le.refl _)) hst1091.rle' (by simp only [List.length_append, List.length_cons, List.length_nil]; omega) (by simp only [List.length_append, List.length_cons, List.length_nil, maxLen]; omega)
         refine One_val (i := 22) (v := v1216) rfl rfl rfl (Want.plain rfl) (x_append rfl rfl rfl hr1219) (fun _ => ⟨hst1221.rle', hst1221.g 1⟩) ?_
         obtain ⟨R1222, hst1223, hle1224, hc1225⟩ := Step.frz hst1221
         have hm1226 := Row.mono hrow139 hle1224
         have hm1227 := LnX.mono hi25 hle1224
         have hm1228 := OwnL.mono hRs hle1224
         have hrd1229 := OwnL.freeze ho1220 hle1224 hc1225
         have hxs1230 : (([] : List Str) ++ x147.nd.names).length = x147.nd.names.length := by simp
         refine LA_all [12] (by decide +kernel) (by simp) ?_
         intro i_ hi_
         simp only [List.mem_cons, List.not_mem_nil, or_false] at hi_
         subst hi_
         refine One_val (i := 12) (v := (int x147.nd.cls)) rfl rfl rfl (Want.plain rfl) (x_load rfl rfl (run_loadVar_one ti_3 ((hst1223.g 1) _ _ hcb884) (seg_get (j := 0) hsg885 rfl))) (fun _ => ⟨(Le.trans hle1224 hst1223.rle'), hst1223.g 0⟩) ?_
         obtain ⟨a1237, cap1238, e1239, hc1240⟩ := hrd1229.shape
         subst e1239
         refine LP (.agg #[(int x147.nd.cls), (int (-1)), (.slice a1237 ((([] : List Str) ++ x147.nd.names).length) cap1238), (.slice none 0 0)]) 23 rfl rfl rfl (fun u1235 => (by kernel_rfl)) ⟨(Le.trans hle1224 hst1223.rle'), hst1223.g 0⟩ ?_
         refine LA_all [24] (by decide +kernel) (by simp) ?_
         intro i_ hi_
         simp only [List.mem_cons, List.not_mem_nil, or_false] at hi_
         subst hi_
         refine One_new hst1223 (i := 24) (v := fun b => .slice (some ⟨b, 0, none⟩) 1 1) (ob := .cells #[(int x147.nd.cls), (int (-1)), (.slice a1237 ((([] : List Str) ++ x147.nd.names).length) cap1238), (.slice none 0 0)] 75 (0, 0)) rfl rfl rfl (Want.plain rfl) (by kernel_rfl) (fun b1244 w1245 hst1246 => ?_)
         refine ⟨(fun _ => ⟨(Le.trans hle1224 hst1246.rle'), hst1246.g 1⟩), ?_⟩
         refine LA_all [25] (by decide +kernel) (by simp) ?_
         intro i_ hi_
         simp only [List.mem_cons, List.not_mem_nil, or_false] at hi_
         subst hi_
         have ho1250 := (hback140 R1222 ys_32 cL (by first | rfl | (simp only [List.length_set]; done) | (simp only [List.length_set]; omega) | omega) hm1226)
         refine One_append (j := 25) hst1246 (t := 70) (e := 75) (ys := [Sn.mk (Nd.mk x147.nd.cls (-1) (([] : List Str) ++ x147.nd.names)) [] (.slice none 0 0)]) (src := [(int x147.nd.cls), (int (-1)), (.slice a1237 ((([] : List Str) ++ x147.nd.names).length) cap1238), (.slice none 0 0)]) 2 rfl rfl rfl (Want.plain rfl) rfl rfl rfl sl_70 ti_75 rfl rfl rfl ho1250 (src_own (hst1246.b 0)) (sn_mk (RdS.mono hrd1229 (Le.refl _))) rfl (by first | omega | (simp only [List.length_append, List.length_cons, List.length_nil]; omega)) (by first | (simp only [maxLen]; omega) | (simp only [List.length_append, List.length_cons, List.length_nil, maxLen]; omega)) (fun v1251 c1252 w1253 ho1254 hst1255 => ?_)
         refine ⟨(fun _ => ⟨(Le.trans hle1224 hst1255.rle'), hst1255.g 2⟩), ?_⟩
         refine LP (ptr p 0) 26 rfl rfl rfl (fun u1257 => rfl) ⟨(Le.trans hle1224 hst1255.rle'), hst1255.g 2⟩ ?_
         refine LP (ptr p 0) 27 rfl rfl rfl (fun u1260 => (by kernel_rfl)) ⟨(Le.trans hle1224 hst1255.rle'), hst1255.g 2⟩ ?_
         refine LA_all [28] (by decide +kernel) (by simp) ?_
         intro i_ hi_
         simp only [List.mem_cons, List.not_mem_nil, or_false] at hi_
         subst hi_
         obtain ⟨a1263, cap1264, e1265, hc1266⟩ := ho1254.value
         subst e1265
         obtain ⟨w1267, hr1269, hst1268⟩ := run_storeW (P := Tryz.prog) (b := p) (off := 0) (v := (.slice a1263 ((ys_32 ++ [Sn.mk (Nd.mk x147.nd.cls (-1) (([] : List Str) ++ x147.nd.names)) [] (.slice none 0 0)]).length) cap1264)) hst1255 2 ti_70 rfl rfl rfl rfl rfl rfl
         change Step _ _ _ _ _ [c1252, one b1244 (.cells #[(int x147.nd.cls), (int (-1)), (.slice a1237 ((([] : List Str) ++ x147.nd.names).length) cap1238), (.slice none 0 0)] 75 (0, 0)), one p (.cells #[(.slice a1263 ((ys_32 ++ [Sn.mk (Nd.mk x147.nd.cls (-1) (([] : List Str) ++ x147.nd.names)) [] (.slice none 0 0)]).length) cap1264), vR] 72 (0, 0)), cX233, cR] at hst1268
         refine One_skip (i := 28) rfl rfl (Want.plain rfl) (x_store rfl rfl rfl hr1269) (fun h => absurd h (by decide +kernel)) ?_
         refine LA_done (by decide +kernel) ?_
         refine W_seq ?_
         refine W_region_lit ?_
         refine Lq (int (xs.length : Int)) rfl rfl rfl rfl ?_
         refine Lq (int (xs.length : Int)) rfl rfl rfl rfl ?_
         refine Lq (int 0) rfl rfl rfl rfl ?_
         refine L_nil ?_
         refine W_ret ?_
         refine ⟨_, _, res_run (rs := [.tmp 4, .tmp 5]) (vs := [(int (xs.length : Int)), (int 0)]) Tryz.results48 (.cons (.tmp rfl) (.cons (.tmp rfl) .nil)) hmk20, ?_⟩
         have he := split_new (s := s) (a := an) (by omega) (by omega)
         rw [← hc0] at he
         rw [he]
         have hndc := nd_of (by omega) hnd149
         have hagr := hag.split hwf (c := c0) hf27 (fun j hj hj' => by have h_ := hf29 j hj hj'; rw [if_pos (by omega)] at h_; rw [h_, hxl])
         rw [hndc] at hagr
         obtain ⟨c', hst', htree'⟩ := RefT.close (s := s.splitC c0) ((((hst1268.front 4 rfl rfl).front 4 rfl rfl).front 2 rfl rfl).front 4 rfl rfl) ho1254 (hm1227.app (y := ⟨⟨x147.nd.cls, -1, ((([] : List Str) ++ x147.nd.names))⟩, [], .slice none 0 0⟩) rfl rfl) (OwnL.castI hm1228 (splitC_roots_no hwf hco (by omega) hcc hnd149 (ne_of_beq_false c160))) hagr (hwf.splitC c0) (hS.app (by omega) (by rw [hndc]; exact hbn) rfl) (by show (List.map _ _).length ≤ _; rw [List.length_map]; exact hrl)
         exact ⟨_, _, _, rfl, hst'.keepN 1 rfl, c', (by rw [hxl]; rfl), rfl, htree'⟩
      ·
       refine One_val (i := 21) (v := vn942) rfl rfl rfl (Want.plain rfl) (x_load rfl rfl (run_loadVar_one ti_42 ((hst847.g 1) _ _ hcb940) (seg_get (j := 2) hsg941 rfl))) (fun _ => ⟨hst847.rle', hst847.g 0⟩) ?_
       refine LA_all [12, 13] (by decide +kernel) (by simp) ?_
       intro i_ hi_
       simp only [List.mem_cons, List.not_mem_nil, or_false] at hi_
       rcases hi_ with rfl | rfl
       ·
        refine One_val (i := 12) (v := (int x147.nd.cls)) rfl rfl rfl (Want.plain rfl) (x_load rfl rfl (run_loadVar_one ti_3 ((hst847.g 1) _ _ hcb884) (seg_get (j := 0) hsg885 rfl))) (fun _ => ⟨hst847.rle', hst847.g 0⟩) ?_
        refine LA_all [13] (by decide +kernel) (by simp) ?_
        intro i_ hi_
        simp only [List.mem_cons, List.not_mem_nil, or_false] at hi_
        subst hi_
        refine One_new hst847 (i := 13) (v := fun b => .slice (some ⟨b, 0, none⟩) 0 0) (ob := .cells #[] 9 (0, 0)) rfl rfl rfl (Want.plain rfl) (by kernel_rfl) (fun b1278 w1279 hst1280 => ?_)
        refine ⟨(fun _ => ⟨hst1280.rle', hst1280.g 1⟩), ?_⟩
        refine LA_all [22] (by decide +kernel) (by simp) ?_
        intro i_ hi_
        simp only [List.mem_cons, List.not_mem_nil, or_false] at hi_
        subst hi_
        have ho1284 : OwnL Ty.str 9 R (.slice (some ⟨b1278, 0, none⟩) 0 0) ([] : List Str) (one b1278 (.cells #[] 9 (0, 0))) := OwnL.lit (cs := []) Encs.nil rfl (by decide)
        obtain ⟨v1285, c1286, w1287, hr1288, ho1289, hst1290⟩ := run_appendM (P := Tryz.prog) (tt := 42) sl_42 ti_9 rfl ho1284 hst1280 (RdS.mono hvn943 (Le.refl _)) hst1280.rle' (by simp only [List.length_append, List.length_cons, List.length_nil]; omega) (by simp only [List.length_append, List.length_cons, List.length_nil, maxLen]; omega)
        refine One_val (i := 22) (v := v1285) rfl rfl rfl (Want.plain rfl) (x_append rfl rfl rfl hr1288) (fun _ => ⟨hst1290.rle', hst1290.g 1⟩) ?_
        obtain ⟨R1291, hst1292, hle1293, hc1294⟩ := Step.frz hst1290
        have hm1295 := Row.mono hrow139 hle1293
        have hm1296 := LnX.mono hi25 hle1293
        have hm1297 := OwnL.mono hRs hle1293
        have hrd1298 := OwnL.freeze ho1289 hle1293 hc1294
        have hxs1299 : (([] : List Str) ++ x147.nd.names).length = x147.nd.names.length := by simp
        obtain ⟨a1303, cap1304, e1305, hc1306⟩ := hrd1298.shape
        subst e1305
        refine LP (.agg #[(int x147.nd.cls), (int (-1)), (.slice a1303 ((([] : List Str) ++ x147.nd.names).length) cap1304), (.slice none 0 0)]) 23 rfl rfl rfl (fun u1301 => (by kernel_rfl)) ⟨(Le.trans hle1293 hst1292.rle'), hst1292.g 0⟩ ?_
        refine LA_all [24] (by decide +kernel) (by simp) ?_
        intro i_ hi_
        simp only [List.mem_cons, List.not_mem_nil, or_false] at hi_
        subst hi_
        refine One_new hst1292 (i := 24) (v := fun b => .slice (some ⟨b, 0, none⟩) 1 1) (ob := .cells #[(int x147.nd.cls), (int (-1)), (.slice a1303 ((([] : List Str) ++ x147.nd.names).length) cap1304), (.slice none 0 0)] 75 (0, 0)) rfl rfl rfl (Want.plain rfl) (by kernel_rfl) (fun b1310 w1311 hst1312 => ?_)
        refine ⟨(fun _ => ⟨(Le.trans hle1293 hst1312.rle'), hst1312.g 1⟩), ?_⟩
        refine LA_all [25] (by decide +kernel) (by simp) ?_
        intro i_ hi_
        simp only [List.mem_cons, List.not_mem_nil, or_false] at hi_
        subst hi_
        have ho1316 := (hback140 R1291 ys_32 cL (by first | rfl | (simp only [List.length_set]; done) | (simp only [List.length_set]; omega) | omega) hm1295)
        refine One_append (j := 25) hst1312 (t := 70) (e := 75) (ys := [Sn.mk (Nd.mk x147.nd.cls (-1) (([] : List Str) ++ x147.nd.names)) [] (.slice none 0 0)]) (src := [(int x147.nd.cls), (int (-1)), (.slice a1303 ((([] : List Str) ++ x147.nd.names).length) cap1304), (.slice none 0 0)]) 2 rfl rfl rfl (Want.plain rfl) rfl rfl rfl sl_70 ti_75 rfl rfl rfl ho1316 (src_own (hst1312.b 0)) (sn_mk (RdS.mono hrd1298 (Le.refl _))) rfl (by first | omega | (simp only [List.length_append, List.length_cons, List.length_nil]; omega)) (by first | (simp only [maxLen]; omega) | (simp only [List.length_append, List.length_cons, List.length_nil, maxLen]; omega)) (fun v1317 c1318 w1319 ho1320 hst1321 => ?_)
        refine ⟨(fun _ => ⟨(Le.trans hle1293 hst1321.rle'), hst1321.g 2⟩), ?_⟩
        refine LP (ptr p 0) 26 rfl rfl rfl (fun u1323 => rfl) ⟨(Le.trans hle1293 hst1321.rle'), hst1321.g 2⟩ ?_
        refine LP (ptr p 0) 27 rfl rfl rfl (fun u1326 => (by kernel_rfl)) ⟨(Le.trans hle1293 hst1321.rle'), hst1321.g 2⟩ ?_
        refine LA_all [28] (by decide +kernel) (by simp) ?_
        intro i_ hi_
        simp only [List.mem_cons, List.not_mem_nil, or_false] at hi_
        subst hi_
        obtain ⟨a1329, cap1330, e1331, hc1332⟩ := ho1320.value
        subst e1331
        obtain ⟨w1333, hr1335, hst1334⟩ := run_storeW (P := Tryz.prog) (b := p) (off := 0) (v := (.slice a1329 ((ys_32 ++ [Sn.mk (Nd.mk x147.nd.cls (-1) (([] : List Str) ++ x147.nd.names)) [] (.slice none 0 0)]).length) cap1330)) hst1321 2 ti_70 rfl rfl rfl rfl rfl rfl
        change Step _ _ _ _ _ [c1318, one b1310 (.cells #[(int x147.nd.cls), (int (-1)), (.slice a1303 ((([] : List Str) ++ x147.nd.names).length) cap1304), (.slice none 0 0)] 75 (0, 0)), one p (.cells #[(.slice a1329 ((ys_32 ++ [Sn.mk (Nd.mk x147.nd.cls (-1) (([] : List Str) ++ x147.nd.names)) [] (.slice none 0 0)]).length) cap1330), vR] 72 (0, 0)), cX233, cR] at hst1334
        refine One_skip (i := 28) rfl rfl (Want.plain rfl) (x_store rfl rfl rfl hr1335) (fun h => absurd h (by decide +kernel)) ?_
        refine LA_done (by decide +kernel) ?_
        refine W_seq ?_
        refine W_region_lit ?_
        refine Lq (int (xs.length : Int)) rfl rfl rfl rfl ?_
        refine Lq (int (xs.length : Int)) rfl rfl rfl rfl ?_
        refine Lq (int 0) rfl rfl rfl rfl ?_
        refine L_nil ?_
        refine W_ret ?_
        refine ⟨_, _, res_run (rs := [.tmp 4, .tmp 5]) (vs := [(int (xs.length : Int)), (int 0)]) Tryz.results48 (.cons (.tmp rfl) (.cons (.tmp rfl) .nil)) hmk20, ?_⟩
        have he := split_new (s := s) (a := an) (by omega) (by omega)
        rw [← hc0] at he
        rw [he]
        have hndc := nd_of (by omega) hnd149
        have hagr := hag.split hwf (c := c0) hf27 (fun j hj hj' => by have h_ := hf29 j hj hj'; rw [if_pos (by omega)] at h_; rw [h_, hxl])
        rw [hndc] at hagr
        obtain ⟨c', hst', htree'⟩ := RefT.close (s := s.splitC c0) ((((hst1334.front 4 rfl rfl).front 4 rfl rfl).front 2 rfl rfl).front 4 rfl rfl) ho1320 (hm1296.app (y := ⟨⟨x147.nd.cls, -1, ((([] : List Str) ++ x147.nd.names))⟩, [], .slice none 0 0⟩) rfl rfl) (OwnL.castI hm1297 (splitC_roots_no hwf hco (by omega) hcc hnd149 (ne_of_beq_false c160))) hagr (hwf.splitC c0) (hS.app (by omega) (by rw [hndc]; exact hbn) rfl) (by show (List.map _ _).length ≤ _; rw [List.length_map]; exact hrl)
        exact ⟨_, _, _, rfl, hst'.keepN 1 rfl, c', (by rw [hxl]; rfl), rfl, htree'⟩
       ·
        refine One_new hst847 (i := 13) (v := fun b => .slice (some ⟨b, 0, none⟩) 0 0) (ob := .cells #[] 9 (0, 0)) rfl rfl rfl (Want.plain rfl) (by kernel_rfl) (fun b1336 w1337 hst1338 => ?_)
        refine ⟨(fun _ => ⟨hst1338.rle', hst1338.g 1⟩), ?_⟩
        refine LA_all [12, 22] (by decide +kernel) (by simp) ?_
        intro i_ hi_
        simp only [List.mem_cons, List.not_mem_nil, or_false] at hi_
        rcases hi_ with rfl | rfl
        ·
         refine One_val (i := 12) (v := (int x147.nd.cls)) rfl rfl rfl (Want.plain rfl) (x_load rfl rfl (run_loadVar_one ti_3 ((hst1338.g 2) _ _ hcb884) (seg_get (j := 0) hsg885 rfl))) (fun _ => ⟨hst1338.rle', hst1338.g 1⟩) ?_
         refine LA_all [22] (by decide +kernel) (by simp) ?_
         intro i_ hi_
         simp only [List.mem_cons, List.not_mem_nil, or_false] at hi_
         subst hi_
         have ho1347 : OwnL Ty.str 9 R (.slice (some ⟨b1336, 0, none⟩) 0 0) ([] : List Str) (one b1336 (.cells #[] 9 (0, 0))) := OwnL.lit (cs := []) Encs.nil rfl (by decide)
         obtain ⟨v1348, c1349, w1350, hr1351, ho1352, hst1353⟩ := run_appendM (P := Tryz.prog) (tt := 42) sl_42 ti_9 rfl ho1347 hst1338 (RdS.mono hvn943 (Le.refl _)) hst1338.rle' (by simp only [List.length_append, List.length_cons, List.length_nil]; omega) (by simp only [List.length_append, List.length_cons, List.length_nil, maxLen]; omega)
         refine One_val (i := 22) (v := v1348) rfl rfl rfl (Want.plain rfl) (x_append rfl rfl rfl hr1351) (fun _ => ⟨hst1353.rle', hst1353.g 1⟩) ?_
         obtain ⟨R1354, hst1355, hle1356, hc1357⟩ := Step.frz hst1353
         have hm1358 := Row.mono hrow139 hle1356
         have hm1359 := LnX.mono hi25 hle1356
         have hm1360 := OwnL.mono hRs hle1356
         have hrd1361 := OwnL.freeze ho1352 hle1356 hc1357
         have hxs1362 : (([] : List Str) ++ x147.nd.names).length = x147.nd.names.length := by simp
         obtain ⟨a1366, cap1367, e1368, hc1369⟩ := hrd1361.shape
         subst e1368
         refine LP (.agg #[(int x147.nd.cls), (int (-1)), (.slice a1366 ((([] : List Str) ++ x147.nd.names).length) cap1367), (.slice none 0 0)]) 23 rfl rfl rfl (fun u1364 => (by kernel_rfl)) ⟨(Le.trans hle1356 hst1355.rle'), hst1355.g 0⟩ ?_
         refine LA_all [24] (by decide +kernel) (by simp) ?_
         intro i_ hi_
         simp only [List.mem_cons, List.not_mem_nil, or_false] at hi_
         subst hi_
         refine One_new hst1355 (i := 24) (v := fun b => .slice (some ⟨b, 0, none⟩) 1 1) (ob := .cells #[(int x147.nd.cls), (int (-1)), (.slice a1366 ((([] : List Str) ++ x147.nd.names).length) cap1367), (.slice none 0 0)] 75 (0, 0)) rfl rfl rfl (Want.plain rfl) (by kernel_rfl) (fun b1373 w1374 hst1375 => ?_)
         refine ⟨(fun _ => ⟨(Le.trans hle1356 hst1375.rle'), hst1375.g 1⟩), ?_⟩
         refine LA_all [25] (by decide +kernel) (by simp) ?_
         intro i_ hi_
         simp only [List.mem_cons, List.not_mem_nil, or_false] at hi_
         subst hi_
         have ho1379 := (hback140 R1354 ys_32 cL (by first | rfl | (simp only [List.length_set]; done) | (simp only [List.length_set]; omega) | omega) hm1358)
         refine One_append (j := 25) hst1375 (t := 70) (e := 75) (ys := [Sn.mk (Nd.mk x147.nd.cls (-1) (([] : List Str) ++ x147.nd.names)) [] (.slice none 0 0)]) (src := [(int x147.nd.cls), (int (-1)), (.slice a1366 ((([] : List Str) ++ x147.nd.names).length) cap1367), (.slice none 0 0)]) 2 rfl rfl rfl (Want.plain rfl) rfl rfl rfl sl_70 ti_75 rfl rfl rfl ho1379 (src_own (hst1375.b 0)) (sn_mk (RdS.mono hrd1361 (Le.refl _))) rfl (by first | omega | (simp only [List.length_append, List.length_cons, List.length_nil]; omega)) (by first | (simp only [maxLen]; omega) | (simp only [List.length_append, List.length_cons, List.length_nil, maxLen]; omega)) (fun v1380 c1381 w1382 ho1383 hst1384 => ?_)
         refine ⟨(fun _ => ⟨(Le.trans hle1356 hst1384.rle'), hst1384.g 2⟩), ?_⟩
         refine LP (ptr p 0) 26 rfl rfl rfl (fun u1386 => rfl) ⟨(Le.trans hle1356 hst1384.rle'), hst1384.g 2⟩ ?_
         refine LP (ptr p 0) 27 rfl rfl rfl (fun u1389 => (by kernel_rfl)) ⟨(Le.trans hle1356 hst1384.rle'), hst1384.g 2⟩ ?_
         refine LA_all [28] (by decide +kernel) (by simp) ?_
         intro i_ hi_
         simp only [List.mem_cons, List.not_mem_nil, or_false] at hi_
         subst hi_
         obtain ⟨a1392, cap1393, e1394, hc1395⟩ := ho1383.value
         subst e1394
         obtain ⟨w1396, hr1398, hst1397⟩ := run_storeW (P := Tryz.prog) (b := p) (off := 0) (v := (.slice a1392 ((ys_32 ++ [Sn.mk (Nd.mk x147.nd.cls (-1) (([] : List Str) ++ x147.nd.names)) [] (.slice none 0 0)]).length) cap1393)) hst1384 2 ti_70 rfl rfl rfl rfl rfl rfl
         change Step _ _ _ _ _ [c1381, one b1373 (.cells #[(int x147.nd.cls), (int (-1)), (.slice a1366 ((([] : List Str) ++ x147.nd.names).length) cap1367), (.slice none 0 0)] 75 (0, 0)), one p (.cells #[(.slice a1392 ((ys_32 ++ [Sn.mk (Nd.mk x147.nd.cls (-1) (([] : List Str) ++ x147.nd.names)) [] (.slice none 0 0)]).length) cap1393), vR] 72 (0, 0)), cX233, cR] at hst1397
         refine One_skip (i := 28) rfl rfl (Want.plain rfl) (x_store rfl rfl rfl hr1398) (fun h => absurd h (by decide +kernel)) ?_
         refine LA_done (by decide +kernel) ?_
         refine W_seq ?_
         refine W_region_lit ?_
         refine Lq (int (xs.length : Int)) rfl rfl rfl rfl ?_
         refine Lq (int (xs.length : Int)) rfl rfl rfl rfl ?_
         refine Lq (int 0) rfl rfl rfl rfl ?_
         refine L_nil ?_
         refine W_ret ?_
         refine ⟨_, _, res_run (rs := [.tmp 4, .tmp 5]) (vs := [(int (xs.length : Int)), (int 0)]) Tryz.results48 (.cons (.tmp rfl) (.cons (.tmp rfl) .nil)) hmk20, ?_⟩
         have he := split_new (s := s) (a := an) (by omega) (by omega)
         rw [← hc0] at he
         rw [he]
         have hndc := nd_of (by omega) hnd149
         have hagr := hag.split hwf (c := c0) hf27 (fun j hj hj' => by have h_ := hf29 j hj hj'; rw [if_pos (by omega)] at h_; rw [h_, hxl])
         rw [hndc] at hagr
         obtain ⟨c', hst', htree'⟩ := RefT.close (s := s.splitC c0) ((((hst1397.front 4 rfl rfl).front 4 rfl rfl).front 2 rfl rfl).front 4 rfl rfl) ho1383 (hm1359.app (y := ⟨⟨x147.nd.cls, -1, ((([] : List Str) ++ x147.nd.names))⟩, [], .slice none 0 0⟩) rfl rfl) (OwnL.castI hm1360 (splitC_roots_no hwf hco (by omega) hcc hnd149 (ne_of_beq_false c160))) hagr (hwf.splitC c0) (hS.app (by omega) (by rw [hndc]; exact hbn) rfl) (by show (List.map _ _).length ≤ _; rw [List.length_map]; exact hrl)
         exact ⟨_, _, _, rfl, hst'.keepN 1 rfl, c', (by rw [hxl]; rfl), rfl, htree'⟩
        ·
         have ho1399 : OwnL Ty.str 9 R (.slice (some ⟨b1336, 0, none⟩) 0 0) ([] : List Str) (one b1336 (.cells #[] 9 (0, 0))) := OwnL.lit (cs := []) Encs.nil rfl (by decide)
         obtain ⟨v1400, c1401, w1402, hr1403, ho1404, hst1405⟩ := run_appendM (P := Tryz.prog) (tt := 42) sl_42 ti_9 rfl ho1399 hst1338 (RdS.mono hvn943 (Le.refl _)) hst1338.rle' (by simp only [List.length_append, List.length_cons, List.length_nil]; omega) (by simp only [List.length_append, List.length_cons, List.length_nil, maxLen]; omega)
         refine One_val (i := 22) (v := v1400) rfl rfl rfl (Want.plain rfl) (x_append rfl rfl rfl hr1403) (fun _ => ⟨hst1405.rle', hst1405.g 1⟩) ?_
         obtain ⟨R1406, hst1407, hle1408, hc1409⟩ := Step.frz hst1405
         have hm1410 := Row.mono hrow139 hle1408
         have hm1411 := LnX.mono hi25 hle1408
         have hm1412 := OwnL.mono hRs hle1408
         have hrd1413 := OwnL.freeze ho1404 hle1408 hc1409
         have hxs1414 : (([] : List Str) ++ x147.nd.names).length = x147.nd.names.length := by simp
         refine LA_all [12] (by decide +kernel) (by simp) ?_
         intro i_ hi_
         simp only [List.mem_cons, List.not_mem_nil, or_false] at hi_
         subst hi_
         refine One_val (i := 12) (v := (int x147.nd.cls)) rfl rfl rfl (Want.plain rfl) (x_load rfl rfl (run_loadVar_one ti_3 ((hst1407.g 1) _ _ hcb884) (seg_get (j := 0) hsg885 rfl))) (fun _ => ⟨(Le.trans hle1408 hst1407.rle'), hst1407.g 0⟩) ?_
         obtain ⟨a1421, cap1422, e1423, hc1424⟩ := hrd1413.shape
         subst e1423
         refine LP (.agg #[(int x147.nd.cls), (int (-1)), (.slice a1421 ((([] : List Str) ++ x147.nd.names).length) cap1422), (.slice none 0 0)]) 23 rfl rfl rfl (fun u1419 => (by kernel_rfl)) ⟨(Le.trans hle1408 hst1407.rle'), hst1407.g 0⟩ ?_
         refine LA_all [24] (by decide +kernel) (by simp) ?_
         intro i_ hi_
         simp only [List.mem_cons, List.not_mem_nil, or_false] at hi_
         subst hi_
         refine One_new hst1407 (i := 24) (v := fun b => .slice (some ⟨b, 0, none⟩) 1 1) (ob := .cells #[(int x147.nd.cls), (int (-1)), (.slice a1421 ((([] : List Str) ++ x147.nd.names).length) cap1422), (.slice none 0 0)] 75 (0, 0)) rfl rfl rfl (Want.plain rfl) (by kernel_rfl) (fun b1428 w1429 hst1430 => ?_)
         refine ⟨(fun _ => ⟨(Le.trans hle1408 hst1430.rle'), hst1430.g 1⟩), ?_⟩
         refine LA_all [25] (by decide +kernel) (by simp) ?_
         intro i_ hi_
         simp only [List.mem_cons, List.not_mem_nil, or_false] at hi_
         subst hi_
         have ho1434 := (hback140 R1406 ys_32 cL (by first | rfl | (simp only [List.length_set]; done) | (simp only [List.length_set]; omega) | omega) hm1410)
         refine One_append (j := 25) hst1430 (t := 70) (e := 75) (ys := [Sn.mk (Nd.mk x147.nd.cls (-1) (([] : List Str) ++ x147.nd.names)) [] (.slice none 0 0)]) (src := [(int x147.nd.cls), (int (-1)), (.slice a1421 ((([] : List Str) ++ x147.nd.names).length) cap1422), (.slice none 0 0)]) 2 rfl rfl rfl (Want.plain rfl) rfl rfl rfl sl_70 ti_75 rfl rfl rfl ho1434 (src_own (hst1430.b 0)) (sn_mk (RdS.mono hrd1413 (Le.refl _))) rfl (by first | omega | (simp only [List.length_append, List.length_cons, List.length_nil]; omega)) (by first | (simp only [maxLen]; omega) | (simp only [List.length_append, List.length_cons, List.length_nil, maxLen]; omega)) (fun v1435 c1436 w1437 ho1438 hst1439 => ?_)
         refine ⟨(fun _ => ⟨(Le.trans hle1408 hst1439.rle'), hst1439.g 2⟩), ?_⟩
         refine LP (ptr p 0) 26 rfl rfl rfl (fun u1441 => rfl) ⟨(Le.trans hle1408 hst1439.rle'), hst1439.g 2⟩ ?_
         refine LP (ptr p 0) 27 rfl rfl rfl (fun u1444 => (by kernel_rfl)) ⟨(Le.trans hle1408 hst1439.rle'), hst1439.g 2⟩ ?_
         refine LA_all [28] (by decide +kernel) (by simp) ?_
         intro i_ hi_
         simp only [List.mem_cons, List.not_mem_nil, or_false] at hi_
         subst hi_
         obtain ⟨a1447, cap1448, e1449, hc1450⟩ := ho1438.value
         subst e1449
         obtain ⟨w1451, hr1453, hst1452⟩ := run_storeW (P := Tryz.prog) (b := p) (off := 0) (v := (.slice a1447 ((ys_32 ++ [Sn.mk (Nd.mk x147.nd.cls (-1) (([] : List Str) ++ x147.nd.names)) [] (.slice none 0 0)]).length) cap1448)) hst1439 2 ti_70 rfl rfl rfl rfl rfl rfl
         change Step _ _ _ _ _ [c1436, one b1428 (.cells #[(int x147.nd.cls), (int (-1)), (.slice a1421 ((([] : List Str) ++ x147.nd.names).length) cap1422), (.slice none 0 0)] 75 (0, 0)), one p (.cells #[(.slice a1447 ((ys_32 ++ [Sn.mk (Nd.mk x147.nd.cls (-1) (([] : List Str) ++ x147.nd.names)) [] (.slice none 0 0)]).length) cap1448), vR] 72 (0, 0)), cX233, cR] at hst1452
         refine One_skip (i := 28) rfl rfl (Want.plain rfl) (x_store rfl rfl rfl hr1453) (fun h => absurd h (by decide +kernel)) ?_
         refine LA_done (by decide +kernel) ?_
         refine W_seq ?_
         refine W_region_lit ?_
         refine Lq (int (xs.length : Int)) rfl rfl rfl rfl ?_
         refine Lq (int (xs.length : Int)) rfl rfl rfl rfl ?_
         refine Lq (int 0) rfl rfl rfl rfl ?_
         refine L_nil ?_
         refine W_ret ?_
         refine ⟨_, _, res_run (rs := [.tmp 4, .tmp 5]) (vs := [(int (xs.length : Int)), (int 0)]) Tryz.results48 (.cons (.tmp rfl) (.cons (.tmp rfl) .nil)) hmk20, ?_⟩
         have he := split_new (s := s) (a := an) (by omega) (by omega)
         rw [← hc0] at he
         rw [he]
         have hndc := nd_of (by omega) hnd149
         have hagr := hag.split hwf (c := c0) hf27 (fun j hj hj' => by have h_ := hf29 j hj hj'; rw [if_pos (by omega)] at h_; rw [h_, hxl])
         rw [hndc] at hagr
         obtain ⟨c', hst', htree'⟩ := RefT.close (s := s.splitC c0) ((((hst1452.front 4 rfl rfl).front 4 rfl rfl).front 2 rfl rfl).front 4 rfl rfl) ho1438 (hm1411.app (y := ⟨⟨x147.nd.cls, -1, ((([] : List Str) ++ x147.nd.names))⟩, [], .slice none 0 0⟩) rfl rfl) (OwnL.castI hm1412 (splitC_roots_no hwf hco (by omega) hcc hnd149 (ne_of_beq_false c160))) hagr (hwf.splitC c0) (hS.app (by omega) (by rw [hndc]; exact hbn) rfl) (by show (List.map _ _).length ≤ _; rw [List.length_map]; exact hrl)
         exact ⟨_, _, _, rfl, hst'.keepN 1 rfl, c', (by rw [hxl]; rfl), rfl, htree'⟩
 ·
  have q1454 := thereL_not.1 c5
  refine W_cond_true (by show Value.bool _ = _; exact congrArg Value.bool (by rw [c5]; rfl)) ?_
  refine W_seq ?_
  refine W_region_lit ?_
  refine Lq (int 0) rfl rfl rfl rfl ?_
  refine Lq (int 1) rfl rfl rfl rfl ?_
  refine L_nil ?_
  refine W_ret ?_
  refine ⟨_, _, res_run (rs := [.tmp 4, .tmp 5]) (vs := [(int 0), (int 1)]) Tryz.results48 (.cons (.tmp rfl) (.cons (.tmp rfl) .nil)) rfl, ?_⟩
  have he := split_out (s := s) (a := a) c5
  rw [he]
  obtain ⟨c', hst', htree'⟩ := RefT.close (s := s) ((((hst4.front 3 rfl rfl).front 3 rfl rfl).front 3 rfl rfl).front 3 rfl rfl) hL hX hRs hag hwf hS hrl
  exact ⟨_, _, _, rfl, hst'.keepN 1 rfl, c', rfl, rfl, htree'⟩
end Go.Fx.YtjpdhfhiimbpgaaGreatDoor
set_option linter.unusedSimpArgs false
set_option linter.unusedVariables false
set_option linter.unusedSectionVars false
namespace Go.Fx.YtjpdhfhiimbpgaaGreatDoor
open Go Go.Fx Go.Proofs
set_option maxRecDepth 20000
def zT : TS := ⟨[], [], []⟩
theorem zwf : WF zT where
  ok := AL.Ok.nil
  can := fun k hk => by cases hk
  ali := fun k hk => by cases hk
  root := fun r hr => by cases hr
  next := fun e he => by cases he
  key := fun e he => by cases he
theorem zsmall : Small zT.nodes where
  len := Nat.zero_le _
  names := fun k hk => by cases hk
  ali := fun k hk => by cases hk
  can := fun k hk => by cases hk
theorem Tree.zero {w0 w : World} {R0 R : Hp} {L0 Lr : List Hp} {p : Nat} (h : Step w0 R0 L0 w R (treeB p (.slice none 0 0) (.slice none 0 0) none :: Lr)) : ∃ c, Step w0 R0 L0 w R (c :: Lr) ∧ Tree R p zT c :=
  Tree.close (s := zT) (h.nothing.nothing.nothing.front 3 rfl rfl) (OwnL.empty _ _ _) (OwnL.empty _ _ _) (.inl ⟨rfl, rfl, rfl⟩) zwf zsmall (Nat.zero_le _) (fun _ => rfl)
end Go.Fx.YtjpdhfhiimbpgaaGreatDoor
set_option linter.unusedSimpArgs false
set_option linter.unusedVariables false
set_option linter.unusedSectionVars false
namespace Go.Fx.YtjpdhfhiimbpgaaGreatDoor
open Go Go.Fx Go.Proofs
set_option maxRecDepth 20000
theorem RefT.small {R c : Hp} {p : Nat} {s : TS} (h : RefT R p s c) : Small s.nodes := by
  obtain ⟨xs, vL, vR, cL, cX, cR, h1, h2, h3, h4, h5, h6, h7, h8, h9, h10, h11⟩ := h
  exact h10
theorem RefT.wf {R c : Hp} {p : Nat} {s : TS} (h : RefT R p s c) : WF s := by
  obtain ⟨xs, vL, vR, cL, cX, cR, h1, h2, h3, h4, h5, h6, h7, h8, h9, h10, h11⟩ := h
  exact h9
/-- The list of shapes is as long as there are shapes. -/
theorem RefT.head {R R' c : Hp} {p : Nat} {s : TS} (h : RefT R p s c) (k : Le c R') : ∃ a cap vR, Le (refB p (.slice a s.nodes.length cap) vR) R' := by
  obtain ⟨xs, vL, vR, cL, cX, cR, rfl, h2, h3, h4, h5, h6, h7, h8, h9, h10, h11⟩ := h
  obtain ⟨a, cap, e, _⟩ := h5.value
  rw [h8.len] at e
  subst e
  exact ⟨a, cap, vR, (uni_l _ _).trans k⟩
theorem Bd.next9 {s : TS} {b : Nat} (h : Bd s b) (hb : b ≤ 60) : s.next.length ≤ 900000 := by have := h.nlen; omega
theorem playK_end {n : Int} {acts : List Ac} {k : Nat} (h : k = min acts.length 60) : playK n acts k = played n acts := by rw [h]; rfl
end Go.Fx.YtjpdhfhiimbpgaaGreatDoor
set_option linter.unusedSimpArgs false
set_option linter.unusedVariables false
namespace Go.Fx.YtjpdhfhiimbpgaaGreatDoor
open Go Go.Fx Go.Proofs
set_option maxRecDepth 20000
theorem ent_47 : Ent Tryz.prog 47 := fun _ _ => by kernel_rfl
theorem ent_48 : Ent Tryz.prog 48 := fun _ _ => by kernel_rfl
theorem ent_49 : Ent Tryz.prog 49 := fun _ _ => by kernel_rfl
theorem ent_50 : Ent Tryz.prog 50 := fun _ _ => by kernel_rfl
set_option maxHeartbeats 1000000 in
theorem DoR_spec {w : World} {R c : Hp} {p : Nat} {s : TS} {n : Int} (a : Ac) (hs : Sats w R [c]) (htree : RefT R p s c) (hmx : s.nodes.length ≤ 900000) (hnx : s.next.length ≤ 900000) (hco : Core n s) :
    Calls Tryz.prog 18 #[ptr p 0, .agg #[int a.what, int a.x, int a.y, int a.nm]] w (Comes' w R [c] fun v' R' L' => ∃ c', v' = .tuple #[int (s.act a s.nodes.length).1, int (s.act a s.nodes.length).2.1] ∧ L' = [c'] ∧ RefT R' p (s.act a s.nodes.length).2.2 c') := by
 have hst := Step.refl hs
 refine calls_of_W (n := 79) Tryz.func18 rfl Tryz.ntmps18 (Nat.le_of_ble_eq_true rfl) ?_
 refine W_seq ?_
 refine W_region_lit ?_
 refine L_new hst (v := fun b => ptr b 0) (ob := .cells #[(int a.what), (int a.x), (int a.y), (int a.nm)] 35 (0, 0)) rfl rfl rfl (by kernel_rfl) (fun b1 w2 hst3 => ?_)
 refine Lq (int 0) rfl rfl rfl rfl ?_
 refine Lq (int 0) rfl rfl rfl rfl ?_
 refine L_nil ?_
 refine W_seq ?_
 refine W_region_lit ?_
 refine Lq (ptr p 0) rfl rfl rfl rfl ?_
 refine Lq (ptr p 0) rfl rfl rfl rfl ?_
 refine Lq (ptr p 0) rfl rfl rfl (by kernel_rfl) ?_
 obtain ⟨a4, cap5, vR6, hhd7⟩ := RefT.head htree (hst3.g 1)
 refine Lq (.slice a4 s.nodes.length cap5) rfl rfl rfl (x_load rfl rfl (run_loadVar_one ti_70 (hhd7 _ _ (one_self _ _)) rfl)) ?_
 refine Lq (int (s.nodes.length : Int)) rfl rfl rfl (x_len_slice rfl sl_70 rfl) ?_
 refine Lq (int ((s.nodes.length + 1 : Nat) : Int)) rfl rfl rfl (x_add_nat rfl rfl rfl (by omega)) ?_
 refine Lq (int ((s.nodes.length + 1 : Nat) : Int)) rfl rfl rfl rfl ?_
 refine L_nil ?_
 refine W_seq ?_
 refine W_region_draw [] (fun w => Le R (hp w) ∧ Le (one b1 (.cells #[(int a.what), (int a.x), (int a.y), (int a.nm)] 35 (0, 0))) (hp w) ∧ Le c (hp w)) hmix (by decide +kernel) (fun _ _ h => h) ?_
 have hst9 := hst3.draws (w2.drawn + 1)
 generalize draws w2 (w2.drawn + 1) = w8 at hst9 ⊢
 refine LP (ptr b1 1) 0 rfl rfl rfl (fun u11 => (by kernel_rfl)) hst9.a2 ?_
 refine LT (int a.x) 1 rfl rfl rfl (fun u14 hF15 => (x_load rfl rfl (run_loadVar_one ti_3 (hF15.2.1 _ _ (one_self _ _)) rfl))) hst9.a2 ?_
 refine LP (int ((s.nodes.length + 1 : Nat) : Int)) 2 rfl rfl rfl (fun u17 => rfl) hst9.a2 ?_
 have hb22 := tmod_bd a.x (m := ((s.nodes.length + 1 : Nat) : Int)) (by omega)
 refine LP (int (Int.tmod a.x ((s.nodes.length + 1 : Nat) : Int))) 3 rfl rfl rfl (fun u20 => (x_rem rfl rfl rfl (by omega))) hst9.a2 ?_
 refine LP (int ((s.nodes.length + 1 : Nat) : Int)) 4 rfl rfl rfl (fun u24 => rfl) hst9.a2 ?_
 refine LP (int (Int.tmod a.x ((s.nodes.length + 1 : Nat) : Int) + ((s.nodes.length + 1 : Nat) : Int))) 5 rfl rfl rfl (fun u27 => (x_add rfl rfl rfl (by constructor <;> omega))) hst9.a2 ?_
 refine LP (int ((s.nodes.length + 1 : Nat) : Int)) 6 rfl rfl rfl (fun u30 => rfl) hst9.a2 ?_
 have hb35 := kN_lt a.x (m := ((s.nodes.length + 1 : Nat) : Int)) (by omega)
 refine LP (int (((kN ((s.nodes.length + 1 : Nat) : Int) a.x) : Nat) : Int)) 7 rfl rfl rfl (fun u33 => (x_kN rfl rfl rfl (by omega))) hst9.a2 ?_
 refine LP (int ((((kN ((s.nodes.length + 1 : Nat) : Int) a.x) : Nat) : Int) - 1)) 8 rfl rfl rfl (fun u37 => (x_sub rfl rfl rfl (by constructor <;> omega))) hst9.a2 ?_
 refine LP (ptr b1 2) 9 rfl rfl rfl (fun u40 => (by kernel_rfl)) hst9.a2 ?_
 refine LT (int a.y) 10 rfl rfl rfl (fun u43 hF44 => (x_load rfl rfl (run_loadVar_one ti_3 (hF44.2.1 _ _ (one_self _ _)) rfl))) hst9.a2 ?_
 have hb48 := and1_bd a.y
 refine LP (int (and1 a.y)) 11 rfl rfl rfl (fun u46 => (x_and1 rfl rfl rfl)) hst9.a2 ?_
 refine LP (int ((((kN ((s.nodes.length + 1 : Nat) : Int) a.x) : Nat) : Int) - 1 + and1 a.y)) 12 rfl rfl rfl (fun u50 => (x_add rfl rfl rfl (by constructor <;> omega))) hst9.a2 ?_
 refine LP (int ((((kN ((s.nodes.length + 1 : Nat) : Int) a.x) : Nat) : Int) - 1 + and1 a.y)) 13 rfl rfl rfl (fun u53 => rfl) hst9.a2 ?_
 refine LA_done (by decide +kernel) ?_
 refine W_seq ?_
 refine W_region_draw [] (fun w => Le R (hp w) ∧ Le (one b1 (.cells #[(int a.what), (int a.x), (int a.y), (int a.nm)] 35 (0, 0))) (hp w) ∧ Le c (hp w)) hmix (by decide +kernel) (fun _ _ h => h) ?_
 have hst56 := hst9.draws (w8.drawn + 1)
 generalize draws w8 (w8.drawn + 1) = w55 at hst56 ⊢
 refine LP (ptr b1 2) 0 rfl rfl rfl (fun u58 => (by kernel_rfl)) hst56.a2 ?_
 refine LT (int a.y) 1 rfl rfl rfl (fun u61 hF62 => (x_load rfl rfl (run_loadVar_one ti_3 (hF62.2.1 _ _ (one_self _ _)) rfl))) hst56.a2 ?_
 refine LP (int ((s.nodes.length + 1 : Nat) : Int)) 2 rfl rfl rfl (fun u64 => rfl) hst56.a2 ?_
 have hb69 := tmod_bd a.y (m := ((s.nodes.length + 1 : Nat) : Int)) (by omega)
 refine LP (int (Int.tmod a.y ((s.nodes.length + 1 : Nat) : Int))) 3 rfl rfl rfl (fun u67 => (x_rem rfl rfl rfl (by omega))) hst56.a2 ?_
 refine LP (int ((s.nodes.length + 1 : Nat) : Int)) 4 rfl rfl rfl (fun u71 => rfl) hst56.a2 ?_
 refine LP (int (Int.tmod a.y ((s.nodes.length + 1 : Nat) : Int) + ((s.nodes.length + 1 : Nat) : Int))) 5 rfl rfl rfl (fun u74 => (x_add rfl rfl rfl (by constructor <;> omega))) hst56.a2 ?_
 refine LP (int ((s.nodes.length + 1 : Nat) : Int)) 6 rfl rfl rfl (fun u77 => rfl) hst56.a2 ?_
 have hb82 := kN_lt a.y (m := ((s.nodes.length + 1 : Nat) : Int)) (by omega)
 refine LP (int (((kN ((s.nodes.length + 1 : Nat) : Int) a.y) : Nat) : Int)) 7 rfl rfl rfl (fun u80 => (x_kN rfl rfl rfl (by omega))) hst56.a2 ?_
 refine LP (int ((((kN ((s.nodes.length + 1 : Nat) : Int) a.y) : Nat) : Int) - 1)) 8 rfl rfl rfl (fun u84 => (x_sub rfl rfl rfl (by constructor <;> omega))) hst56.a2 ?_
 refine LP (ptr b1 1) 9 rfl rfl rfl (fun u87 => (by kernel_rfl)) hst56.a2 ?_
 refine LT (int a.x) 10 rfl rfl rfl (fun u90 hF91 => (x_load rfl rfl (run_loadVar_one ti_3 (hF91.2.1 _ _ (one_self _ _)) rfl))) hst56.a2 ?_
 have hb95 := and1_bd a.x
 refine LP (int (and1 a.x)) 11 rfl rfl rfl (fun u93 => (x_and1 rfl rfl rfl)) hst56.a2 ?_
 refine LP (int ((((kN ((s.nodes.length + 1 : Nat) : Int) a.y) : Nat) : Int) - 1 + and1 a.x)) 12 rfl rfl rfl (fun u97 => (x_add rfl rfl rfl (by constructor <;> omega))) hst56.a2 ?_
 refine LP (int ((((kN ((s.nodes.length + 1 : Nat) : Int) a.y) : Nat) : Int) - 1 + and1 a.x)) 13 rfl rfl rfl (fun u100 => rfl) hst56.a2 ?_
 refine LA_done (by decide +kernel) ?_
 refine W_seq ?_
 refine W_seq ?_
 refine W_region_lit ?_
 refine Lq (ptr b1 0) rfl rfl rfl (by kernel_rfl) ?_
 refine Lq (int a.what) rfl rfl rfl (x_load rfl rfl (run_loadVar_one ti_3 (hst56.b 0) rfl)) ?_
 have hb102 := tmod_bd a.what (m := 7) (by omega)
 refine Lq (int (Int.tmod a.what 7)) rfl rfl rfl (x_rem rfl rfl rfl (by omega)) ?_
 refine Lq (int (Int.tmod a.what 7 + 7)) rfl rfl rfl (x_add rfl rfl rfl (by constructor <;> omega)) ?_
 have hb103 := kN_lt a.what (m := 7) (by omega)
 refine Lq (int (((kN 7 a.what) : Nat) : Int)) rfl rfl rfl (x_kN rfl rfl rfl (by omega)) ?_
 refine L_nil ?_
 refine W_block ?_
 refine W_seq ?_
 refine W_region_lit ?_
 refine Lq (.bool ((((kN 7 a.what) : Nat) : Int) == 4)) rfl rfl rfl (by kernel_rfl) ?_
 refine Lq (.bool ((((kN 7 a.what) : Nat) : Int) == 4)) rfl rfl rfl rfl ?_
 refine L_nil ?_
 rcases Bool.eq_false_or_eq_true ((((kN 7 a.what) : Nat) : Int) == 4) with c104 | c104
 ·
  have q105 := eq_of_beq c104
  refine W_cond_true (by show Value.bool _ = _; exact congrArg Value.bool c104) ?_
  refine W_seq ?_
  refine W_region_lit ?_
  refine Lq (ptr p 0) rfl rfl rfl rfl ?_
  refine Lq (int ((((kN ((s.nodes.length + 1 : Nat) : Int) a.x) : Nat) : Int) - 1 + and1 a.y)) rfl rfl rfl rfl ?_
  refine Lq (int ((((kN ((s.nodes.length + 1 : Nat) : Int) a.y) : Nat) : Int) - 1 + and1 a.x)) rfl rfl rfl rfl ?_
  have hst106 := (hst56.front 1 rfl rfl)
  refine L_callS [c] [one b1 (.cells #[(int a.what), (int a.x), (int a.y), (int a.nm)] 35 (0, 0))] hst106 rfl rfl rfl (x_call (vs := #[(ptr p 0), (int ((((kN ((s.nodes.length + 1 : Nat) : Int) a.x) : Nat) : Int) - 1 + and1 a.y)), (int ((((kN ((s.nodes.length + 1 : Nat) : Int) a.y) : Nat) : Int) - 1 + and1 a.x))]) rfl rfl (by kernel_rfl) ent_47) (MergeR_spec ((((kN ((s.nodes.length + 1 : Nat) : Int) a.x) : Nat) : Int) - 1 + and1 a.y) ((((kN ((s.nodes.length + 1 : Nat) : Int) a.y) : Nat) : Int) - 1 + and1 a.x) (hst106.sats.take 1 rfl) htree) (fun v107 w108 R109 L110 hp111 hle112 hst113 => ?_)
  obtain ⟨c114, rfl, rfl, htr115⟩ := hp111
  refine Lq (int 0) rfl rfl rfl rfl ?_
  refine Lq (int ((s.merge ((((kN ((s.nodes.length + 1 : Nat) : Int) a.x) : Nat) : Int) - 1 + and1 a.y) ((((kN ((s.nodes.length + 1 : Nat) : Int) a.y) : Nat) : Int) - 1 + and1 a.x)).1)) rfl rfl rfl rfl ?_
  refine L_nil ?_
  refine W_ret ?_
  refine ⟨_, _, res_run (rs := [.tmp 4, .tmp 5]) (vs := [(int 0), (int ((s.merge ((((kN ((s.nodes.length + 1 : Nat) : Int) a.x) : Nat) : Int) - 1 + and1 a.y) ((((kN ((s.nodes.length + 1 : Nat) : Int) a.y) : Nat) : Int) - 1 + and1 a.x)).1))]) Tryz.results18 (.cons (.tmp rfl) (.cons (.tmp rfl) .nil)) rfl, ?_⟩
  have he := act_merge (s := s) (a := a) (n := s.nodes.length) (eq_of_beq c104)
  rw [he]
  exact ⟨_, _, _, rfl, (hst113).keepN 1 rfl, _, rfl, rfl, htr115⟩
 ·
  have q116 := ne_of_beq_false c104
  refine W_cond_false (by show Value.bool _ = _; exact congrArg Value.bool c104) ?_
  refine W_seq ?_
  refine W_region_lit ?_
  refine Lq (.bool ((((kN 7 a.what) : Nat) : Int) == 5)) rfl rfl rfl (by kernel_rfl) ?_
  refine Lq (.bool ((((kN 7 a.what) : Nat) : Int) == 5)) rfl rfl rfl rfl ?_
  refine L_nil ?_
  rcases Bool.eq_false_or_eq_true ((((kN 7 a.what) : Nat) : Int) == 5) with c117 | c117
  ·
   have q118 := eq_of_beq c117
   refine W_cond_true (by show Value.bool _ = _; exact congrArg Value.bool c117) ?_
   refine W_seq ?_
   refine W_region_lit ?_
   refine Lq (ptr p 0) rfl rfl rfl rfl ?_
   refine Lq (int ((((kN ((s.nodes.length + 1 : Nat) : Int) a.x) : Nat) : Int) - 1 + and1 a.y)) rfl rfl rfl rfl ?_
   have hst119 := (hst56.front 1 rfl rfl)
   refine L_callS [c] [one b1 (.cells #[(int a.what), (int a.x), (int a.y), (int a.nm)] 35 (0, 0))] hst119 rfl rfl rfl (x_call (vs := #[(ptr p 0), (int ((((kN ((s.nodes.length + 1 : Nat) : Int) a.x) : Nat) : Int) - 1 + and1 a.y))]) rfl rfl (by kernel_rfl) ent_48) (SplitR_spec ((((kN ((s.nodes.length + 1 : Nat) : Int) a.x) : Nat) : Int) - 1 + and1 a.y) (hst119.sats.take 1 rfl) htree hmx hnx hco) (fun v120 w121 R122 L123 hp124 hle125 hst126 => ?_)
   obtain ⟨c127, rfl, rfl, htr128⟩ := hp124
   refine Lq (int ((s.split ((((kN ((s.nodes.length + 1 : Nat) : Int) a.x) : Nat) : Int) - 1 + and1 a.y)).1)) rfl rfl rfl (by kernel_rfl) ?_
   refine Lq (int ((s.split ((((kN ((s.nodes.length + 1 : Nat) : Int) a.x) : Nat) : Int) - 1 + and1 a.y)).2.1)) rfl rfl rfl (by kernel_rfl) ?_
   refine Lq (int ((s.split ((((kN ((s.nodes.length + 1 : Nat) : Int) a.x) : Nat) : Int) - 1 + and1 a.y)).1)) rfl rfl rfl rfl ?_
   refine Lq (int ((s.split ((((kN ((s.nodes.length + 1 : Nat) : Int) a.x) : Nat) : Int) - 1 + and1 a.y)).2.1)) rfl rfl rfl rfl ?_
   refine L_nil ?_
   refine W_ret ?_
   refine ⟨_, _, res_run (rs := [.tmp 4, .tmp 5]) (vs := [(int ((s.split ((((kN ((s.nodes.length + 1 : Nat) : Int) a.x) : Nat) : Int) - 1 + and1 a.y)).1)), (int ((s.split ((((kN ((s.nodes.length + 1 : Nat) : Int) a.x) : Nat) : Int) - 1 + and1 a.y)).2.1))]) Tryz.results18 (.cons (.tmp rfl) (.cons (.tmp rfl) .nil)) rfl, ?_⟩
   have he := act_split (s := s) (a := a) (n := s.nodes.length) (ne_of_beq_false c104) (eq_of_beq c117)
   rw [he]
   exact ⟨_, _, _, rfl, (hst126).keepN 1 rfl, _, rfl, rfl, htr128⟩
  ·
   have q129 := ne_of_beq_false c117
   refine W_cond_false (by show Value.bool _ = _; exact congrArg Value.bool c117) ?_
   refine W_seq ?_
   refine W_region_lit ?_
   refine Lq (.bool ((((kN 7 a.what) : Nat) : Int) == 6)) rfl rfl rfl (by kernel_rfl) ?_
   refine Lq (.bool ((((kN 7 a.what) : Nat) : Int) == 6)) rfl rfl rfl rfl ?_
   refine L_nil ?_
   rcases Bool.eq_false_or_eq_true ((((kN 7 a.what) : Nat) : Int) == 6) with c130 | c130
   ·
    have q131 := eq_of_beq c130
    refine W_cond_true (by show Value.bool _ = _; exact congrArg Value.bool c130) ?_
    refine W_seq ?_
    refine W_region_draw [] (fun w => Le R (hp w) ∧ Le (one b1 (.cells #[(int a.what), (int a.x), (int a.y), (int a.nm)] 35 (0, 0))) (hp w)) hmix (by decide +kernel) (fun _ _ h => h) ?_
    have hst133 := hst56.draws (w55.drawn + 1)
    generalize draws w55 (w55.drawn + 1) = w132 at hst133 ⊢
    refine LP (ptr p 0) 0 rfl rfl rfl (fun u135 => rfl) ⟨hst133.rle', hst133.g 0⟩ ?_
    refine LP (ptr b1 2) 1 rfl rfl rfl (fun u138 => (by kernel_rfl)) ⟨hst133.rle', hst133.g 0⟩ ?_
    refine LT (int a.y) 2 rfl rfl rfl (fun u141 hF142 => (x_load rfl rfl (run_loadVar_one ti_3 (hF142.2 _ _ (one_self _ _)) rfl))) ⟨hst133.rle', hst133.g 0⟩ ?_
    have hb146 := tmod_bd a.y (m := 3) (by omega)
    refine LP (int (Int.tmod a.y 3)) 3 rfl rfl rfl (fun u144 => (x_rem rfl rfl rfl (by omega))) ⟨hst133.rle', hst133.g 0⟩ ?_
    refine LP (ptr b1 1) 4 rfl rfl rfl (fun u148 => (by kernel_rfl)) ⟨hst133.rle', hst133.g 0⟩ ?_
    refine LT (int a.x) 5 rfl rfl rfl (fun u151 hF152 => (x_load rfl rfl (run_loadVar_one ti_3 (hF152.2 _ _ (one_self _ _)) rfl))) ⟨hst133.rle', hst133.g 0⟩ ?_
    refine LA_all [6] (by decide +kernel) (by simp) ?_
    intro i_ hi_
    simp only [List.mem_cons, List.not_mem_nil, or_false] at hi_
    subst hi_
    have hst156 := hst133
    refine One_callS (i := 6) [] [one b1 (.cells #[(int a.what), (int a.x), (int a.y), (int a.nm)] 35 (0, 0)), c] hst156 rfl rfl rfl (Want.plain rfl) (x_call (vs := #[(int a.x)]) rfl rfl (by kernel_rfl) ent_46) (Some_spec a.x (hst156.sats.take 0 rfl)) (fun v157 w158 R159 L160 hp161 hle162 hst163 => ?_)
    have hm164 := RefT.lift htree hle162
    obtain ⟨c165, rfl, ho166⟩ := hp161
    refine ⟨(fun _ => ⟨(Le.trans hle162 hst163.rle'), hst163.g 1⟩), ?_⟩
    refine LA_all [7] (by decide +kernel) (by simp) ?_
    intro i_ hi_
    simp only [List.mem_cons, List.not_mem_nil, or_false] at hi_
    subst hi_
    obtain ⟨R170, hst171, hle172, hc173⟩ := Step.frz hst163
    have hm174 := RefT.lift hm164 hle172
    have hrd175 := OwnL.freeze ho166 hle172 hc173
    have hst176 := (hst171.front 1 rfl rfl)
    refine One_callS (i := 7) [c] [one b1 (.cells #[(int a.what), (int a.x), (int a.y), (int a.nm)] 35 (0, 0))] hst176 rfl rfl rfl (Want.plain rfl) (x_call (vs := #[(ptr p 0), (int (Int.tmod a.y 3)), v157]) rfl rfl (by kernel_rfl) ent_49) (MakeR_spec (v := v157) (Int.tmod a.y 3) (someL a.x) (hst176.sats.take 1 rfl) hm174 hrd175 (by have h_ := someL_len a.x; omega) hmx) (fun v177 w178 R179 L180 hp181 hle182 hst183 => ?_)
    obtain ⟨c184, rfl, rfl, htr185⟩ := hp181
    refine ⟨(fun _ => ⟨(Le.trans hle162 (Le.trans hle172 (Le.trans hle182 hst183.rle'))), hst183.g 1⟩), ?_⟩
    refine LP (int ((s.make (Int.tmod a.y 3) (someL a.x)).1)) 8 rfl rfl rfl (fun u187 => (by kernel_rfl)) ⟨(Le.trans hle162 (Le.trans hle172 (Le.trans hle182 hst183.rle'))), hst183.g 1⟩ ?_
    refine LP (int ((s.make (Int.tmod a.y 3) (someL a.x)).2.1)) 9 rfl rfl rfl (fun u190 => (by kernel_rfl)) ⟨(Le.trans hle162 (Le.trans hle172 (Le.trans hle182 hst183.rle'))), hst183.g 1⟩ ?_
    refine LP (int ((s.make (Int.tmod a.y 3) (someL a.x)).1)) 10 rfl rfl rfl (fun u193 => rfl) ⟨(Le.trans hle162 (Le.trans hle172 (Le.trans hle182 hst183.rle'))), hst183.g 1⟩ ?_
    refine LP (int ((s.make (Int.tmod a.y 3) (someL a.x)).2.1)) 11 rfl rfl rfl (fun u196 => rfl) ⟨(Le.trans hle162 (Le.trans hle172 (Le.trans hle182 hst183.rle'))), hst183.g 1⟩ ?_
    refine LA_done (by decide +kernel) ?_
    refine W_ret ?_
    refine ⟨_, _, res_run (rs := [.tmp 4, .tmp 5]) (vs := [(int ((s.make (Int.tmod a.y 3) (someL a.x)).1)), (int ((s.make (Int.tmod a.y 3) (someL a.x)).2.1))]) Tryz.results18 (.cons (.tmp rfl) (.cons (.tmp rfl) .nil)) rfl, ?_⟩
    have he := act_make (s := s) (a := a) (n := s.nodes.length) (ne_of_beq_false c104) (ne_of_beq_false c117) (eq_of_beq c130)
    rw [he]
    exact ⟨_, _, _, rfl, (hst183).keepN 1 rfl, _, rfl, rfl, htr185⟩
   ·
    have q198 := ne_of_beq_false c130
    refine W_cond_false (by show Value.bool _ = _; exact congrArg Value.bool c130) ?_
    refine W_skip ?_
    refine W_seq ?_
    refine W_region_lit ?_
    refine Lq (ptr p 0) rfl rfl rfl rfl ?_
    refine Lq (int ((((kN ((s.nodes.length + 1 : Nat) : Int) a.x) : Nat) : Int) - 1 + and1 a.y)) rfl rfl rfl rfl ?_
    refine Lq (ptr b1 3) rfl rfl rfl (by kernel_rfl) ?_
    refine Lq (int a.nm) rfl rfl rfl (x_load rfl rfl (run_loadVar_one ti_3 (hst56.b 0) rfl)) ?_
    refine L_callG hst56 (v := (.string (nameOf a.nm))) rfl rfl rfl (x_call (vs := #[(int a.nm)]) rfl rfl (by kernel_rfl) ent_31) (Name_spec a.nm) (fun w199 hst200 => ?_)
    have hst201 := (hst200.front 1 rfl rfl)
    refine L_callS [c] [one b1 (.cells #[(int a.what), (int a.x), (int a.y), (int a.nm)] 35 (0, 0))] hst201 rfl rfl rfl (x_call (vs := #[(ptr p 0), (int ((((kN ((s.nodes.length + 1 : Nat) : Int) a.x) : Nat) : Int) - 1 + and1 a.y)), (.string (nameOf a.nm))]) rfl rfl (by kernel_rfl) ent_50) (AddR_spec ((((kN ((s.nodes.length + 1 : Nat) : Int) a.x) : Nat) : Int) - 1 + and1 a.y) (nameOf a.nm) (hst201.sats.take 1 rfl) htree hmx hnx hco.ali) (fun v202 w203 R204 L205 hp206 hle207 hst208 => ?_)
    obtain ⟨c209, rfl, rfl, htr210⟩ := hp206
    refine Lq (int ((s.add ((((kN ((s.nodes.length + 1 : Nat) : Int) a.x) : Nat) : Int) - 1 + and1 a.y) (nameOf a.nm)).1)) rfl rfl rfl (by kernel_rfl) ?_
    refine Lq (int ((s.add ((((kN ((s.nodes.length + 1 : Nat) : Int) a.x) : Nat) : Int) - 1 + and1 a.y) (nameOf a.nm)).2.1)) rfl rfl rfl (by kernel_rfl) ?_
    refine Lq (int ((s.add ((((kN ((s.nodes.length + 1 : Nat) : Int) a.x) : Nat) : Int) - 1 + and1 a.y) (nameOf a.nm)).1)) rfl rfl rfl rfl ?_
    refine Lq (int ((s.add ((((kN ((s.nodes.length + 1 : Nat) : Int) a.x) : Nat) : Int) - 1 + and1 a.y) (nameOf a.nm)).2.1)) rfl rfl rfl rfl ?_
    refine L_nil ?_
    refine W_ret ?_
    refine ⟨_, _, res_run (rs := [.tmp 4, .tmp 5]) (vs := [(int ((s.add ((((kN ((s.nodes.length + 1 : Nat) : Int) a.x) : Nat) : Int) - 1 + and1 a.y) (nameOf a.nm)).1)), (int ((s.add ((((kN ((s.nodes.length + 1 : Nat) : Int) a.x) : Nat) : Int) - 1 + and1 a.y) (nameOf a.nm)).2.1))]) Tryz.results18 (.cons (.tmp rfl) (.cons (.tmp rfl) .nil)) rfl, ?_⟩
    have he := act_add (s := s) (a := a) (n := s.nodes.length) (ne_of_beq_false c104) (ne_of_beq_false c117) (ne_of_beq_false c130)
    rw [he]
    exact ⟨_, _, _, rfl, (hst208).keepN 1 rfl, _, rfl, rfl, htr210⟩
end Go.Fx.YtjpdhfhiimbpgaaGreatDoor
set_option linter.unusedSimpArgs false
set_option linter.unusedVariables false
namespace Go.Fx.YtjpdhfhiimbpgaaGreatDoor
open Go Go.Fx Go.Proofs
set_option maxRecDepth 20000
theorem ent_13 : Ent Tryz.prog 13 := fun _ _ => by kernel_rfl
theorem ent_17 : Ent Tryz.prog 17 := fun _ _ => by kernel_rfl
theorem ent_18 : Ent Tryz.prog 18 := fun _ _ => by kernel_rfl
end Go.Fx.YtjpdhfhiimbpgaaGreatDoor
set_option linter.unusedSimpArgs false
set_option linter.unusedVariables false
namespace Go.Fx.YtjpdhfhiimbpgaaGreatDoor
open Go Go.Fx Go.Proofs
set_option maxRecDepth 20000
theorem ent_36 : Ent Tryz.prog 36 := fun _ _ => by kernel_rfl
set_option maxHeartbeats 2000000 in
theorem Looks_spec {w : World} {R : Hp} {v : Value} (n : Int) (acts : List Ac) (xa ya za : Int) (hs : Sats w R []) (hv : RdS tyAc R v acts) :
    Calls Tryz.prog 7 #[int n, v, .agg #[int xa, int ya, int za]] w (Comes' w R [] fun v' R' L' => v' = .bool true ∧ L' = []) := by
 have hst := Step.refl hs
 refine calls_of_W (n := 178) Tryz.func7 rfl Tryz.ntmps7 (Nat.le_of_ble_eq_true rfl) ?_
 refine W_seq ?_
 refine W_region_lit ?_
 refine L_new hst (v := fun b => ptr b 0) (ob := .cells #[(int xa), (int ya), (int za)] 57 (0, 0)) rfl rfl rfl (by kernel_rfl) (fun b1 w2 hst3 => ?_)
 refine Lq (.bool false) rfl rfl rfl rfl ?_
 refine L_nil ?_
 refine W_seq ?_
 refine W_region_lit ?_
 refine L_callG hst3 (v := (.bool true)) rfl rfl rfl (x_call (vs := #[]) rfl rfl (by kernel_rfl) ent_10) sanity_spec (fun w4 hst5 => ?_)
 refine Lq (.bool true) rfl rfl rfl rfl ?_
 refine L_nil ?_
 refine W_seq ?_
 refine W_region_lit ?_
 refine Lq (int n) rfl rfl rfl rfl ?_
 refine Lq v rfl rfl rfl rfl ?_
 obtain ⟨a6, cap7, e8, hc9⟩ := hv.shape
 subst e8
 have hst10 := hst5
 refine L_callS [] [one b1 (.cells #[(int xa), (int ya), (int za)] 57 (0, 0))] hst10 rfl rfl rfl (x_call (vs := #[(int n), (.slice a6 acts.length cap7)]) rfl rfl (by kernel_rfl) ent_20) (played_spec (v := (.slice a6 acts.length cap7)) n acts (hst10.sats.take 0 rfl) (RdS.mono hv (Le.refl _))) (fun v11 w12 R13 L14 hp15 hle16 hst17 => ?_)
 obtain ⟨p18, c19, rfl, rfl, htr20⟩ := hp15
 have hwf := played_wf n acts
 have hcore := played_core n acts
 have hbd := played_bd n acts
 have hpos := played_pos n acts
 obtain ⟨s, hs_⟩ : ∃ s_, s_ = (played n acts) := ⟨_, rfl⟩
 rw [← hs_] at htr20 hwf hcore hbd hpos
 have hnl := hbd.len
 refine Lq (int n) rfl rfl rfl rfl ?_
 have hst21 := hst17
 refine L_callS [] [c19, one b1 (.cells #[(int xa), (int ya), (int za)] 57 (0, 0))] hst21 rfl rfl rfl (x_call (vs := #[(int n)]) rfl rfl (by kernel_rfl) ent_12) (Classes_spec n (hst21.sats.take 0 rfl)) (fun v22 w23 R24 L25 hp26 hle27 hst28 => ?_)
 have hm29 := Tree.lift htr20 hle27
 obtain ⟨rfl, hrd30⟩ := hp26
 have hcl31 : (clsOf n).length = 1 + kN 3 n := clsOf_len _
 have hcl32 := kN3 n
 have hfs : ∀ x ∈ clsOf n, x.fields.length ≤ 64 := fun x hx => Nat.le_trans (clsOf_mem hx).1 (by decide)
 obtain ⟨a33, cap34, e35, hc36⟩ := hrd30.shape
 subst e35
 have hst37 := hst28
 refine L_callS [] [c19, one b1 (.cells #[(int xa), (int ya), (int za)] 57 (0, 0))] hst37 rfl rfl rfl (x_call (vs := #[(.slice a33 ((clsOf n).length) cap34)]) rfl rfl (by kernel_rfl) ent_13) (NewR_spec (v := (.slice a33 ((clsOf n).length) cap34)) (hst37.sats.take 0 rfl) (RdS.mono hrd30 (Le.refl _)) (by omega) (fun x_ hx_ => Nat.le_trans (clsOf_mem hx_).1 (by decide))) (fun v38 w39 R40 L41 hp42 hle43 hst44 => ?_)
 have hm45 := Tree.lift hm29 hle43
 obtain ⟨p46, c47, rfl, rfl, htr48⟩ := hp42
 refine Lq (ptr p18 0) rfl rfl rfl rfl ?_
 refine Lq (ptr p46 0) rfl rfl rfl rfl ?_
 refine L_nil ?_
 refine W_seq ?_
 refine W_seq ?_
 refine W_region_lit ?_
 refine Lq (ptr p18 0) rfl rfl rfl rfl ?_
 refine Lq (.bool false) rfl rfl rfl (by kernel_rfl) ?_
 refine L_nil ?_
 refine W_cond_false (by show Value.bool _ = _; exact congrArg Value.bool rfl) ?_
 refine W_skip ?_
 refine W_seq ?_
 refine W_seq ?_
 have htr49 : RefT R40 p46 (playK n acts 0) c47 := htr48
 refine W_region_lit ?_
 refine Lq (int 0) rfl rfl rfl rfl ?_
 refine L_nil ?_
 refine W_block ?_
 refine W_loop (I := fun σ w_ m_ => ∃ (σ0 : Fr) (R_ : Hp) (k_ : Nat) (cT : Hp) (cU : Hp), σ = upd (upd (upd (upd (upd (upd (upd (upd (upd (upd (upd (upd (upd (upd (upd (upd (upd (upd σ0 0 (int n)) 1 (.slice a6 acts.length cap7)) 2 (.agg #[(int xa), (int ya), (int za)])) 5 (ptr b1 0)) 6 (.bool false)) 7 (.bool true)) 8 (ptr p18 0)) 9 (ptr p46 0)) 10 (int (k_ : Int))) 20 (.bool true)) 21 (int n)) 22 (.slice a6 acts.length cap7)) 23 (ptr p18 0)) 24 (int n)) 25 (.slice a33 ((clsOf n).length) cap34)) 26 (ptr p46 0)) 27 (ptr p18 0)) 28 (.bool false) ∧ mks (σ0 0) = [] ∧ Step w R [] w_ R_ [cT, cU, one b1 (.cells #[(int xa), (int ya), (int za)] 57 (0, 0))] ∧ Le R40 R_ ∧ Tree R_ p18 s cT ∧ RefT R_ p46 (playK n acts k_) cU ∧ k_ ≤ acts.length ∧ k_ ≤ 60 ∧ m_ = 60 - k_) (m := 60 - 0) ?_ ?_
 ·
  exact ⟨_, _, 0, c19, c47, (upd_of (upd_of (upd_of (upd_of (upd_of (upd_of (upd_of (upd_of (upd_of (upd_of (upd_of (upd_of (upd_of (upd_of (upd_of (upd_of (upd_of (upd_of rfl rfl) rfl) rfl) rfl) rfl) rfl) rfl) rfl) rfl) rfl) rfl) rfl) rfl) rfl) rfl) rfl) rfl) rfl), rfl, (((hst44.front 2 rfl rfl).front 1 rfl rfl).front 2 rfl rfl), Le.refl _, hm45, htr49, (by omega), (by omega), rfl⟩
 ·
  rintro m63 σ_ w52 ⟨s58, R59, k_60, cT61, cU62, rfl, hmk50, hst51, hle53, hi54, hi55, hf56, hf57, rfl⟩
  have hpl := playK_len n acts k_60
  refine W_seq ?_
  refine W_seq ?_
  refine W_region_lit ?_
  refine Lq (int (k_60 : Int)) rfl rfl rfl rfl ?_
  refine Lq (.slice a6 acts.length cap7) rfl rfl rfl rfl ?_
  refine Lq (int (acts.length : Int)) rfl rfl rfl (x_len_slice rfl sl_22 rfl) ?_
  refine Lq (.bool (decide ((k_60 : Int) < (acts.length : Int)))) rfl rfl rfl (by kernel_rfl) ?_
  refine Lq (.bool (decide ((k_60 : Int) < (acts.length : Int)))) rfl rfl rfl rfl ?_
  rcases Bool.eq_false_or_eq_true (decide ((k_60 : Int) < (acts.length : Int))) with c64 | c64
  ·
   have q65 := of_decide_eq_true c64
   refine L_guard rfl rfl rfl rfl c64 ?_
   refine Lq (int (k_60 : Int)) rfl rfl rfl rfl ?_
   refine L_guard rfl rfl rfl rfl c64 ?_
   refine Lq (.bool (decide ((k_60 : Int) < 60))) rfl rfl rfl (by kernel_rfl) ?_
   refine Lq (.bool (decide ((k_60 : Int) < 60))) rfl rfl rfl (x_pick rfl rfl (by rw [c64]; rfl)) ?_
   refine L_nil ?_
   rcases Bool.eq_false_or_eq_true (decide ((k_60 : Int) < 60)) with c66 | c66
   ·
    have q67 := of_decide_eq_true c66
    refine W_cond_true (by show Value.bool _ = _; exact congrArg Value.bool c66) ?_
    refine W_skip ?_
    refine W_seq ?_
    refine W_block ?_
    refine W_region_lit ?_
    refine Lq (ptr p46 0) rfl rfl rfl rfl ?_
    refine Lq (.slice a6 acts.length cap7) rfl rfl rfl rfl ?_
    refine Lq (int (k_60 : Int)) rfl rfl rfl rfl ?_
    obtain ⟨b68, off69, cap70, cs71, T72, fz73, e74, hc75, hb76, he77⟩ := hv.open (by omega)
    cases e74
    obtain ⟨cl78, hs79, hr80⟩ := he77.at k_60 (by omega)
    have hx81 := tyAc_open hr80
    subst hx81
    refine Lq (ptr b68 (off69 + k_60 * 4)) rfl rfl rfl (x_indexAddr' rfl sl_22 ti_35 rfl rfl (by omega)) ?_
    refine Lq (.agg #[(int ((acts[k_60]'(by omega)).what)), (int ((acts[k_60]'(by omega)).x)), (int ((acts[k_60]'(by omega)).y)), (int ((acts[k_60]'(by omega)).nm))]) rfl rfl rfl (x_load rfl rfl (run_loadVar_agg ti_35 ((Le.trans hle16 (Le.trans hle27 (Le.trans hle43 (Le.trans hle53 hst51.rle')))) _ _ hb76) hs79 rfl)) ?_
    have hst82 := (hst51.front 1 rfl rfl)
    refine L_callS [cU62] [cT61, one b1 (.cells #[(int xa), (int ya), (int za)] 57 (0, 0))] hst82 rfl rfl rfl (x_call (vs := #[(ptr p46 0), (.agg #[(int ((acts[k_60]'(by omega)).what)), (int ((acts[k_60]'(by omega)).x)), (int ((acts[k_60]'(by omega)).y)), (int ((acts[k_60]'(by omega)).nm))])]) rfl rfl (by kernel_rfl) ent_18) (DoR_spec (n := n) (acts[k_60]'(by omega)) (hst82.sats.take 1 rfl) hi55 (by omega) ((playK_bd n acts k_60).next9 (by omega)) (playK_core n acts k_60)) (fun v83 w84 R85 L86 hp87 hle88 hst89 => ?_)
    have hm90 := Tree.lift hi54 hle88
    obtain ⟨c91, rfl, rfl, htr92⟩ := hp87
    refine L_nil ?_
    refine W_region_lit ?_
    refine Lq (int (k_60 : Int)) rfl rfl rfl rfl ?_
    refine Lq (int ((k_60 + 1 : Nat) : Int)) rfl rfl rfl (x_add_nat rfl rfl rfl (by omega)) ?_
    refine Lq (int ((k_60 + 1 : Nat) : Int)) rfl rfl rfl rfl ?_
    refine L_nil ?_
    refine ⟨60 - (k_60 + 1), by first | omega | (simp only [List.length_append, List.length_cons, List.length_nil]; omega), ?_⟩
    exact ⟨_, _, (k_60 + 1), cT61, c91, (upd_of (upd_of (upd_of (upd_of (upd_of (upd_of (upd_of (upd_of (upd_of (upd_of (upd_of (upd_of (upd_of (upd_of (upd_of (upd_of (upd_of (upd_of rfl rfl) rfl) rfl) rfl) rfl) rfl) rfl) rfl) rfl) rfl) rfl) rfl) rfl) rfl) rfl) rfl) rfl) rfl), hmk50, (((hst89.front 2 rfl rfl).front 1 rfl rfl).front 2 rfl rfl), (Le.trans hle53 hle88), hm90, (by rw [playK_succ (by omega)]; exact htr92), (by omega), (by omega), rfl⟩
   ·
    have q93 := of_decide_eq_false c66
    refine W_cond_false (by show Value.bool _ = _; exact congrArg Value.bool c66) ?_
    refine W_exit ?_
    refine W_seq ?_
    refine W_seq ?_
    have hpe : playK n acts k_60 = s := by rw [hs_]; exact playK_end (by omega)
    rw [hpe] at hi55
    refine W_region_lit ?_
    refine Lq (int (-1)) rfl rfl rfl rfl ?_
    refine L_nil ?_
    refine W_block ?_
    refine W_loop (I := fun σ w_ m_ => ∃ (σ0 : Fr) (R_ : Hp) (z_ : Int) (cT : Hp) (cU : Hp), σ = upd (upd (upd (upd (upd (upd (upd (upd (upd (upd (upd (upd (upd (upd (upd (upd (upd (upd (upd (upd (upd (upd (upd (upd (upd (upd σ0 0 (int n)) 1 (.slice a6 acts.length cap7)) 2 (.agg #[(int xa), (int ya), (int za)])) 5 (ptr b1 0)) 7 (.bool true)) 8 (ptr p18 0)) 9 (ptr p46 0)) 10 (int (k_60 : Int))) 11 (int z_)) 20 (.bool true)) 21 (int n)) 22 (.slice a6 acts.length cap7)) 23 (ptr p18 0)) 24 (int n)) 25 (.slice a33 ((clsOf n).length) cap34)) 26 (ptr p46 0)) 27 (ptr p18 0)) 28 (.bool false)) 29 (int (k_60 : Int))) 30 (.slice a6 acts.length cap7)) 31 (int (acts.length : Int))) 32 (.bool (decide ((k_60 : Int) < (acts.length : Int))))) 33 (.bool (decide ((k_60 : Int) < (acts.length : Int))))) 34 (int (k_60 : Int))) 35 (.bool (decide ((k_60 : Int) < 60)))) 36 (.bool (decide ((k_60 : Int) < 60))) ∧ mks (σ0 0) = [] ∧ Step w R [] w_ R_ [cT, cU, one b1 (.cells #[(int xa), (int ya), (int za)] 57 (0, 0))] ∧ Le R59 R_ ∧ Tree R_ p18 s cT ∧ RefT R_ p46 s cU ∧ -1 ≤ z_ ∧ z_ ≤ (s.nodes.length : Int) + 1 ∧ m_ = ((s.nodes.length : Int) + 2 - z_).toNat) (m := ((s.nodes.length : Int) + 2 - (-1)).toNat) ?_ ?_
    ·
     exact ⟨_, _, (-1), cT61, cU62, (upd_of (upd_of (upd_of (upd_of (upd_of (upd_of (upd_of (upd_of (upd_of (upd_of (upd_of (upd_of (upd_of (upd_of (upd_of (upd_of (upd_of (upd_of (upd_of (upd_of (upd_of (upd_of (upd_of (upd_of (upd_of (upd_of rfl rfl) rfl) rfl) rfl) rfl) rfl) rfl) rfl) rfl) rfl) rfl) rfl) rfl) rfl) rfl) rfl) rfl) rfl) rfl) rfl) rfl) rfl) rfl) rfl) rfl) rfl), hmk50, (((hst51.front 2 rfl rfl).front 2 rfl rfl).front 2 rfl rfl), Le.refl _, hi54, hi55, (by omega), (by omega), rfl⟩
    ·
     rintro m107 σ_ w96 ⟨s102, R103, z_104, cT105, cU106, rfl, hmk94, hst95, hle97, hi98, hi99, hf100, hf101, rfl⟩
     refine W_seq ?_
     refine W_seq ?_
     refine W_region_lit ?_
     refine Lq (int z_104) rfl rfl rfl rfl ?_
     refine Lq (ptr p46 0) rfl rfl rfl rfl ?_
     refine L_callG hst95 (v := (int (s.nodes.length : Int))) rfl rfl rfl (x_call (vs := #[(ptr p46 0)]) rfl rfl (by kernel_rfl) ent_17) (by have h_ := (CountR_spec (RefT.view hi99 (hst95.g 1) hst95.rle') (Le.refl _)); rw [nds_shs] at h_; exact h_) (fun w108 hst109 => ?_)
     refine Lq (.bool (decide (z_104 ≤ (s.nodes.length : Int)))) rfl rfl rfl (by kernel_rfl) ?_
     refine L_nil ?_
     rcases Bool.eq_false_or_eq_true (decide (z_104 ≤ (s.nodes.length : Int))) with c110 | c110
     ·
      have q111 := of_decide_eq_true c110
      refine W_cond_true (by show Value.bool _ = _; exact congrArg Value.bool c110) ?_
      refine W_skip ?_
      refine W_seq ?_
      refine W_block ?_
      refine W_seq ?_
      refine W_region_lit ?_
      refine Lq (ptr p18 0) rfl rfl rfl rfl ?_
      refine Lq (int z_104) rfl rfl rfl rfl ?_
      refine Lq (ptr b1 2) rfl rfl rfl (by kernel_rfl) ?_
      refine Lq (int za) rfl rfl rfl (x_load rfl rfl (run_loadVar_one ti_3 (hst109.b 2) rfl)) ?_
      refine L_callG hst109 (v := (.string (nameOf za))) rfl rfl rfl (x_call (vs := #[(int za)]) rfl rfl (by kernel_rfl) ent_31) (Name_spec za) (fun w112 hst113 => ?_)
      refine L_callG hst113 (v := (.tuple #[(int ((slotL s.nodes z_104 (nameOf za)).1)), (.bool ((slotL s.nodes z_104 (nameOf za)).2))])) rfl rfl rfl (x_call (vs := #[(ptr p18 0), (int z_104), (.string (nameOf za))]) rfl rfl (by kernel_rfl) ent_30) (Slot_spec z_104 (nameOf za) (Tree.view hi98 (hst113.g 0) hst113.rle') (Le.refl _)) (fun w114 hst115 => ?_)
      refine Lq (.tuple #[(int ((slotL s.nodes z_104 (nameOf za)).1)), (.bool ((slotL s.nodes z_104 (nameOf za)).2))]) rfl rfl rfl rfl ?_
      refine Lq (int ((slotL s.nodes z_104 (nameOf za)).1)) rfl rfl rfl (by kernel_rfl) ?_
      refine Lq (.bool ((slotL s.nodes z_104 (nameOf za)).2)) rfl rfl rfl (by kernel_rfl) ?_
      refine Lq (int ((slotL s.nodes z_104 (nameOf za)).1)) rfl rfl rfl rfl ?_
      refine Lq (.bool ((slotL s.nodes z_104 (nameOf za)).2)) rfl rfl rfl rfl ?_
      refine L_nil ?_
      refine W_seq ?_
      refine W_region_lit ?_
      refine Lq (ptr p46 0) rfl rfl rfl rfl ?_
      refine Lq (int z_104) rfl rfl rfl rfl ?_
      refine Lq (ptr b1 2) rfl rfl rfl (by kernel_rfl) ?_
      refine Lq (int za) rfl rfl rfl (x_load rfl rfl (run_loadVar_one ti_3 (hst115.b 2) rfl)) ?_
      refine L_callG hst115 (v := (.string (nameOf za))) rfl rfl rfl (x_call (vs := #[(int za)]) rfl rfl (by kernel_rfl) ent_31) (Name_spec za) (fun w116 hst117 => ?_)
      refine L_callG hst117 (v := (.tuple #[(int ((slotL s.nodes z_104 (nameOf za)).1)), (.bool ((slotL s.nodes z_104 (nameOf za)).2))])) rfl rfl rfl (x_call (vs := #[(ptr p46 0), (int z_104), (.string (nameOf za))]) rfl rfl (by kernel_rfl) ent_32) (by have h_ := (SlotR_spec z_104 (nameOf za) (RefT.view hi99 (hst117.g 1) hst117.rle') (Le.refl _)); rw [nds_shs] at h_; exact h_) (fun w118 hst119 => ?_)
      refine Lq (.tuple #[(int ((slotL s.nodes z_104 (nameOf za)).1)), (.bool ((slotL s.nodes z_104 (nameOf za)).2))]) rfl rfl rfl rfl ?_
      refine Lq (int ((slotL s.nodes z_104 (nameOf za)).1)) rfl rfl rfl (by kernel_rfl) ?_
      refine Lq (.bool ((slotL s.nodes z_104 (nameOf za)).2)) rfl rfl rfl (by kernel_rfl) ?_
      refine Lq (int ((slotL s.nodes z_104 (nameOf za)).1)) rfl rfl rfl rfl ?_
      refine Lq (.bool ((slotL s.nodes z_104 (nameOf za)).2)) rfl rfl rfl rfl ?_
      refine L_nil ?_
      refine W_seq ?_
      refine W_region_draw [] (fun w => Le R103 (hp w) ∧ Le cT105 (hp w) ∧ Le cU106 (hp w) ∧ Le (one b1 (.cells #[(int xa), (int ya), (int za)] 57 (0, 0))) (hp w)) hmix (by decide +kernel) (fun _ _ h => h) ?_
      have hst121 := hst119.draws (w118.drawn + 1)
      generalize draws w118 (w118.drawn + 1) = w120 at hst121 ⊢
      refine LP (ptr p18 0) 0 rfl rfl rfl (fun u123 => rfl) hst121.a3 ?_
      refine LP (ptr b1 1) 1 rfl rfl rfl (fun u126 => (by kernel_rfl)) hst121.a3 ?_
      refine LT (int ya) 2 rfl rfl rfl (fun u129 hF130 => (x_load rfl rfl (run_loadVar_one ti_3 (hF130.2.2.2 _ _ (one_self _ _)) rfl))) hst121.a3 ?_
      refine LP (ptr p46 0) 3 rfl rfl rfl (fun u132 => rfl) hst121.a3 ?_
      refine LP (int z_104) 4 rfl rfl rfl (fun u135 => rfl) hst121.a3 ?_
      refine LA_all [5] (by decide +kernel) (by simp) ?_
      intro i_ hi_
      simp only [List.mem_cons, List.not_mem_nil, or_false] at hi_
      subst hi_
      have hst140 := hst121
      refine One_callS (i := 5) [] [cT105, cU106, one b1 (.cells #[(int xa), (int ya), (int za)] 57 (0, 0))] hst140 rfl rfl rfl (Want.plain rfl) (x_call (vs := #[(ptr p46 0), (int z_104)]) rfl rfl (by kernel_rfl) ent_33) ((by have h_ := NamesR_spec z_104 (hst140.sats.take 0 rfl) (RefT.view hi99 (hst121.g 1) hst121.rle'); rw [nds_shs] at h_; exact h_)) (fun v141 w142 R143 L144 hp145 hle146 hst147 => ?_)
      have hm148 := Tree.lift hi98 hle146
      have hm149 := RefT.lift hi99 hle146
      obtain ⟨c150, rfl, ho151⟩ := hp145
      obtain ⟨R152, hst153, hle154, hc155⟩ := Step.frz hst147
      have hm156 := Tree.lift hm148 hle154
      have hm157 := RefT.lift hm149 hle154
      have hrd158 := OwnL.freeze ho151 hle154 hc155
      have hnl159 : (namesL s.nodes z_104).length ≤ 1000000 := namesL_small (RefT.small hm157) z_104
      refine ⟨(fun _ => ⟨(Le.trans hle146 (Le.trans hle154 hst153.rle')), hst153.g 0, hst153.g 1, hst153.g 2⟩), ?_⟩
      refine LA_all [6] (by decide +kernel) (by simp) ?_
      intro i_ hi_
      simp only [List.mem_cons, List.not_mem_nil, or_false] at hi_
      subst hi_
      refine One_call (i := 6) rfl rfl rfl (Want.plain rfl) (x_call (vs := #[(ptr p18 0), (int ya), v141]) rfl rfl (by kernel_rfl) ent_25) (Find_spec ya (namesL s.nodes z_104) (RdS.mono hrd158 hst153.rle') (by first | omega | decide | assumption) (Tree.view hm156 (hst153.g 0) hst153.rle') (Le.refl _)) ?_
      rintro e165 w163 ⟨rfl, hw166⟩
      have hst164 := hst153.grown hw166
      refine ⟨_, rfl, (fun _ => ⟨(Le.trans hle146 (Le.trans hle154 hst164.rle')), hst164.g 0, hst164.g 1, hst164.g 2⟩), ?_⟩
      refine LP (.tuple #[(int ((findL s.nodes ya (namesL s.nodes z_104)).1)), (.bool ((findL s.nodes ya (namesL s.nodes z_104)).2))]) 7 rfl rfl rfl (fun u168 => rfl) ⟨(Le.trans hle146 (Le.trans hle154 hst164.rle')), hst164.g 0, hst164.g 1, hst164.g 2⟩ ?_
      refine LP (int ((findL s.nodes ya (namesL s.nodes z_104)).1)) 8 rfl rfl rfl (fun u171 => (by kernel_rfl)) ⟨(Le.trans hle146 (Le.trans hle154 hst164.rle')), hst164.g 0, hst164.g 1, hst164.g 2⟩ ?_
      refine LP (.bool ((findL s.nodes ya (namesL s.nodes z_104)).2)) 9 rfl rfl rfl (fun u174 => (by kernel_rfl)) ⟨(Le.trans hle146 (Le.trans hle154 hst164.rle')), hst164.g 0, hst164.g 1, hst164.g 2⟩ ?_
      refine LP (int ((findL s.nodes ya (namesL s.nodes z_104)).1)) 10 rfl rfl rfl (fun u177 => rfl) ⟨(Le.trans hle146 (Le.trans hle154 hst164.rle')), hst164.g 0, hst164.g 1, hst164.g 2⟩ ?_
      refine LP (.bool ((findL s.nodes ya (namesL s.nodes z_104)).2)) 11 rfl rfl rfl (fun u180 => rfl) ⟨(Le.trans hle146 (Le.trans hle154 hst164.rle')), hst164.g 0, hst164.g 1, hst164.g 2⟩ ?_
      refine LA_done (by decide +kernel) ?_
      refine W_seq ?_
      refine W_region_draw [] (fun w => Le R152 (hp w) ∧ Le cT105 (hp w) ∧ Le cU106 (hp w) ∧ Le (one b1 (.cells #[(int xa), (int ya), (int za)] 57 (0, 0))) (hp w)) hmix (by decide +kernel) (fun _ _ h => h) ?_
      have hst183 := hst164.draws (w163.drawn + 1)
      generalize draws w163 (w163.drawn + 1) = w182 at hst183 ⊢
      refine LP (ptr p46 0) 0 rfl rfl rfl (fun u185 => rfl) hst183.a3 ?_
      refine LP (ptr b1 1) 1 rfl rfl rfl (fun u188 => (by kernel_rfl)) hst183.a3 ?_
      refine LT (int ya) 2 rfl rfl rfl (fun u191 hF192 => (x_load rfl rfl (run_loadVar_one ti_3 (hF192.2.2.2 _ _ (one_self _ _)) rfl))) hst183.a3 ?_
      refine LP (ptr p46 0) 3 rfl rfl rfl (fun u194 => rfl) hst183.a3 ?_
      refine LP (int z_104) 4 rfl rfl rfl (fun u197 => rfl) hst183.a3 ?_
      refine LA_all [5] (by decide +kernel) (by simp) ?_
      intro i_ hi_
      simp only [List.mem_cons, List.not_mem_nil, or_false] at hi_
      subst hi_
      have hst202 := hst183
      refine One_callS (i := 5) [] [cT105, cU106, one b1 (.cells #[(int xa), (int ya), (int za)] 57 (0, 0))] hst202 rfl rfl rfl (Want.plain rfl) (x_call (vs := #[(ptr p46 0), (int z_104)]) rfl rfl (by kernel_rfl) ent_33) ((by have h_ := NamesR_spec z_104 (hst202.sats.take 0 rfl) (RefT.view hm157 (hst183.g 1) hst183.rle'); rw [nds_shs] at h_; exact h_)) (fun v203 w204 R205 L206 hp207 hle208 hst209 => ?_)
      have hm210 := Tree.lift hm156 hle208
      have hm211 := RefT.lift hm157 hle208
      obtain ⟨c212, rfl, ho213⟩ := hp207
      obtain ⟨R214, hst215, hle216, hc217⟩ := Step.frz hst209
      have hm218 := Tree.lift hm210 hle216
      have hm219 := RefT.lift hm211 hle216
      have hrd220 := OwnL.freeze ho213 hle216 hc217
      have hnl221 : (namesL s.nodes z_104).length ≤ 1000000 := namesL_small (RefT.small hm219) z_104
      refine ⟨(fun _ => ⟨(Le.trans hle208 (Le.trans hle216 hst215.rle')), hst215.g 0, hst215.g 1, hst215.g 2⟩), ?_⟩
      refine LA_all [6] (by decide +kernel) (by simp) ?_
      intro i_ hi_
      simp only [List.mem_cons, List.not_mem_nil, or_false] at hi_
      subst hi_
      refine One_call (i := 6) rfl rfl rfl (Want.plain rfl) (x_call (vs := #[(ptr p46 0), (int ya), v203]) rfl rfl (by kernel_rfl) ent_34) (by have h_ := (FindR_spec ya (namesL s.nodes z_104) (RdS.mono hrd220 hst215.rle') (by first | omega | decide | assumption) (RefT.view hm219 (hst215.g 1) hst215.rle') (Le.refl _)); rw [nds_shs] at h_; exact h_) ?_
      rintro e227 w225 ⟨rfl, hw228⟩
      have hst226 := hst215.grown hw228
      refine ⟨_, rfl, (fun _ => ⟨(Le.trans hle208 (Le.trans hle216 hst226.rle')), hst226.g 0, hst226.g 1, hst226.g 2⟩), ?_⟩
      refine LP (.tuple #[(int ((findL s.nodes ya (namesL s.nodes z_104)).1)), (.bool ((findL s.nodes ya (namesL s.nodes z_104)).2))]) 7 rfl rfl rfl (fun u230 => rfl) ⟨(Le.trans hle208 (Le.trans hle216 hst226.rle')), hst226.g 0, hst226.g 1, hst226.g 2⟩ ?_
      refine LP (int ((findL s.nodes ya (namesL s.nodes z_104)).1)) 8 rfl rfl rfl (fun u233 => (by kernel_rfl)) ⟨(Le.trans hle208 (Le.trans hle216 hst226.rle')), hst226.g 0, hst226.g 1, hst226.g 2⟩ ?_
      refine LP (.bool ((findL s.nodes ya (namesL s.nodes z_104)).2)) 9 rfl rfl rfl (fun u236 => (by kernel_rfl)) ⟨(Le.trans hle208 (Le.trans hle216 hst226.rle')), hst226.g 0, hst226.g 1, hst226.g 2⟩ ?_
      refine LP (int ((findL s.nodes ya (namesL s.nodes z_104)).1)) 10 rfl rfl rfl (fun u239 => rfl) ⟨(Le.trans hle208 (Le.trans hle216 hst226.rle')), hst226.g 0, hst226.g 1, hst226.g 2⟩ ?_
      refine LP (.bool ((findL s.nodes ya (namesL s.nodes z_104)).2)) 11 rfl rfl rfl (fun u242 => rfl) ⟨(Le.trans hle208 (Le.trans hle216 hst226.rle')), hst226.g 0, hst226.g 1, hst226.g 2⟩ ?_
      refine LA_done (by decide +kernel) ?_
      refine W_seq ?_
      refine W_region_lit ?_
      refine Lq (ptr p18 0) rfl rfl rfl rfl ?_
      refine Lq (int z_104) rfl rfl rfl rfl ?_
      refine L_callG hst226 (v := (int (canon s.nodes z_104))) rfl rfl rfl (x_call (vs := #[(ptr p18 0), (int z_104)]) rfl rfl (by kernel_rfl) ent_21) (Canon_spec z_104 (Tree.view hm218 (hst226.g 0) hst226.rle') (Le.refl _)) (fun w244 hst245 => ?_)
      refine Lq (ptr p46 0) rfl rfl rfl rfl ?_
      refine Lq (int z_104) rfl rfl rfl rfl ?_
      refine L_callG hst245 (v := (int (canon s.nodes z_104))) rfl rfl rfl (x_call (vs := #[(ptr p46 0), (int z_104)]) rfl rfl (by kernel_rfl) ent_35) (by have h_ := (CanonR_spec z_104 (RefT.view hm219 (hst245.g 1) hst245.rle') (Le.refl _)); rw [nds_shs] at h_; exact h_) (fun w246 hst247 => ?_)
      refine Lq (.bool ((canon s.nodes z_104) != (canon s.nodes z_104))) rfl rfl rfl (by kernel_rfl) ?_
      refine Lq (.bool ((canon s.nodes z_104) != (canon s.nodes z_104))) rfl rfl rfl rfl ?_
      have c248 : ((canon s.nodes z_104) != (canon s.nodes z_104)) = false := (by first | exact bneF rfl | simp)
      refine L_guard rfl rfl rfl rfl c248 ?_
      refine Lq (ptr p18 0) rfl rfl rfl rfl ?_
      refine L_guard rfl rfl rfl rfl c248 ?_
      refine Lq (int z_104) rfl rfl rfl rfl ?_
      refine L_guard rfl rfl rfl rfl c248 ?_
      refine L_callG hst247 (v := (int (clsL s.nodes z_104))) rfl rfl rfl (x_call (vs := #[(ptr p18 0), (int z_104)]) rfl rfl (by kernel_rfl) ent_22) (Class_spec z_104 (Tree.view hm218 (hst247.g 0) hst247.rle') (Le.refl _)) (fun w250 hst251 => ?_)
      refine L_guard rfl rfl rfl rfl c248 ?_
      refine Lq (ptr p46 0) rfl rfl rfl rfl ?_
      refine L_guard rfl rfl rfl rfl c248 ?_
      refine Lq (int z_104) rfl rfl rfl rfl ?_
      refine L_guard rfl rfl rfl rfl c248 ?_
      refine L_callG hst251 (v := (int (clsL s.nodes z_104))) rfl rfl rfl (x_call (vs := #[(ptr p46 0), (int z_104)]) rfl rfl (by kernel_rfl) ent_36) (by have h_ := (ClassR_spec z_104 (RefT.view hm219 (hst251.g 1) hst251.rle') (Le.refl _)); rw [nds_shs] at h_; exact h_) (fun w252 hst253 => ?_)
      refine L_guard rfl rfl rfl rfl c248 ?_
      refine Lq (.bool ((clsL s.nodes z_104) != (clsL s.nodes z_104))) rfl rfl rfl (by kernel_rfl) ?_
      refine Lq (.bool ((clsL s.nodes z_104) != (clsL s.nodes z_104))) rfl rfl rfl (x_pick rfl rfl (by rw [c248]; rfl)) ?_
      refine Lq (.bool ((clsL s.nodes z_104) != (clsL s.nodes z_104))) rfl rfl rfl rfl ?_
      have c254 : ((clsL s.nodes z_104) != (clsL s.nodes z_104)) = false := (by first | exact bneF rfl | simp)
      refine L_guard rfl rfl rfl rfl c254 ?_
      refine Lq (ptr p18 0) rfl rfl rfl rfl ?_
      refine L_guard rfl rfl rfl rfl c254 ?_
      refine Lq (int z_104) rfl rfl rfl rfl ?_
      refine L_guard rfl rfl rfl rfl c254 ?_
      refine L_callG hst253 (v := (int (rootL s.nodes s.roots z_104))) rfl rfl rfl (x_call (vs := #[(ptr p18 0), (int z_104)]) rfl rfl (by kernel_rfl) ent_26) (Root_spec z_104 (Tree.view hm218 (hst253.g 0) hst253.rle') (Le.refl _)) (fun w256 hst257 => ?_)
      refine L_guard rfl rfl rfl rfl c254 ?_
      refine Lq (ptr p46 0) rfl rfl rfl rfl ?_
      refine L_guard rfl rfl rfl rfl c254 ?_
      refine Lq (int z_104) rfl rfl rfl rfl ?_
      refine L_guard rfl rfl rfl rfl c254 ?_
      refine L_callG hst257 (v := (int (rootL s.nodes s.roots z_104))) rfl rfl rfl (x_call (vs := #[(ptr p46 0), (int z_104)]) rfl rfl (by kernel_rfl) ent_37) (by have h_ := (RootR_spec z_104 (RefT.view hm219 (hst257.g 1) hst257.rle') (Le.refl _)); rw [nds_shs] at h_; exact h_) (fun w258 hst259 => ?_)
      refine L_guard rfl rfl rfl rfl c254 ?_
      refine Lq (.bool ((rootL s.nodes s.roots z_104) != (rootL s.nodes s.roots z_104))) rfl rfl rfl (by kernel_rfl) ?_
      refine Lq (.bool ((rootL s.nodes s.roots z_104) != (rootL s.nodes s.roots z_104))) rfl rfl rfl (x_pick rfl rfl (by rw [c254]; rfl)) ?_
      refine Lq (.bool ((rootL s.nodes s.roots z_104) != (rootL s.nodes s.roots z_104))) rfl rfl rfl rfl ?_
      have c260 : ((rootL s.nodes s.roots z_104) != (rootL s.nodes s.roots z_104)) = false := (by first | exact bneF rfl | simp)
      refine L_guard rfl rfl rfl rfl c260 ?_
      refine Lq (ptr p18 0) rfl rfl rfl rfl ?_
      refine L_guard rfl rfl rfl rfl c260 ?_
      refine Lq (int z_104) rfl rfl rfl rfl ?_
      refine L_guard rfl rfl rfl rfl c260 ?_
      have hst262 := hst259
      refine L_callS [] [cT105, cU106, one b1 (.cells #[(int xa), (int ya), (int za)] 57 (0, 0))] hst262 rfl rfl rfl (x_call (vs := #[(ptr p18 0), (int z_104)]) rfl rfl (by kernel_rfl) ent_24) (Names_spec z_104 (hst262.sats.take 0 rfl) (Tree.view hm218 (hst259.g 0) hst259.rle')) (fun v263 w264 R265 L266 hp267 hle268 hst269 => ?_)
      have hm270 := Tree.lift hm218 hle268
      have hm271 := RefT.lift hm219 hle268
      obtain ⟨c272, rfl, ho273⟩ := hp267
      have hnb274 := namesL_bd hbd.names z_104
      refine L_guard rfl rfl rfl rfl c260 ?_
      refine Lq (ptr p46 0) rfl rfl rfl rfl ?_
      refine L_guard rfl rfl rfl rfl c260 ?_
      refine Lq (int z_104) rfl rfl rfl rfl ?_
      refine L_guard rfl rfl rfl rfl c260 ?_
      have hst275 := hst269
      refine L_callS [] [c272, cT105, cU106, one b1 (.cells #[(int xa), (int ya), (int za)] 57 (0, 0))] hst275 rfl rfl rfl (x_call (vs := #[(ptr p46 0), (int z_104)]) rfl rfl (by kernel_rfl) ent_33) ((by have h_ := NamesR_spec z_104 (hst275.sats.take 0 rfl) (RefT.view hm271 (hst269.g 2) hst269.rle'); rw [nds_shs] at h_; exact h_)) (fun v276 w277 R278 L279 hp280 hle281 hst282 => ?_)
      have hm283 := OwnL.mono ho273 hle281
      have hm284 := Tree.lift hm270 hle281
      have hm285 := RefT.lift hm271 hle281
      obtain ⟨c286, rfl, ho287⟩ := hp280
      obtain ⟨R288, hst289, hle290, hc291⟩ := Step.frz hst282
      have hm292 := OwnL.mono hm283 hle290
      have hm293 := Tree.lift hm284 hle290
      have hm294 := RefT.lift hm285 hle290
      have hrd295 := OwnL.freeze ho287 hle290 hc291
      have hnl296 : (namesL s.nodes z_104).length ≤ 1000000 := namesL_small (RefT.small hm294) z_104
      refine L_guard rfl rfl rfl rfl c260 ?_
      obtain ⟨R297, hst298, hle299, hc300⟩ := Step.frz hst289
      have hm301 := Tree.lift hm293 hle299
      have hm302 := RefT.lift hm294 hle299
      have hrd303 := OwnL.freeze hm292 hle299 hc300
      obtain ⟨a304, cap305, e306, hc307⟩ := hrd303.shape
      subst e306
      obtain ⟨a308, cap309, e310, hc311⟩ := hrd295.shape
      subst e310
      refine L_callG hst298 (v := (.bool (decide ((namesL s.nodes z_104) = (namesL s.nodes z_104))))) rfl rfl rfl (x_call (vs := #[(.slice a304 ((namesL s.nodes z_104).length) cap305), (.slice a308 ((namesL s.nodes z_104).length) cap309)]) rfl rfl (by kernel_rfl) ent_23) (EqualR_spec (Le.refl _) (RdS.mono hrd303 hst298.rle') (RdS.mono hrd295 (Le.trans hle299 hst298.rle')) (by first | omega | assumption | (simp only [List.length_append, List.length_cons, List.length_nil]; omega)) (by first | omega | assumption | (simp only [List.length_append, List.length_cons, List.length_nil]; omega))) (fun w312 hst313 => ?_)
      refine L_guard rfl rfl rfl rfl c260 ?_
      refine Lq (.bool (!(decide ((namesL s.nodes z_104) = (namesL s.nodes z_104))))) rfl rfl rfl rfl ?_
      refine Lq (.bool (!(decide ((namesL s.nodes z_104) = (namesL s.nodes z_104))))) rfl rfl rfl (x_pick rfl rfl (by rw [c260]; rfl)) ?_
      refine Lq (.bool (!(decide ((namesL s.nodes z_104) = (namesL s.nodes z_104))))) rfl rfl rfl rfl ?_
      have c314 : (decide ((namesL s.nodes z_104) = (namesL s.nodes z_104))) = true := (decide_eq_true rfl)
      have q315 := of_decide_eq_true c314
      refine L_guard rfl rfl rfl rfl (by rw [c314]; rfl) ?_
      refine Lq (int ((slotL s.nodes z_104 (nameOf za)).1)) rfl rfl rfl rfl ?_
      refine L_guard rfl rfl rfl rfl (by rw [c314]; rfl) ?_
      refine Lq (int ((slotL s.nodes z_104 (nameOf za)).1)) rfl rfl rfl rfl ?_
      refine L_guard rfl rfl rfl rfl (by rw [c314]; rfl) ?_
      refine Lq (.bool (((slotL s.nodes z_104 (nameOf za)).1) != ((slotL s.nodes z_104 (nameOf za)).1))) rfl rfl rfl (by kernel_rfl) ?_
      refine Lq (.bool (((slotL s.nodes z_104 (nameOf za)).1) != ((slotL s.nodes z_104 (nameOf za)).1))) rfl rfl rfl (x_pick rfl rfl (by rw [c314]; rfl)) ?_
      refine Lq (.bool (((slotL s.nodes z_104 (nameOf za)).1) != ((slotL s.nodes z_104 (nameOf za)).1))) rfl rfl rfl rfl ?_
      have c316 : (((slotL s.nodes z_104 (nameOf za)).1) != ((slotL s.nodes z_104 (nameOf za)).1)) = false := (by first | exact bneF rfl | simp)
      refine L_guard rfl rfl rfl rfl c316 ?_
      refine Lq (.bool ((slotL s.nodes z_104 (nameOf za)).2)) rfl rfl rfl rfl ?_
      refine L_guard rfl rfl rfl rfl c316 ?_
      refine Lq (.bool ((slotL s.nodes z_104 (nameOf za)).2)) rfl rfl rfl rfl ?_
      refine L_guard rfl rfl rfl rfl c316 ?_
      refine Lq (.bool (((slotL s.nodes z_104 (nameOf za)).2) != ((slotL s.nodes z_104 (nameOf za)).2))) rfl rfl rfl (by kernel_rfl) ?_
      refine Lq (.bool (((slotL s.nodes z_104 (nameOf za)).2) != ((slotL s.nodes z_104 (nameOf za)).2))) rfl rfl rfl (x_pick rfl rfl (by rw [c316]; rfl)) ?_
      refine Lq (.bool (((slotL s.nodes z_104 (nameOf za)).2) != ((slotL s.nodes z_104 (nameOf za)).2))) rfl rfl rfl rfl ?_
      have c318 : (((slotL s.nodes z_104 (nameOf za)).2) != ((slotL s.nodes z_104 (nameOf za)).2)) = false := (by first | exact bneF rfl | simp)
      refine L_guard rfl rfl rfl rfl c318 ?_
      refine Lq (int ((findL s.nodes ya (namesL s.nodes z_104)).1)) rfl rfl rfl rfl ?_
      refine L_guard rfl rfl rfl rfl c318 ?_
      refine Lq (int ((findL s.nodes ya (namesL s.nodes z_104)).1)) rfl rfl rfl rfl ?_
      refine L_guard rfl rfl rfl rfl c318 ?_
      refine Lq (.bool (((findL s.nodes ya (namesL s.nodes z_104)).1) != ((findL s.nodes ya (namesL s.nodes z_104)).1))) rfl rfl rfl (by kernel_rfl) ?_
      refine Lq (.bool (((findL s.nodes ya (namesL s.nodes z_104)).1) != ((findL s.nodes ya (namesL s.nodes z_104)).1))) rfl rfl rfl (x_pick rfl rfl (by rw [c318]; rfl)) ?_
      refine Lq (.bool (((findL s.nodes ya (namesL s.nodes z_104)).1) != ((findL s.nodes ya (namesL s.nodes z_104)).1))) rfl rfl rfl rfl ?_
      have c319 : (((findL s.nodes ya (namesL s.nodes z_104)).1) != ((findL s.nodes ya (namesL s.nodes z_104)).1)) = false := (by first | exact bneF rfl | simp)
      refine L_guard rfl rfl rfl rfl c319 ?_
      refine Lq (.bool ((findL s.nodes ya (namesL s.nodes z_104)).2)) rfl rfl rfl rfl ?_
      refine L_guard rfl rfl rfl rfl c319 ?_
      refine Lq (.bool ((findL s.nodes ya (namesL s.nodes z_104)).2)) rfl rfl rfl rfl ?_
      refine L_guard rfl rfl rfl rfl c319 ?_
      refine Lq (.bool (((findL s.nodes ya (namesL s.nodes z_104)).2) != ((findL s.nodes ya (namesL s.nodes z_104)).2))) rfl rfl rfl (by kernel_rfl) ?_
      refine Lq (.bool (((findL s.nodes ya (namesL s.nodes z_104)).2) != ((findL s.nodes ya (namesL s.nodes z_104)).2))) rfl rfl rfl (x_pick rfl rfl (by rw [c319]; rfl)) ?_
      refine L_nil ?_
      have c321 : (((findL s.nodes ya (namesL s.nodes z_104)).2) != ((findL s.nodes ya (namesL s.nodes z_104)).2)) = false := (by first | exact bneF rfl | simp)
      refine W_cond_false (by show Value.bool _ = _; exact congrArg Value.bool c321) ?_
      refine W_skip ?_
      refine W_region_lit ?_
      refine Lq (int z_104) rfl rfl rfl rfl ?_
      refine Lq (int (z_104 + 1)) rfl rfl rfl (x_add rfl rfl rfl (by constructor <;> omega)) ?_
      refine Lq (int (z_104 + 1)) rfl rfl rfl rfl ?_
      refine L_nil ?_
      refine ⟨((s.nodes.length : Int) + 2 - (z_104 + 1)).toNat, by first | omega | (simp only [List.length_append, List.length_cons, List.length_nil]; omega), ?_⟩
      exact ⟨_, _, (z_104 + 1), cT105, cU106, (upd_of (upd_of (upd_of (upd_of (upd_of (upd_of (upd_of (upd_of (upd_of (upd_of (upd_of (upd_of (upd_of (upd_of (upd_of (upd_of (upd_of (upd_of (upd_of (upd_of (upd_of (upd_of (upd_of (upd_of (upd_of (upd_of rfl rfl) rfl) rfl) rfl) rfl) rfl) rfl) rfl) rfl) rfl) rfl) rfl) rfl) rfl) rfl) rfl) rfl) rfl) rfl) rfl) rfl) rfl) rfl) rfl) rfl) rfl), hmk94, (((hst313.front 2 rfl rfl).front 2 rfl rfl).front 2 rfl rfl), (Le.trans hle97 (Le.trans hle146 (Le.trans hle154 (Le.trans hle208 (Le.trans hle216 (Le.trans hle268 (Le.trans hle281 (Le.trans hle290 hle299)))))))), hm301, hm302, (by omega), (by omega), rfl⟩
     ·
      have q322 := of_decide_eq_false c110
      refine W_cond_false (by show Value.bool _ = _; exact congrArg Value.bool c110) ?_
      refine W_exit ?_
      refine W_seq ?_
      refine W_region_draw [] (fun w => Le R103 (hp w) ∧ Le cT105 (hp w) ∧ Le cU106 (hp w) ∧ Le (one b1 (.cells #[(int xa), (int ya), (int za)] 57 (0, 0))) (hp w)) hmix (by decide +kernel) (fun _ _ h => h) ?_
      have hst324 := hst109.draws (w108.drawn + 1)
      generalize draws w108 (w108.drawn + 1) = w323 at hst324 ⊢
      refine LP (.bool true) 0 rfl rfl rfl (fun u326 => rfl) hst324.a3 ?_
      refine LP (.bool true) 1 rfl rfl rfl (fun u329 => rfl) hst324.a3 ?_
      refine LP (ptr p18 0) 2 rfl rfl rfl (fun u332 => rfl) hst324.a3 ?_ (hw := (Want.of rfl rfl rfl rfl rfl))
      refine LP (ptr b1 0) 3 rfl rfl rfl (fun u335 => (by kernel_rfl)) hst324.a3 ?_ (hw := (Want.of rfl rfl rfl rfl rfl))
      refine LT (int xa) 4 rfl rfl rfl (fun u338 hF339 => (x_load rfl rfl (run_loadVar_one ti_3 (hF339.2.2.2 _ _ (one_self _ _)) rfl))) hst324.a3 ?_ (hw := (Want.of rfl rfl rfl rfl rfl))
      refine LP (ptr p46 0) 6 rfl rfl rfl (fun u343 => rfl) hst324.a3 ?_ (hw := (Want.of rfl rfl rfl rfl rfl))
      refine LP (ptr b1 0) 7 rfl rfl rfl (fun u348 => (by kernel_rfl)) hst324.a3 ?_ (hw := (Want.of rfl rfl rfl rfl rfl))
      refine LT (int xa) 8 rfl rfl rfl (fun u353 hF354 => (x_load rfl rfl (run_loadVar_one ti_3 (hF354.2.2.2 _ _ (one_self _ _)) rfl))) hst324.a3 ?_ (hw := (Want.of rfl rfl rfl rfl rfl))
      refine LA_all [5] (by decide +kernel) (by simp) ?_
      intro i_ hi_
      simp only [List.mem_cons, List.not_mem_nil, or_false] at hi_
      subst hi_
      refine One_call (i := 5) rfl rfl rfl (Want.of rfl rfl rfl rfl rfl) (x_call (vs := #[(ptr p18 0), (int xa)]) rfl rfl (by kernel_rfl) ent_21) (Canon_spec xa (Tree.view hi98 (hst324.g 0) hst324.rle') (Le.refl _)) ?_
      rintro e360 w358 ⟨rfl, hw361⟩
      have hst359 := hst324.grown hw361
      refine ⟨_, rfl, (fun _ => hst359.a3), ?_⟩
      refine LA_all [9] (by decide +kernel) (by simp) ?_
      intro i_ hi_
      simp only [List.mem_cons, List.not_mem_nil, or_false] at hi_
      subst hi_
      refine One_call (i := 9) rfl rfl rfl (Want.of rfl rfl rfl rfl rfl) (x_call (vs := #[(ptr p46 0), (int xa)]) rfl rfl (by kernel_rfl) ent_35) (by have h_ := (CanonR_spec xa (RefT.view hi99 (hst359.g 1) hst359.rle') (Le.refl _)); rw [nds_shs] at h_; exact h_) ?_
      rintro e367 w365 ⟨rfl, hw368⟩
      have hst366 := hst359.grown hw368
      refine ⟨_, rfl, (fun _ => hst366.a3), ?_⟩
      refine LP (.bool ((canon s.nodes xa) == (canon s.nodes xa))) 10 rfl rfl rfl (fun u370 => (by kernel_rfl)) hst366.a3 ?_ (hw := (Want.of rfl rfl rfl rfl rfl))
      refine LP (.bool ((canon s.nodes xa) == (canon s.nodes xa))) 11 rfl rfl rfl (fun u373 => rfl) hst366.a3 ?_
      refine LP (.bool ((canon s.nodes xa) == (canon s.nodes xa))) 12 rfl rfl rfl (fun u376 => rfl) hst366.a3 ?_
      have c379 : ((canon s.nodes xa) == (canon s.nodes xa)) = true := (beqT rfl)
      have q380 := eq_of_beq c379
      refine LP (ptr p18 0) 13 rfl rfl rfl (fun u382 => rfl) hst366.a3 ?_ (hw := (Want.of rfl rfl rfl rfl (by rw [c379]; rfl)))
      refine LP (ptr b1 1) 14 rfl rfl rfl (fun u385 => (by kernel_rfl)) hst366.a3 ?_ (hw := (Want.of rfl rfl rfl rfl (by rw [c379]; rfl)))
      refine LT (int ya) 15 rfl rfl rfl (fun u388 hF389 => (x_load rfl rfl (run_loadVar_one ti_3 (hF389.2.2.2 _ _ (one_self _ _)) rfl))) hst366.a3 ?_ (hw := (Want.of rfl rfl rfl rfl (by rw [c379]; rfl)))
      refine LP (ptr p46 0) 17 rfl rfl rfl (fun u393 => rfl) hst366.a3 ?_ (hw := (Want.of rfl rfl rfl rfl (by rw [c379]; rfl)))
      refine LP (ptr b1 1) 18 rfl rfl rfl (fun u398 => (by kernel_rfl)) hst366.a3 ?_ (hw := (Want.of rfl rfl rfl rfl (by rw [c379]; rfl)))
      refine LT (int ya) 19 rfl rfl rfl (fun u403 hF404 => (x_load rfl rfl (run_loadVar_one ti_3 (hF404.2.2.2 _ _ (one_self _ _)) rfl))) hst366.a3 ?_ (hw := (Want.of rfl rfl rfl rfl (by rw [c379]; rfl)))
      refine LA_all [16] (by decide +kernel) (by simp) ?_
      intro i_ hi_
      simp only [List.mem_cons, List.not_mem_nil, or_false] at hi_
      subst hi_
      refine One_call (i := 16) rfl rfl rfl (Want.of rfl rfl rfl rfl (by rw [c379]; rfl)) (x_call (vs := #[(ptr p18 0), (int ya)]) rfl rfl (by kernel_rfl) ent_26) (Root_spec ya (Tree.view hi98 (hst366.g 0) hst366.rle') (Le.refl _)) ?_
      rintro e410 w408 ⟨rfl, hw411⟩
      have hst409 := hst366.grown hw411
      refine ⟨_, rfl, (fun _ => hst409.a3), ?_⟩
      refine LA_all [20] (by decide +kernel) (by simp) ?_
      intro i_ hi_
      simp only [List.mem_cons, List.not_mem_nil, or_false] at hi_
      subst hi_
      refine One_call (i := 20) rfl rfl rfl (Want.of rfl rfl rfl rfl (by rw [c379]; rfl)) (x_call (vs := #[(ptr p46 0), (int ya)]) rfl rfl (by kernel_rfl) ent_37) (by have h_ := (RootR_spec ya (RefT.view hi99 (hst409.g 1) hst409.rle') (Le.refl _)); rw [nds_shs] at h_; exact h_) ?_
      rintro e417 w415 ⟨rfl, hw418⟩
      have hst416 := hst409.grown hw418
      refine ⟨_, rfl, (fun _ => hst416.a3), ?_⟩
      refine LP (.bool ((rootL s.nodes s.roots ya) == (rootL s.nodes s.roots ya))) 21 rfl rfl rfl (fun u420 => (by kernel_rfl)) hst416.a3 ?_ (hw := (Want.of rfl rfl rfl rfl (by rw [c379]; rfl)))
      refine LP (.bool ((rootL s.nodes s.roots ya) == (rootL s.nodes s.roots ya))) 22 rfl rfl rfl (fun u423 => (x_pick rfl rfl (by rw [c379]; rfl))) hst416.a3 ?_
      refine LP (.bool ((rootL s.nodes s.roots ya) == (rootL s.nodes s.roots ya))) 23 rfl rfl rfl (fun u426 => rfl) hst416.a3 ?_
      have c429 : ((rootL s.nodes s.roots ya) == (rootL s.nodes s.roots ya)) = true := (beqT rfl)
      have q430 := eq_of_beq c429
      refine LP (ptr p18 0) 24 rfl rfl rfl (fun u432 => rfl) hst416.a3 ?_ (hw := (Want.of rfl rfl rfl rfl (by rw [c429]; rfl)))
      refine LP (ptr b1 0) 25 rfl rfl rfl (fun u435 => (by kernel_rfl)) hst416.a3 ?_ (hw := (Want.of rfl rfl rfl rfl (by rw [c429]; rfl)))
      refine LT (int xa) 26 rfl rfl rfl (fun u438 hF439 => (x_load rfl rfl (run_loadVar_one ti_3 (hF439.2.2.2 _ _ (one_self _ _)) rfl))) hst416.a3 ?_ (hw := (Want.of rfl rfl rfl rfl (by rw [c429]; rfl)))
      refine LP (ptr p46 0) 28 rfl rfl rfl (fun u443 => rfl) hst416.a3 ?_ (hw := (Want.of rfl rfl rfl rfl (by rw [c429]; rfl)))
      refine LP (ptr b1 0) 29 rfl rfl rfl (fun u448 => (by kernel_rfl)) hst416.a3 ?_ (hw := (Want.of rfl rfl rfl rfl (by rw [c429]; rfl)))
      refine LT (int xa) 30 rfl rfl rfl (fun u453 hF454 => (x_load rfl rfl (run_loadVar_one ti_3 (hF454.2.2.2 _ _ (one_self _ _)) rfl))) hst416.a3 ?_ (hw := (Want.of rfl rfl rfl rfl (by rw [c429]; rfl)))
      refine LA_all [27] (by decide +kernel) (by simp) ?_
      intro i_ hi_
      simp only [List.mem_cons, List.not_mem_nil, or_false] at hi_
      subst hi_
      refine One_call (i := 27) rfl rfl rfl (Want.of rfl rfl rfl rfl (by rw [c429]; rfl)) (x_call (vs := #[(ptr p18 0), (int xa)]) rfl rfl (by kernel_rfl) ent_22) (Class_spec xa (Tree.view hi98 (hst416.g 0) hst416.rle') (Le.refl _)) ?_
      rintro e460 w458 ⟨rfl, hw461⟩
      have hst459 := hst416.grown hw461
      refine ⟨_, rfl, (fun _ => hst459.a3), ?_⟩
      refine LA_all [31] (by decide +kernel) (by simp) ?_
      intro i_ hi_
      simp only [List.mem_cons, List.not_mem_nil, or_false] at hi_
      subst hi_
      refine One_call (i := 31) rfl rfl rfl (Want.of rfl rfl rfl rfl (by rw [c429]; rfl)) (x_call (vs := #[(ptr p46 0), (int xa)]) rfl rfl (by kernel_rfl) ent_36) (by have h_ := (ClassR_spec xa (RefT.view hi99 (hst459.g 1) hst459.rle') (Le.refl _)); rw [nds_shs] at h_; exact h_) ?_
      rintro e467 w465 ⟨rfl, hw468⟩
      have hst466 := hst459.grown hw468
      refine ⟨_, rfl, (fun _ => hst466.a3), ?_⟩
      refine LP (.bool ((clsL s.nodes xa) == (clsL s.nodes xa))) 32 rfl rfl rfl (fun u470 => (by kernel_rfl)) hst466.a3 ?_ (hw := (Want.of rfl rfl rfl rfl (by rw [c429]; rfl)))
      refine LP (.bool ((clsL s.nodes xa) == (clsL s.nodes xa))) 33 rfl rfl rfl (fun u473 => (x_pick rfl rfl (by rw [c429]; rfl))) hst466.a3 ?_
      refine LP (.bool ((clsL s.nodes xa) == (clsL s.nodes xa))) 34 rfl rfl rfl (fun u476 => rfl) hst466.a3 ?_
      refine LA_done (by decide +kernel) ?_
      refine W_ret ?_
      refine ⟨_, _, res_run (rs := [.tmp 6]) (vs := [(.bool ((clsL s.nodes xa) == (clsL s.nodes xa)))]) Tryz.results7 (.cons (.tmp rfl) .nil) hmk94, ?_⟩
      exact ⟨_, _, _, rfl, (hst466).keepN 0 rfl, congrArg Value.bool (by first | exact bneF (by assumption) | exact bneF rfl | exact decide_eq_false (by assumption) | exact decide_eq_true (by assumption) | exact beqT (by assumption) | exact beqT rfl | assumption | exact decide_eq_true rfl), rfl⟩
  ·
   have q478 := of_decide_eq_false c64
   refine L_unwanted rfl rfl rfl rfl (by rw [c64]; try rfl) rfl rfl ?_
   refine L_unwanted rfl rfl rfl rfl (by rw [c64]; try rfl) rfl rfl ?_
   refine Lq (.bool false) rfl rfl rfl (x_pick rfl rfl (by rw [c64]; rfl)) ?_
   refine L_nil ?_
   refine W_cond_false (by show Value.bool _ = _; exact congrArg Value.bool rfl) ?_
   refine W_exit ?_
   refine W_seq ?_
   refine W_seq ?_
   have hpe : playK n acts k_60 = s := by rw [hs_]; exact playK_end (by omega)
   rw [hpe] at hi55
   refine W_region_lit ?_
   refine Lq (int (-1)) rfl rfl rfl rfl ?_
   refine L_nil ?_
   refine W_block ?_
   refine W_loop (I := fun σ w_ m_ => ∃ (σ0 : Fr) (R_ : Hp) (z_ : Int) (cT : Hp) (cU : Hp), σ = upd (upd (upd (upd (upd (upd (upd (upd (upd (upd (upd (upd (upd (upd (upd (upd (upd (upd (upd (upd (upd (upd (upd (upd σ0 0 (int n)) 1 (.slice a6 acts.length cap7)) 2 (.agg #[(int xa), (int ya), (int za)])) 5 (ptr b1 0)) 7 (.bool true)) 8 (ptr p18 0)) 9 (ptr p46 0)) 10 (int (k_60 : Int))) 11 (int z_)) 20 (.bool true)) 21 (int n)) 22 (.slice a6 acts.length cap7)) 23 (ptr p18 0)) 24 (int n)) 25 (.slice a33 ((clsOf n).length) cap34)) 26 (ptr p46 0)) 27 (ptr p18 0)) 28 (.bool false)) 29 (int (k_60 : Int))) 30 (.slice a6 acts.length cap7)) 31 (int (acts.length : Int))) 32 (.bool (decide ((k_60 : Int) < (acts.length : Int))))) 33 (.bool (decide ((k_60 : Int) < (acts.length : Int))))) 36 (.bool false) ∧ mks (σ0 0) = [] ∧ Step w R [] w_ R_ [cT, cU, one b1 (.cells #[(int xa), (int ya), (int za)] 57 (0, 0))] ∧ Le R59 R_ ∧ Tree R_ p18 s cT ∧ RefT R_ p46 s cU ∧ -1 ≤ z_ ∧ z_ ≤ (s.nodes.length : Int) + 1 ∧ m_ = ((s.nodes.length : Int) + 2 - z_).toNat) (m := ((s.nodes.length : Int) + 2 - (-1)).toNat) ?_ ?_
   ·
    exact ⟨_, _, (-1), cT61, cU62, (upd_of (upd_of (upd_of (upd_of (upd_of (upd_of (upd_of (upd_of (upd_of (upd_of (upd_of (upd_of (upd_of (upd_of (upd_of (upd_of (upd_of (upd_of (upd_of (upd_of (upd_of (upd_of (upd_of (upd_of rfl rfl) rfl) rfl) rfl) rfl) rfl) rfl) rfl) rfl) rfl) rfl) rfl) rfl) rfl) rfl) rfl) rfl) rfl) rfl) rfl) rfl) rfl) rfl) rfl), hmk50, (((hst51.front 2 rfl rfl).front 2 rfl rfl).front 2 rfl rfl), Le.refl _, hi54, hi55, (by omega), (by omega), rfl⟩
   ·
    rintro m492 σ_ w481 ⟨s487, R488, z_489, cT490, cU491, rfl, hmk479, hst480, hle482, hi483, hi484, hf485, hf486, rfl⟩
    refine W_seq ?_
    refine W_seq ?_
    refine W_region_lit ?_
    refine Lq (int z_489) rfl rfl rfl rfl ?_
    refine Lq (ptr p46 0) rfl rfl rfl rfl ?_
    refine L_callG hst480 (v := (int (s.nodes.length : Int))) rfl rfl rfl (x_call (vs := #[(ptr p46 0)]) rfl rfl (by kernel_rfl) ent_17) (by have h_ := (CountR_spec (RefT.view hi484 (hst480.g 1) hst480.rle') (Le.refl _)); rw [nds_shs] at h_; exact h_) (fun w493 hst494 => ?_)
    refine Lq (.bool (decide (z_489 ≤ (s.nodes.length : Int)))) rfl rfl rfl (by kernel_rfl) ?_
    refine L_nil ?_
    rcases Bool.eq_false_or_eq_true (decide (z_489 ≤ (s.nodes.length : Int))) with c495 | c495
    ·
     have q496 := of_decide_eq_true c495
     refine W_cond_true (by show Value.bool _ = _; exact congrArg Value.bool c495) ?_
     refine W_skip ?_
     refine W_seq ?_
     refine W_block ?_
     refine W_seq ?_
     refine W_region_lit ?_
     refine Lq (ptr p18 0) rfl rfl rfl rfl ?_
     refine Lq (int z_489) rfl rfl rfl rfl ?_
     refine Lq (ptr b1 2) rfl rfl rfl (by kernel_rfl) ?_
     refine Lq (int za) rfl rfl rfl (x_load rfl rfl (run_loadVar_one ti_3 (hst494.b 2) rfl)) ?_
     refine L_callG hst494 (v := (.string (nameOf za))) rfl rfl rfl (x_call (vs := #[(int za)]) rfl rfl (by kernel_rfl) ent_31) (Name_spec za) (fun w497 hst498 => ?_)
     refine L_callG hst498 (v := (.tuple #[(int ((slotL s.nodes z_489 (nameOf za)).1)), (.bool ((slotL s.nodes z_489 (nameOf za)).2))])) rfl rfl rfl (x_call (vs := #[(ptr p18 0), (int z_489), (.string (nameOf za))]) rfl rfl (by kernel_rfl) ent_30) (Slot_spec z_489 (nameOf za) (Tree.view hi483 (hst498.g 0) hst498.rle') (Le.refl _)) (fun w499 hst500 => ?_)
     refine Lq (.tuple #[(int ((slotL s.nodes z_489 (nameOf za)).1)), (.bool ((slotL s.nodes z_489 (nameOf za)).2))]) rfl rfl rfl rfl ?_
     refine Lq (int ((slotL s.nodes z_489 (nameOf za)).1)) rfl rfl rfl (by kernel_rfl) ?_
     refine Lq (.bool ((slotL s.nodes z_489 (nameOf za)).2)) rfl rfl rfl (by kernel_rfl) ?_
     refine Lq (int ((slotL s.nodes z_489 (nameOf za)).1)) rfl rfl rfl rfl ?_
     refine Lq (.bool ((slotL s.nodes z_489 (nameOf za)).2)) rfl rfl rfl rfl ?_
     refine L_nil ?_
     refine W_seq ?_
     refine W_region_lit ?_
     refine Lq (ptr p46 0) rfl rfl rfl rfl ?_
     refine Lq (int z_489) rfl rfl rfl rfl ?_
     refine Lq (ptr b1 2) rfl rfl rfl (by kernel_rfl) ?_
     refine Lq (int za) rfl rfl rfl (x_load rfl rfl (run_loadVar_one ti_3 (hst500.b 2) rfl)) ?_
     refine L_callG hst500 (v := (.string (nameOf za))) rfl rfl rfl (x_call (vs := #[(int za)]) rfl rfl (by kernel_rfl) ent_31) (Name_spec za) (fun w501 hst502 => ?_)
     refine L_callG hst502 (v := (.tuple #[(int ((slotL s.nodes z_489 (nameOf za)).1)), (.bool ((slotL s.nodes z_489 (nameOf za)).2))])) rfl rfl rfl (x_call (vs := #[(ptr p46 0), (int z_489), (.string (nameOf za))]) rfl rfl (by kernel_rfl) ent_32) (by have h_ := (SlotR_spec z_489 (nameOf za) (RefT.view hi484 (hst502.g 1) hst502.rle') (Le.refl _)); rw [nds_shs] at h_; exact h_) (fun w503 hst504 => ?_)
     refine Lq (.tuple #[(int ((slotL s.nodes z_489 (nameOf za)).1)), (.bool ((slotL s.nodes z_489 (nameOf za)).2))]) rfl rfl rfl rfl ?_
     refine Lq (int ((slotL s.nodes z_489 (nameOf za)).1)) rfl rfl rfl (by kernel_rfl) ?_
     refine Lq (.bool ((slotL s.nodes z_489 (nameOf za)).2)) rfl rfl rfl (by kernel_rfl) ?_
     refine Lq (int ((slotL s.nodes z_489 (nameOf za)).1)) rfl rfl rfl rfl ?_
     refine Lq (.bool ((slotL s.nodes z_489 (nameOf za)).2)) rfl rfl rfl rfl ?_
     refine L_nil ?_
     refine W_seq ?_
     refine W_region_draw [] (fun w => Le R488 (hp w) ∧ Le cT490 (hp w) ∧ Le cU491 (hp w) ∧ Le (one b1 (.cells #[(int xa), (int ya), (int za)] 57 (0, 0))) (hp w)) hmix (by decide +kernel) (fun _ _ h => h) ?_
     have hst506 := hst504.draws (w503.drawn + 1)
     generalize draws w503 (w503.drawn + 1) = w505 at hst506 ⊢
     refine LP (ptr p18 0) 0 rfl rfl rfl (fun u508 => rfl) hst506.a3 ?_
     refine LP (ptr b1 1) 1 rfl rfl rfl (fun u511 => (by kernel_rfl)) hst506.a3 ?_
     refine LT (int ya) 2 rfl rfl rfl (fun u514 hF515 => (x_load rfl rfl (run_loadVar_one ti_3 (hF515.2.2.2 _ _ (one_self _ _)) rfl))) hst506.a3 ?_
     refine LP (ptr p46 0) 3 rfl rfl rfl (fun u517 => rfl) hst506.a3 ?_
     refine LP (int z_489) 4 rfl rfl rfl (fun u520 => rfl) hst506.a3 ?_
     refine LA_all [5] (by decide +kernel) (by simp) ?_
     intro i_ hi_
     simp only [List.mem_cons, List.not_mem_nil, or_false] at hi_
     subst hi_
     have hst525 := hst506
     refine One_callS (i := 5) [] [cT490, cU491, one b1 (.cells #[(int xa), (int ya), (int za)] 57 (0, 0))] hst525 rfl rfl rfl (Want.plain rfl) (x_call (vs := #[(ptr p46 0), (int z_489)]) rfl rfl (by kernel_rfl) ent_33) ((by have h_ := NamesR_spec z_489 (hst525.sats.take 0 rfl) (RefT.view hi484 (hst506.g 1) hst506.rle'); rw [nds_shs] at h_; exact h_)) (fun v526 w527 R528 L529 hp530 hle531 hst532 => ?_)
     have hm533 := Tree.lift hi483 hle531
     have hm534 := RefT.lift hi484 hle531
     obtain ⟨c535, rfl, ho536⟩ := hp530
     obtain ⟨R537, hst538, hle539, hc540⟩ := Step.frz hst532
     have hm541 := Tree.lift hm533 hle539
     have hm542 := RefT.lift hm534 hle539
     have hrd543 := OwnL.freeze ho536 hle539 hc540
     have hnl544 : (namesL s.nodes z_489).length ≤ 1000000 := namesL_small (RefT.small hm542) z_489
     refine ⟨(fun _ => ⟨(Le.trans hle531 (Le.trans hle539 hst538.rle')), hst538.g 0, hst538.g 1, hst538.g 2⟩), ?_⟩
     refine LA_all [6] (by decide +kernel) (by simp) ?_
     intro i_ hi_
     simp only [List.mem_cons, List.not_mem_nil, or_false] at hi_
     subst hi_
     refine One_call (i := 6) rfl rfl rfl (Want.plain rfl) (x_call (vs := #[(ptr p18 0), (int ya), v526]) rfl rfl (by kernel_rfl) ent_25) (Find_spec ya (namesL s.nodes z_489) (RdS.mono hrd543 hst538.rle') (by first | omega | decide | assumption) (Tree.view hm541 (hst538.g 0) hst538.rle') (Le.refl _)) ?_
     rintro e550 w548 ⟨rfl, hw551⟩
     have hst549 := hst538.grown hw551
     refine ⟨_, rfl, (fun _ => ⟨(Le.trans hle531 (Le.trans hle539 hst549.rle')), hst549.g 0, hst549.g 1, hst549.g 2⟩), ?_⟩
     refine LP (.tuple #[(int ((findL s.nodes ya (namesL s.nodes z_489)).1)), (.bool ((findL s.nodes ya (namesL s.nodes z_489)).2))]) 7 rfl rfl rfl (fun u553 => rfl) ⟨(Le.trans hle531 (Le.trans hle539 hst549.rle')), hst549.g 0, hst549.g 1, hst549.g 2⟩ ?_
     refine LP (int ((findL s.nodes ya (namesL s.nodes z_489)).1)) 8 rfl rfl rfl (fun u556 => (by kernel_rfl)) ⟨(Le.trans hle531 (Le.trans hle539 hst549.rle')), hst549.g 0, hst549.g 1, hst549.g 2⟩ ?_
     refine LP (.bool ((findL s.nodes ya (namesL s.nodes z_489)).2)) 9 rfl rfl rfl (fun u559 => (by kernel_rfl)) ⟨(Le.trans hle531 (Le.trans hle539 hst549.rle')), hst549.g 0, hst549.g 1, hst549.g 2⟩ ?_
     refine LP (int ((findL s.nodes ya (namesL s.nodes z_489)).1)) 10 rfl rfl rfl (fun u562 => rfl) ⟨(Le.trans hle531 (Le.trans hle539 hst549.rle')), hst549.g 0, hst549.g 1, hst549.g 2⟩ ?_
     refine LP (.bool ((findL s.nodes ya (namesL s.nodes z_489)).2)) 11 rfl rfl rfl (fun u565 => rfl) ⟨(Le.trans hle531 (Le.trans hle539 hst549.rle')), hst549.g 0, hst549.g 1, hst549.g 2⟩ ?_
     refine LA_done (by decide +kernel) ?_
     refine W_seq ?_
     refine W_region_draw [] (fun w => Le R537 (hp w) ∧ Le cT490 (hp w) ∧ Le cU491 (hp w) ∧ Le (one b1 (.cells #[(int xa), (int ya), (int za)] 57 (0, 0))) (hp w)) hmix (by decide +kernel) (fun _ _ h => h) ?_
     have hst568 := hst549.draws (w548.drawn + 1)
     generalize draws w548 (w548.drawn + 1) = w567 at hst568 ⊢
     refine LP (ptr p46 0) 0 rfl rfl rfl (fun u570 => rfl) hst568.a3 ?_
     refine LP (ptr b1 1) 1 rfl rfl rfl (fun u573 => (by kernel_rfl)) hst568.a3 ?_
     refine LT (int ya) 2 rfl rfl rfl (fun u576 hF577 => (x_load rfl rfl (run_loadVar_one ti_3 (hF577.2.2.2 _ _ (one_self _ _)) rfl))) hst568.a3 ?_
     refine LP (ptr p46 0) 3 rfl rfl rfl (fun u579 => rfl) hst568.a3 ?_
     refine LP (int z_489) 4 rfl rfl rfl (fun u582 => rfl) hst568.a3 ?_
     refine LA_all [5] (by decide +kernel) (by simp) ?_
     intro i_ hi_
     simp only [List.mem_cons, List.not_mem_nil, or_false] at hi_
     subst hi_
     have hst587 := hst568
     refine One_callS (i := 5) [] [cT490, cU491, one b1 (.cells #[(int xa), (int ya), (int za)] 57 (0, 0))] hst587 rfl rfl rfl (Want.plain rfl) (x_call (vs := #[(ptr p46 0), (int z_489)]) rfl rfl (by kernel_rfl) ent_33) ((by have h_ := NamesR_spec z_489 (hst587.sats.take 0 rfl) (RefT.view hm542 (hst568.g 1) hst568.rle'); rw [nds_shs] at h_; exact h_)) (fun v588 w589 R590 L591 hp592 hle593 hst594 => ?_)
     have hm595 := Tree.lift hm541 hle593
     have hm596 := RefT.lift hm542 hle593
     obtain ⟨c597, rfl, ho598⟩ := hp592
     obtain ⟨R599, hst600, hle601, hc602⟩ := Step.frz hst594
     have hm603 := Tree.lift hm595 hle601
     have hm604 := RefT.lift hm596 hle601
     have hrd605 := OwnL.freeze ho598 hle601 hc602
     have hnl606 : (namesL s.nodes z_489).length ≤ 1000000 := namesL_small (RefT.small hm604) z_489
     refine ⟨(fun _ => ⟨(Le.trans hle593 (Le.trans hle601 hst600.rle')), hst600.g 0, hst600.g 1, hst600.g 2⟩), ?_⟩
     refine LA_all [6] (by decide +kernel) (by simp) ?_
     intro i_ hi_
     simp only [List.mem_cons, List.not_mem_nil, or_false] at hi_
     subst hi_
     refine One_call (i := 6) rfl rfl rfl (Want.plain rfl) (x_call (vs := #[(ptr p46 0), (int ya), v588]) rfl rfl (by kernel_rfl) ent_34) (by have h_ := (FindR_spec ya (namesL s.nodes z_489) (RdS.mono hrd605 hst600.rle') (by first | omega | decide | assumption) (RefT.view hm604 (hst600.g 1) hst600.rle') (Le.refl _)); rw [nds_shs] at h_; exact h_) ?_
     rintro e612 w610 ⟨rfl, hw613⟩
     have hst611 := hst600.grown hw613
     refine ⟨_, rfl, (fun _ => ⟨(Le.trans hle593 (Le.trans hle601 hst611.rle')), hst611.g 0, hst611.g 1, hst611.g 2⟩), ?_⟩
     refine LP (.tuple #[(int ((findL s.nodes ya (namesL s.nodes z_489)).1)), (.bool ((findL s.nodes ya (namesL s.nodes z_489)).2))]) 7 rfl rfl rfl (fun u615 => rfl) ⟨(Le.trans hle593 (Le.trans hle601 hst611.rle')), hst611.g 0, hst611.g 1, hst611.g 2⟩ ?_
     refine LP (int ((findL s.nodes ya (namesL s.nodes z_489)).1)) 8 rfl rfl rfl (fun u618 => (by kernel_rfl)) ⟨(Le.trans hle593 (Le.trans hle601 hst611.rle')), hst611.g 0, hst611.g 1, hst611.g 2⟩ ?_
     refine LP (.bool ((findL s.nodes ya (namesL s.nodes z_489)).2)) 9 rfl rfl rfl (fun u621 => (by kernel_rfl)) ⟨(Le.trans hle593 (Le.trans hle601 hst611.rle')), hst611.g 0, hst611.g 1, hst611.g 2⟩ ?_
     refine LP (int ((findL s.nodes ya (namesL s.nodes z_489)).1)) 10 rfl rfl rfl (fun u624 => rfl) ⟨(Le.trans hle593 (Le.trans hle601 hst611.rle')), hst611.g 0, hst611.g 1, hst611.g 2⟩ ?_
     refine LP (.bool ((findL s.nodes ya (namesL s.nodes z_489)).2)) 11 rfl rfl rfl (fun u627 => rfl) ⟨(Le.trans hle593 (Le.trans hle601 hst611.rle')), hst611.g 0, hst611.g 1, hst611.g 2⟩ ?_
     refine LA_done (by decide +kernel) ?_
     refine W_seq ?_
     refine W_region_lit ?_
     refine Lq (ptr p18 0) rfl rfl rfl rfl ?_
     refine Lq (int z_489) rfl rfl rfl rfl ?_
     refine L_callG hst611 (v := (int (canon s.nodes z_489))) rfl rfl rfl (x_call (vs := #[(ptr p18 0), (int z_489)]) rfl rfl (by kernel_rfl) ent_21) (Canon_spec z_489 (Tree.view hm603 (hst611.g 0) hst611.rle') (Le.refl _)) (fun w629 hst630 => ?_)
     refine Lq (ptr p46 0) rfl rfl rfl rfl ?_
     refine Lq (int z_489) rfl rfl rfl rfl ?_
     refine L_callG hst630 (v := (int (canon s.nodes z_489))) rfl rfl rfl (x_call (vs := #[(ptr p46 0), (int z_489)]) rfl rfl (by kernel_rfl) ent_35) (by have h_ := (CanonR_spec z_489 (RefT.view hm604 (hst630.g 1) hst630.rle') (Le.refl _)); rw [nds_shs] at h_; exact h_) (fun w631 hst632 => ?_)
     refine Lq (.bool ((canon s.nodes z_489) != (canon s.nodes z_489))) rfl rfl rfl (by kernel_rfl) ?_
     refine Lq (.bool ((canon s.nodes z_489) != (canon s.nodes z_489))) rfl rfl rfl rfl ?_
     have c633 : ((canon s.nodes z_489) != (canon s.nodes z_489)) = false := (by first | exact bneF rfl | simp)
     refine L_guard rfl rfl rfl rfl c633 ?_
     refine Lq (ptr p18 0) rfl rfl rfl rfl ?_
     refine L_guard rfl rfl rfl rfl c633 ?_
     refine Lq (int z_489) rfl rfl rfl rfl ?_
     refine L_guard rfl rfl rfl rfl c633 ?_
     refine L_callG hst632 (v := (int (clsL s.nodes z_489))) rfl rfl rfl (x_call (vs := #[(ptr p18 0), (int z_489)]) rfl rfl (by kernel_rfl) ent_22) (Class_spec z_489 (Tree.view hm603 (hst632.g 0) hst632.rle') (Le.refl _)) (fun w635 hst636 => ?_)
     refine L_guard rfl rfl rfl rfl c633 ?_
     refine Lq (ptr p46 0) rfl rfl rfl rfl ?_
     refine L_guard rfl rfl rfl rfl c633 ?_
     refine Lq (int z_489) rfl rfl rfl rfl ?_
     refine L_guard rfl rfl rfl rfl c633 ?_
     refine L_callG hst636 (v := (int (clsL s.nodes z_489))) rfl rfl rfl (x_call (vs := #[(ptr p46 0), (int z_489)]) rfl rfl (by kernel_rfl) ent_36) (by have h_ := (ClassR_spec z_489 (RefT.view hm604 (hst636.g 1) hst636.rle') (Le.refl _)); rw [nds_shs] at h_; exact h_) (fun w637 hst638 => ?_)
     refine L_guard rfl rfl rfl rfl c633 ?_
     refine Lq (.bool ((clsL s.nodes z_489) != (clsL s.nodes z_489))) rfl rfl rfl (by kernel_rfl) ?_
     refine Lq (.bool ((clsL s.nodes z_489) != (clsL s.nodes z_489))) rfl rfl rfl (x_pick rfl rfl (by rw [c633]; rfl)) ?_
     refine Lq (.bool ((clsL s.nodes z_489) != (clsL s.nodes z_489))) rfl rfl rfl rfl ?_
     have c639 : ((clsL s.nodes z_489) != (clsL s.nodes z_489)) = false := (by first | exact bneF rfl | simp)
     refine L_guard rfl rfl rfl rfl c639 ?_
     refine Lq (ptr p18 0) rfl rfl rfl rfl ?_
     refine L_guard rfl rfl rfl rfl c639 ?_
     refine Lq (int z_489) rfl rfl rfl rfl ?_
     refine L_guard rfl rfl rfl rfl c639 ?_
     refine L_callG hst638 (v := (int (rootL s.nodes s.roots z_489))) rfl rfl rfl (x_call (vs := #[(ptr p18 0), (int z_489)]) rfl rfl (by kernel_rfl) ent_26) (Root_spec z_489 (Tree.view hm603 (hst638.g 0) hst638.rle') (Le.refl _)) (fun w641 hst642 => ?_)
     refine L_guard rfl rfl rfl rfl c639 ?_
     refine Lq (ptr p46 0) rfl rfl rfl rfl ?_
     refine L_guard rfl rfl rfl rfl c639 ?_
     refine Lq (int z_489) rfl rfl rfl rfl ?_
     refine L_guard rfl rfl rfl rfl c639 ?_
     refine L_callG hst642 (v := (int (rootL s.nodes s.roots z_489))) rfl rfl rfl (x_call (vs := #[(ptr p46 0), (int z_489)]) rfl rfl (by kernel_rfl) ent_37) (by have h_ := (RootR_spec z_489 (RefT.view hm604 (hst642.g 1) hst642.rle') (Le.refl _)); rw [nds_shs] at h_; exact h_) (fun w643 hst644 => ?_)
     refine L_guard rfl rfl rfl rfl c639 ?_
     refine Lq (.bool ((rootL s.nodes s.roots z_489) != (rootL s.nodes s.roots z_489))) rfl rfl rfl (by kernel_rfl) ?_
     refine Lq (.bool ((rootL s.nodes s.roots z_489) != (rootL s.nodes s.roots z_489))) rfl rfl rfl (x_pick rfl rfl (by rw [c639]; rfl)) ?_
     refine Lq (.bool ((rootL s.nodes s.roots z_489) != (rootL s.nodes s.roots z_489))) rfl rfl rfl rfl ?_
     have c645 : ((rootL s.nodes s.roots z_489) != (rootL s.nodes s.roots z_489)) = false := (by first | exact bneF rfl | simp)
     refine L_guard rfl rfl rfl rfl c645 ?_
     refine Lq (ptr p18 0) rfl rfl rfl rfl ?_
     refine L_guard rfl rfl rfl rfl c645 ?_
     refine Lq (int z_489) rfl rfl rfl rfl ?_
     refine L_guard rfl rfl rfl rfl c645 ?_
     have hst647 := hst644
     refine L_callS [] [cT490, cU491, one b1 (.cells #[(int xa), (int ya), (int za)] 57 (0, 0))] hst647 rfl rfl rfl (x_call (vs := #[(ptr p18 0), (int z_489)]) rfl rfl (by kernel_rfl) ent_24) (Names_spec z_489 (hst647.sats.take 0 rfl) (Tree.view hm603 (hst644.g 0) hst644.rle')) (fun v648 w649 R650 L651 hp652 hle653 hst654 => ?_)
     have hm655 := Tree.lift hm603 hle653
     have hm656 := RefT.lift hm604 hle653
     obtain ⟨c657, rfl, ho658⟩ := hp652
     have hnb659 := namesL_bd hbd.names z_489
     refine L_guard rfl rfl rfl rfl c645 ?_
     refine Lq (ptr p46 0) rfl rfl rfl rfl ?_
     refine L_guard rfl rfl rfl rfl c645 ?_
     refine Lq (int z_489) rfl rfl rfl rfl ?_
     refine L_guard rfl rfl rfl rfl c645 ?_
     have hst660 := hst654
     refine L_callS [] [c657, cT490, cU491, one b1 (.cells #[(int xa), (int ya), (int za)] 57 (0, 0))] hst660 rfl rfl rfl (x_call (vs := #[(ptr p46 0), (int z_489)]) rfl rfl (by kernel_rfl) ent_33) ((by have h_ := NamesR_spec z_489 (hst660.sats.take 0 rfl) (RefT.view hm656 (hst654.g 2) hst654.rle'); rw [nds_shs] at h_; exact h_)) (fun v661 w662 R663 L664 hp665 hle666 hst667 => ?_)
     have hm668 := OwnL.mono ho658 hle666
     have hm669 := Tree.lift hm655 hle666
     have hm670 := RefT.lift hm656 hle666
     obtain ⟨c671, rfl, ho672⟩ := hp665
     obtain ⟨R673, hst674, hle675, hc676⟩ := Step.frz hst667
     have hm677 := OwnL.mono hm668 hle675
     have hm678 := Tree.lift hm669 hle675
     have hm679 := RefT.lift hm670 hle675
     have hrd680 := OwnL.freeze ho672 hle675 hc676
     have hnl681 : (namesL s.nodes z_489).length ≤ 1000000 := namesL_small (RefT.small hm679) z_489
     refine L_guard rfl rfl rfl rfl c645 ?_
     obtain ⟨R682, hst683, hle684, hc685⟩ := Step.frz hst674
     have hm686 := Tree.lift hm678 hle684
     have hm687 := RefT.lift hm679 hle684
     have hrd688 := OwnL.freeze hm677 hle684 hc685
     obtain ⟨a689, cap690, e691, hc692⟩ := hrd688.shape
     subst e691
     obtain ⟨a693, cap694, e695, hc696⟩ := hrd680.shape
     subst e695
     refine L_callG hst683 (v := (.bool (decide ((namesL s.nodes z_489) = (namesL s.nodes z_489))))) rfl rfl rfl (x_call (vs := #[(.slice a689 ((namesL s.nodes z_489).length) cap690), (.slice a693 ((namesL s.nodes z_489).length) cap694)]) rfl rfl (by kernel_rfl) ent_23) (EqualR_spec (Le.refl _) (RdS.mono hrd688 hst683.rle') (RdS.mono hrd680 (Le.trans hle684 hst683.rle')) (by first | omega | assumption | (simp only [List.length_append, List.length_cons, List.length_nil]; omega)) (by first | omega | assumption | (simp only [List.length_append, List.length_cons, List.length_nil]; omega))) (fun w697 hst698 => ?_)
     refine L_guard rfl rfl rfl rfl c645 ?_
     refine Lq (.bool (!(decide ((namesL s.nodes z_489) = (namesL s.nodes z_489))))) rfl rfl rfl rfl ?_
     refine Lq (.bool (!(decide ((namesL s.nodes z_489) = (namesL s.nodes z_489))))) rfl rfl rfl (x_pick rfl rfl (by rw [c645]; rfl)) ?_
     refine Lq (.bool (!(decide ((namesL s.nodes z_489) = (namesL s.nodes z_489))))) rfl rfl rfl rfl ?_
     have c699 : (decide ((namesL s.nodes z_489) = (namesL s.nodes z_489))) = true := (decide_eq_true rfl)
     have q700 := of_decide_eq_true c699
     refine L_guard rfl rfl rfl rfl (by rw [c699]; rfl) ?_
     refine Lq (int ((slotL s.nodes z_489 (nameOf za)).1)) rfl rfl rfl rfl ?_
     refine L_guard rfl rfl rfl rfl (by rw [c699]; rfl) ?_
     refine Lq (int ((slotL s.nodes z_489 (nameOf za)).1)) rfl rfl rfl rfl ?_
     refine L_guard rfl rfl rfl rfl (by rw [c699]; rfl) ?_
     refine Lq (.bool (((slotL s.nodes z_489 (nameOf za)).1) != ((slotL s.nodes z_489 (nameOf za)).1))) rfl rfl rfl (by kernel_rfl) ?_
     refine Lq (.bool (((slotL s.nodes z_489 (nameOf za)).1) != ((slotL s.nodes z_489 (nameOf za)).1))) rfl rfl rfl (x_pick rfl rfl (by rw [c699]; rfl)) ?_
     refine Lq (.bool (((slotL s.nodes z_489 (nameOf za)).1) != ((slotL s.nodes z_489 (nameOf za)).1))) rfl rfl rfl rfl ?_
     have c701 : (((slotL s.nodes z_489 (nameOf za)).1) != ((slotL s.nodes z_489 (nameOf za)).1)) = false := (by first | exact bneF rfl | simp)
     refine L_guard rfl rfl rfl rfl c701 ?_
     refine Lq (.bool ((slotL s.nodes z_489 (nameOf za)).2)) rfl rfl rfl rfl ?_
     refine L_guard rfl rfl rfl rfl c701 ?_
     refine Lq (.bool ((slotL s.nodes z_489 (nameOf za)).2)) rfl rfl rfl rfl ?_
     refine L_guard rfl rfl rfl rfl c701 ?_
     refine Lq (.bool (((slotL s.nodes z_489 (nameOf za)).2) != ((slotL s.nodes z_489 (nameOf za)).2))) rfl rfl rfl (by kernel_rfl) ?_
     refine Lq (.bool (((slotL s.nodes z_489 (nameOf za)).2) != ((slotL s.nodes z_489 (nameOf za)).2))) rfl rfl rfl (x_pick rfl rfl (by rw [c701]; rfl)) ?_
     refine Lq (.bool (((slotL s.nodes z_489 (nameOf za)).2) != ((slotL s.nodes z_489 (nameOf za)).2))) rfl rfl rfl rfl ?_
     have c703 : (((slotL s.nodes z_489 (nameOf za)).2) != ((slotL s.nodes z_489 (nameOf za)).2)) = false := (by first | exact bneF rfl | simp)
     refine L_guard rfl rfl rfl rfl c703 ?_
     refine Lq (int ((findL s.nodes ya (namesL s.nodes z_489)).1)) rfl rfl rfl rfl ?_
     refine L_guard rfl rfl rfl rfl c703 ?_
     refine Lq (int ((findL s.nodes ya (namesL s.nodes z_489)).1)) rfl rfl rfl rfl ?_
     refine L_guard rfl rfl rfl rfl c703 ?_
     refine Lq (.bool (((findL s.nodes ya (namesL s.nodes z_489)).1) != ((findL s.nodes ya (namesL s.nodes z_489)).1))) rfl rfl rfl (by kernel_rfl) ?_
     refine Lq (.bool (((findL s.nodes ya (namesL s.nodes z_489)).1) != ((findL s.nodes ya (namesL s.nodes z_489)).1))) rfl rfl rfl (x_pick rfl rfl (by rw [c703]; rfl)) ?_
     refine Lq (.bool (((findL s.nodes ya (namesL s.nodes z_489)).1) != ((findL s.nodes ya (namesL s.nodes z_489)).1))) rfl rfl rfl rfl ?_
     have c704 : (((findL s.nodes ya (namesL s.nodes z_489)).1) != ((findL s.nodes ya (namesL s.nodes z_489)).1)) = false := (by first | exact bneF rfl | simp)
     refine L_guard rfl rfl rfl rfl c704 ?_
     refine Lq (.bool ((findL s.nodes ya (namesL s.nodes z_489)).2)) rfl rfl rfl rfl ?_
     refine L_guard rfl rfl rfl rfl c704 ?_
     refine Lq (.bool ((findL s.nodes ya (namesL s.nodes z_489)).2)) rfl rfl rfl rfl ?_
     refine L_guard rfl rfl rfl rfl c704 ?_
     refine Lq (.bool (((findL s.nodes ya (namesL s.nodes z_489)).2) != ((findL s.nodes ya (namesL s.nodes z_489)).2))) rfl rfl rfl (by kernel_rfl) ?_
     refine Lq (.bool (((findL s.nodes ya (namesL s.nodes z_489)).2) != ((findL s.nodes ya (namesL s.nodes z_489)).2))) rfl rfl rfl (x_pick rfl rfl (by rw [c704]; rfl)) ?_
     refine L_nil ?_
     have c706 : (((findL s.nodes ya (namesL s.nodes z_489)).2) != ((findL s.nodes ya (namesL s.nodes z_489)).2)) = false := (by first | exact bneF rfl | simp)
     refine W_cond_false (by show Value.bool _ = _; exact congrArg Value.bool c706) ?_
     refine W_skip ?_
     refine W_region_lit ?_
     refine Lq (int z_489) rfl rfl rfl rfl ?_
     refine Lq (int (z_489 + 1)) rfl rfl rfl (x_add rfl rfl rfl (by constructor <;> omega)) ?_
     refine Lq (int (z_489 + 1)) rfl rfl rfl rfl ?_
     refine L_nil ?_
     refine ⟨((s.nodes.length : Int) + 2 - (z_489 + 1)).toNat, by first | omega | (simp only [List.length_append, List.length_cons, List.length_nil]; omega), ?_⟩
     exact ⟨_, _, (z_489 + 1), cT490, cU491, (upd_of (upd_of (upd_of (upd_of (upd_of (upd_of (upd_of (upd_of (upd_of (upd_of (upd_of (upd_of (upd_of (upd_of (upd_of (upd_of (upd_of (upd_of (upd_of (upd_of (upd_of (upd_of (upd_of (upd_of rfl rfl) rfl) rfl) rfl) rfl) rfl) rfl) rfl) rfl) rfl) rfl) rfl) rfl) rfl) rfl) rfl) rfl) rfl) rfl) rfl) rfl) rfl) rfl) rfl), hmk479, (((hst698.front 2 rfl rfl).front 2 rfl rfl).front 2 rfl rfl), (Le.trans hle482 (Le.trans hle531 (Le.trans hle539 (Le.trans hle593 (Le.trans hle601 (Le.trans hle653 (Le.trans hle666 (Le.trans hle675 hle684)))))))), hm686, hm687, (by omega), (by omega), rfl⟩
    ·
     have q707 := of_decide_eq_false c495
     refine W_cond_false (by show Value.bool _ = _; exact congrArg Value.bool c495) ?_
     refine W_exit ?_
     refine W_seq ?_
     refine W_region_draw [] (fun w => Le R488 (hp w) ∧ Le cT490 (hp w) ∧ Le cU491 (hp w) ∧ Le (one b1 (.cells #[(int xa), (int ya), (int za)] 57 (0, 0))) (hp w)) hmix (by decide +kernel) (fun _ _ h => h) ?_
     have hst709 := hst494.draws (w493.drawn + 1)
     generalize draws w493 (w493.drawn + 1) = w708 at hst709 ⊢
     refine LP (.bool true) 0 rfl rfl rfl (fun u711 => rfl) hst709.a3 ?_
     refine LP (.bool true) 1 rfl rfl rfl (fun u714 => rfl) hst709.a3 ?_
     refine LP (ptr p18 0) 2 rfl rfl rfl (fun u717 => rfl) hst709.a3 ?_ (hw := (Want.of rfl rfl rfl rfl rfl))
     refine LP (ptr b1 0) 3 rfl rfl rfl (fun u720 => (by kernel_rfl)) hst709.a3 ?_ (hw := (Want.of rfl rfl rfl rfl rfl))
     refine LT (int xa) 4 rfl rfl rfl (fun u723 hF724 => (x_load rfl rfl (run_loadVar_one ti_3 (hF724.2.2.2 _ _ (one_self _ _)) rfl))) hst709.a3 ?_ (hw := (Want.of rfl rfl rfl rfl rfl))
     refine LP (ptr p46 0) 6 rfl rfl rfl (fun u728 => rfl) hst709.a3 ?_ (hw := (Want.of rfl rfl rfl rfl rfl))
     refine LP (ptr b1 0) 7 rfl rfl rfl (fun u733 => (by kernel_rfl)) hst709.a3 ?_ (hw := (Want.of rfl rfl rfl rfl rfl))
     refine LT (int xa) 8 rfl rfl rfl (fun u738 hF739 => (x_load rfl rfl (run_loadVar_one ti_3 (hF739.2.2.2 _ _ (one_self _ _)) rfl))) hst709.a3 ?_ (hw := (Want.of rfl rfl rfl rfl rfl))
     refine LA_all [5] (by decide +kernel) (by simp) ?_
     intro i_ hi_
     simp only [List.mem_cons, List.not_mem_nil, or_false] at hi_
     subst hi_
     refine One_call (i := 5) rfl rfl rfl (Want.of rfl rfl rfl rfl rfl) (x_call (vs := #[(ptr p18 0), (int xa)]) rfl rfl (by kernel_rfl) ent_21) (Canon_spec xa (Tree.view hi483 (hst709.g 0) hst709.rle') (Le.refl _)) ?_
     rintro e745 w743 ⟨rfl, hw746⟩
     have hst744 := hst709.grown hw746
     refine ⟨_, rfl, (fun _ => hst744.a3), ?_⟩
     refine LA_all [9] (by decide +kernel) (by simp) ?_
     intro i_ hi_
     simp only [List.mem_cons, List.not_mem_nil, or_false] at hi_
     subst hi_
     refine One_call (i := 9) rfl rfl rfl (Want.of rfl rfl rfl rfl rfl) (x_call (vs := #[(ptr p46 0), (int xa)]) rfl rfl (by kernel_rfl) ent_35) (by have h_ := (CanonR_spec xa (RefT.view hi484 (hst744.g 1) hst744.rle') (Le.refl _)); rw [nds_shs] at h_; exact h_) ?_
     rintro e752 w750 ⟨rfl, hw753⟩
     have hst751 := hst744.grown hw753
     refine ⟨_, rfl, (fun _ => hst751.a3), ?_⟩
     refine LP (.bool ((canon s.nodes xa) == (canon s.nodes xa))) 10 rfl rfl rfl (fun u755 => (by kernel_rfl)) hst751.a3 ?_ (hw := (Want.of rfl rfl rfl rfl rfl))
     refine LP (.bool ((canon s.nodes xa) == (canon s.nodes xa))) 11 rfl rfl rfl (fun u758 => rfl) hst751.a3 ?_
     refine LP (.bool ((canon s.nodes xa) == (canon s.nodes xa))) 12 rfl rfl rfl (fun u761 => rfl) hst751.a3 ?_
     have c764 : ((canon s.nodes xa) == (canon s.nodes xa)) = true := (beqT rfl)
     have q765 := eq_of_beq c764
     refine LP (ptr p18 0) 13 rfl rfl rfl (fun u767 => rfl) hst751.a3 ?_ (hw := (Want.of rfl rfl rfl rfl (by rw [c764]; rfl)))
     refine LP (ptr b1 1) 14 rfl rfl rfl (fun u770 => (by kernel_rfl)) hst751.a3 ?_ (hw := (Want.of rfl rfl rfl rfl (by rw [c764]; rfl)))
     refine LT (int ya) 15 rfl rfl rfl (fun u773 hF774 => (x_load rfl rfl (run_loadVar_one ti_3 (hF774.2.2.2 _ _ (one_self _ _)) rfl))) hst751.a3 ?_ (hw := (Want.of rfl rfl rfl rfl (by rw [c764]; rfl)))
     refine LP (ptr p46 0) 17 rfl rfl rfl (fun u778 => rfl) hst751.a3 ?_ (hw := (Want.of rfl rfl rfl rfl (by rw [c764]; rfl)))
     refine LP (ptr b1 1) 18 rfl rfl rfl (fun u783 => (by kernel_rfl)) hst751.a3 ?_ (hw := (Want.of rfl rfl rfl rfl (by rw [c764]; rfl)))
     refine LT (int ya) 19 rfl rfl rfl (fun u788 hF789 => (x_load rfl rfl (run_loadVar_one ti_3 (hF789.2.2.2 _ _ (one_self _ _)) rfl))) hst751.a3 ?_ (hw := (Want.of rfl rfl rfl rfl (by rw [c764]; rfl)))
     refine LA_all [16] (by decide +kernel) (by simp) ?_
     intro i_ hi_
     simp only [List.mem_cons, List.not_mem_nil, or_false] at hi_
     subst hi_
     refine One_call (i := 16) rfl rfl rfl (Want.of rfl rfl rfl rfl (by rw [c764]; rfl)) (x_call (vs := #[(ptr p18 0), (int ya)]) rfl rfl (by kernel_rfl) ent_26) (Root_spec ya (Tree.view hi483 (hst751.g 0) hst751.rle') (Le.refl _)) ?_
     rintro e795 w793 ⟨rfl, hw796⟩
     have hst794 := hst751.grown hw796
     refine ⟨_, rfl, (fun _ => hst794.a3), ?_⟩
     refine LA_all [20] (by decide +kernel) (by simp) ?_
     intro i_ hi_
     simp only [List.mem_cons, List.not_mem_nil, or_false] at hi_
     subst hi_
     refine One_call (i := 20) rfl rfl rfl (Want.of rfl rfl rfl rfl (by rw [c764]; rfl)) (x_call (vs := #[(ptr p46 0), (int ya)]) rfl rfl (by kernel_rfl) ent_37) (by have h_ := (RootR_spec ya (RefT.view hi484 (hst794.g 1) hst794.rle') (Le.refl _)); rw [nds_shs] at h_; exact h_) ?_
     rintro e802 w800 ⟨rfl, hw803⟩
     have hst801 := hst794.grown hw803
     refine ⟨_, rfl, (fun _ => hst801.a3), ?_⟩
     refine LP (.bool ((rootL s.nodes s.roots ya) == (rootL s.nodes s.roots ya))) 21 rfl rfl rfl (fun u805 => (by kernel_rfl)) hst801.a3 ?_ (hw := (Want.of rfl rfl rfl rfl (by rw [c764]; rfl)))
     refine LP (.bool ((rootL s.nodes s.roots ya) == (rootL s.nodes s.roots ya))) 22 rfl rfl rfl (fun u808 => (x_pick rfl rfl (by rw [c764]; rfl))) hst801.a3 ?_
     refine LP (.bool ((rootL s.nodes s.roots ya) == (rootL s.nodes s.roots ya))) 23 rfl rfl rfl (fun u811 => rfl) hst801.a3 ?_
     have c814 : ((rootL s.nodes s.roots ya) == (rootL s.nodes s.roots ya)) = true := (beqT rfl)
     have q815 := eq_of_beq c814
     refine LP (ptr p18 0) 24 rfl rfl rfl (fun u817 => rfl) hst801.a3 ?_ (hw := (Want.of rfl rfl rfl rfl (by rw [c814]; rfl)))
     refine LP (ptr b1 0) 25 rfl rfl rfl (fun u820 => (by kernel_rfl)) hst801.a3 ?_ (hw := (Want.of rfl rfl rfl rfl (by rw [c814]; rfl)))
     refine LT (int xa) 26 rfl rfl rfl (fun u823 hF824 => (x_load rfl rfl (run_loadVar_one ti_3 (hF824.2.2.2 _ _ (one_self _ _)) rfl))) hst801.a3 ?_ (hw := (Want.of rfl rfl rfl rfl (by rw [c814]; rfl)))
     refine LP (ptr p46 0) 28 rfl rfl rfl (fun u828 => rfl) hst801.a3 ?_ (hw := (Want.of rfl rfl rfl rfl (by rw [c814]; rfl)))
     refine LP (ptr b1 0) 29 rfl rfl rfl (fun u833 => (by kernel_rfl)) hst801.a3 ?_ (hw := (Want.of rfl rfl rfl rfl (by rw [c814]; rfl)))
     refine LT (int xa) 30 rfl rfl rfl (fun u838 hF839 => (x_load rfl rfl (run_loadVar_one ti_3 (hF839.2.2.2 _ _ (one_self _ _)) rfl))) hst801.a3 ?_ (hw := (Want.of rfl rfl rfl rfl (by rw [c814]; rfl)))
     refine LA_all [27] (by decide +kernel) (by simp) ?_
     intro i_ hi_
     simp only [List.mem_cons, List.not_mem_nil, or_false] at hi_
     subst hi_
     refine One_call (i := 27) rfl rfl rfl (Want.of rfl rfl rfl rfl (by rw [c814]; rfl)) (x_call (vs := #[(ptr p18 0), (int xa)]) rfl rfl (by kernel_rfl) ent_22) (Class_spec xa (Tree.view hi483 (hst801.g 0) hst801.rle') (Le.refl _)) ?_
     rintro e845 w843 ⟨rfl, hw846⟩
     have hst844 := hst801.grown hw846
     refine ⟨_, rfl, (fun _ => hst844.a3), ?_⟩
     refine LA_all [31] (by decide +kernel) (by simp) ?_
     intro i_ hi_
     simp only [List.mem_cons, List.not_mem_nil, or_false] at hi_
     subst hi_
     refine One_call (i := 31) rfl rfl rfl (Want.of rfl rfl rfl rfl (by rw [c814]; rfl)) (x_call (vs := #[(ptr p46 0), (int xa)]) rfl rfl (by kernel_rfl) ent_36) (by have h_ := (ClassR_spec xa (RefT.view hi484 (hst844.g 1) hst844.rle') (Le.refl _)); rw [nds_shs] at h_; exact h_) ?_
     rintro e852 w850 ⟨rfl, hw853⟩
     have hst851 := hst844.grown hw853
     refine ⟨_, rfl, (fun _ => hst851.a3), ?_⟩
     refine LP (.bool ((clsL s.nodes xa) == (clsL s.nodes xa))) 32 rfl rfl rfl (fun u855 => (by kernel_rfl)) hst851.a3 ?_ (hw := (Want.of rfl rfl rfl rfl (by rw [c814]; rfl)))
     refine LP (.bool ((clsL s.nodes xa) == (clsL s.nodes xa))) 33 rfl rfl rfl (fun u858 => (x_pick rfl rfl (by rw [c814]; rfl))) hst851.a3 ?_
     refine LP (.bool ((clsL s.nodes xa) == (clsL s.nodes xa))) 34 rfl rfl rfl (fun u861 => rfl) hst851.a3 ?_
     refine LA_done (by decide +kernel) ?_
     refine W_ret ?_
     refine ⟨_, _, res_run (rs := [.tmp 6]) (vs := [(.bool ((clsL s.nodes xa) == (clsL s.nodes xa)))]) Tryz.results7 (.cons (.tmp rfl) .nil) hmk479, ?_⟩
     exact ⟨_, _, _, rfl, (hst851).keepN 0 rfl, congrArg Value.bool (by first | exact bneF (by assumption) | exact bneF rfl | exact decide_eq_false (by assumption) | exact decide_eq_true (by assumption) | exact beqT (by assumption) | exact beqT rfl | assumption | exact decide_eq_true rfl), rfl⟩
end Go.Fx.YtjpdhfhiimbpgaaGreatDoor
