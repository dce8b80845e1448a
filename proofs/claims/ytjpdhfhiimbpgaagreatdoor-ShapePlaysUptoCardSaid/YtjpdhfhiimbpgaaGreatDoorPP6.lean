/-
  Sq19, Sp17, Sp28, Sq20, Sq21, put together.
-/
import Derived.Test.YtjpdhfhiimbpgaaGreatDoorPP5
set_option linter.unusedSimpArgs false
set_option linter.unusedVariables false
namespace Go.Fx.YtjpdhfhiimbpgaaGreatDoor
open Go Go.Fx Go.Proofs
set_option maxRecDepth 20000
set_option maxHeartbeats 1000000 in
theorem SplitR_spec {w : World} {R c : Hp} {p : Nat} {s : TS} {n : Int} (a : Int) (hs : Sats w R [c]) (htree : RefT R p s c) (hmx : s.nodes.length ≤ 900000) (hnx : s.next.length ≤ 900000) (hco : Core n s) :
    Calls Tryz.prog 48 #[ptr p 0, int a] w (Comes' w R [c] fun v' R' L' => ∃ c', v' = .tuple #[int (s.split a).1, int (s.split a).2.1] ∧ L' = [c'] ∧ RefT R' p ((s.split a).2.2) c') := by
 obtain ⟨xs, vL, vR, cL, cX, cR, hce, hd1, hd2, hd3, hL, hX, hRs, hag, hwf, hS, hrl⟩ := htree
 have hst1 : Step w R [c] w R [uni (refB p vL vR) (tri cL cX cR)] := by have h0 := Step.refl hs; rw [hce] at h0 ⊢; exact h0
 have hst := RefT.opened hst1 hd1 hd2 hd3
 clear hst1 hce hd1 hd2 hd3
 have hlen := hS.len
 have hrv := hwf.root
 have hxl := hag.len
 refine calls_of_W (n := 133) Tryz.func48 rfl Tryz.ntmps48 (Nat.le_of_ble_eq_true rfl) ?_
 refine W_seq ?_
 refine W_region_lit ?_
 refine Lq (int 0) rfl rfl rfl rfl ?_
 refine Lq (int 0) rfl rfl rfl rfl ?_
 refine L_nil ?_
 refine W_seq ?_
 refine W_seq ?_
 refine W_region_lit ?_
 refine Lq (ptr p 0) rfl rfl rfl rfl ?_
 refine Lq (int a) rfl rfl rfl rfl ?_
 have hne2 := nds_xs hag.1
 have hv1 : RefV (hp w) p (List.map Sn.sh xs) s.roots := ⟨_, _, (hst.g 0), RdS.shape (v := vL) (OwnL.freeze hL hst.rle' (hst.g 1)) (LnX.read hX hst.rle' (hst.g 2)), OwnL.freeze (v := vR) hRs hst.rle' (hst.g 3), by rw [hne2]; exact hS, by rw [hne2]; exact hrv, hrl⟩
 refine L_callG hst (v := (.bool (thereL s.nodes a))) rfl rfl rfl (x_call (vs := #[(ptr p 0), (int a)]) rfl rfl (by kernel_rfl) ent_62) (by have h_ := (thereR_spec a hv1 (Le.refl _)); rw [hne2] at h_; exact h_) (fun w3 hst4 => ?_)
 refine Lq (.bool (!(thereL s.nodes a))) rfl rfl rfl rfl ?_
 refine L_nil ?_
 rcases Bool.eq_false_or_eq_true (thereL s.nodes a) with c5 | c5
 ·
  have q6 := thereL_iff.1 c5
  refine W_cond_false (by show Value.bool _ = _; exact congrArg Value.bool (by rw [c5]; rfl)) ?_
  refine W_skip ?_
  refine W_seq ?_
  refine W_seq ?_
  refine W_region_lit ?_
  refine Lq (ptr p 0) rfl rfl rfl rfl ?_
  refine Lq (ptr p 0) rfl rfl rfl rfl ?_
  refine Lq (ptr p 0) rfl rfl rfl (by kernel_rfl) ?_
  refine Lq vL rfl rfl rfl (x_load rfl rfl (run_loadVar_one ti_70 (hst4.b 0) rfl)) ?_
  obtain ⟨a7, cap8, e9, hc10⟩ := hL.value
  subst e9
  refine Lq (int (xs.length : Int)) rfl rfl rfl (x_len_slice rfl sl_70 rfl) ?_
  refine Lq (.bool (decide ((xs.length : Int) ≥ 200))) rfl rfl rfl (by kernel_rfl) ?_
  refine L_nil ?_
  rcases Bool.eq_false_or_eq_true (decide ((xs.length : Int) ≥ 200)) with c11 | c11
  ·
   have q12 := of_decide_eq_true c11
   refine W_cond_true (by show Value.bool _ = _; exact congrArg Value.bool c11) ?_
   refine W_seq ?_
   refine W_region_lit ?_
   refine Lq (int 0) rfl rfl rfl rfl ?_
   refine Lq (int 2) rfl rfl rfl rfl ?_
   refine L_nil ?_
   refine W_ret ?_
   refine ⟨_, _, res_run (rs := [.tmp 4, .tmp 5]) (vs := [(int 0), (int 2)]) Tryz.results48 (.cons (.tmp rfl) (.cons (.tmp rfl) .nil)) rfl, ?_⟩
   have he := split_many (s := s) (a := a) c5 (by omega)
   rw [he]
   obtain ⟨c', hst', htree'⟩ := RefT.close (s := s) ((((hst4.front 3 rfl rfl).front 3 rfl rfl).front 3 rfl rfl).front 3 rfl rfl) hL hX hRs hag hwf hS hrl
   exact ⟨_, _, _, rfl, hst'.keepN 1 rfl, c', rfl, rfl, htree'⟩
  ·
   have q13 := of_decide_eq_false c11
   refine W_cond_false (by show Value.bool _ = _; exact congrArg Value.bool c11) ?_
   refine W_skip ?_
   refine W_seq ?_
   obtain ⟨an, rfl⟩ : ∃ n : Nat, a = (n : Int) := ⟨a.toNat, by omega⟩
   refine W_region_lit ?_
   refine Lq (ptr p 0) rfl rfl rfl rfl ?_
   refine Lq (int (an : Int)) rfl rfl rfl rfl ?_
   have hne15 := nds_xs hag.1
   have hv14 : RefV (hp w3) p (List.map Sn.sh xs) s.roots := ⟨_, _, (hst4.g 0), RdS.shape (v := (.slice a7 xs.length cap8)) (OwnL.freeze hL hst4.rle' (hst4.g 1)) (LnX.read hX hst4.rle' (hst4.g 2)), OwnL.freeze (v := vR) hRs hst4.rle' (hst4.g 3), by rw [hne15]; exact hS, by rw [hne15]; exact hrv, hrl⟩
   have hcl16 : cn s.nodes an < s.nodes.length := Cans.lt hS.can (by omega)
   have hq17 := canonN hS.can (k := an) (by omega)
   refine L_callG hst4 (v := (int (((cn s.nodes an) : Nat) : Int))) rfl rfl rfl (x_call (vs := #[(ptr p 0), (int (an : Int))]) rfl rfl (by kernel_rfl) ent_35) (by have h_ := (by have h_ := (CanonR_spec (an : Int) hv14 (Le.refl _)); rw [hne15] at h_; exact h_); rw [hq17] at h_; exact h_) (fun w18 hst19 => ?_)
   refine Lq (int (((cn s.nodes an) : Nat) : Int)) rfl rfl rfl rfl ?_
   refine L_nil ?_
   refine W_seq ?_
   obtain ⟨c0, hc0⟩ : ∃ k_, k_ = (cn s.nodes an) := ⟨_, rfl⟩
   have hlc0 : c0 < s.nodes.length := by rw [hc0]; omega
   rw [← hc0]
   have hcc : cn s.nodes c0 = c0 := by rw [hc0]; exact hS.can.idem (by omega)
   refine W_region_lit ?_
   refine Lq (ptr p 0) rfl rfl rfl rfl ?_
   refine Lq (ptr p 0) rfl rfl rfl rfl ?_
   refine Lq (ptr p 0) rfl rfl rfl (by kernel_rfl) ?_
   refine Lq (.slice a7 xs.length cap8) rfl rfl rfl (x_load rfl rfl (run_loadVar_one ti_70 (hst19.b 0) rfl)) ?_
   refine Lq (int (xs.length : Int)) rfl rfl rfl (x_len_slice rfl sl_70 rfl) ?_
   refine Lq (int (xs.length : Int)) rfl rfl rfl rfl ?_
   refine L_nil ?_
   refine W_seq ?_
   refine W_seq ?_
   refine W_region_lit ?_
   refine Lq (int 0) rfl rfl rfl rfl ?_
   refine L_nil ?_
   refine W_block ?_
   refine W_loop (I := fun σ w_ m_ => ∃ (σ0 : Fr) (k_ : Nat) (ys_ : List Sn) (cX2 : Hp), σ = upd (upd (upd (upd (upd (upd (upd (upd (upd (upd (upd (upd (upd (upd (upd (upd (upd (upd (upd (upd (upd (upd (upd (upd (upd σ0 0 (ptr p 0)) 1 (int (an : Int))) 4 (int 0)) 5 (int 0)) 6 (int (c0 : Int))) 7 (int (xs.length : Int))) 8 (int (k_ : Int))) 10 (ptr p 0)) 11 (int (an : Int))) 12 (.bool (thereL s.nodes (an : Int)))) 13 (.bool (!(thereL s.nodes (an : Int))))) 14 (ptr p 0)) 15 (ptr p 0)) 16 (ptr p 0)) 17 (.slice a7 xs.length cap8)) 18 (int (xs.length : Int))) 19 (.bool (decide ((xs.length : Int) ≥ 200)))) 20 (ptr p 0)) 21 (int (an : Int))) 22 (int (c0 : Int))) 23 (ptr p 0)) 24 (ptr p 0)) 25 (ptr p 0)) 26 (.slice a7 xs.length cap8)) 27 (int (xs.length : Int)) ∧ mks (σ0 0) = [] ∧ Step w R [c] w_ R [one p (.cells #[(.slice a7 xs.length cap8), vR] 72 (0, 0)), cL, cX2, cR] ∧ OwnL tySn 75 R (.slice a7 xs.length cap8) ys_ cL ∧ LnX R ys_ cX2 ∧ k_ ≤ xs.length ∧ List.map Sn.nd ys_ = List.map Sn.nd xs ∧ List.map Sn.v ys_ = List.map Sn.v xs ∧ (∀ j (hj : j < xs.length) (hj' : j < (ys_).length), (ys_)[j].lks = if j < k_ then (xs[j].lks).map (lkF (redir s.nodes (c0 : Int) (xs.length : Int))) else xs[j].lks) ∧ m_ = xs.length - k_) (m := xs.length - 0) ?_ ?_
   ·
    exact ⟨_, 0, xs, cX, (upd_of (upd_of (upd_of (upd_of (upd_of (upd_of (upd_of (upd_of (upd_of (upd_of (upd_of (upd_of (upd_of (upd_of (upd_of (upd_of (upd_of (upd_of (upd_of (upd_of (upd_of (upd_of (upd_of (upd_of (upd_of rfl rfl) rfl) rfl) rfl) rfl) rfl) rfl) rfl) rfl) rfl) rfl) rfl) rfl) rfl) rfl) rfl) rfl) rfl) rfl) rfl) rfl) rfl) rfl) rfl) rfl), rfl, ((((hst19.front 3 rfl rfl).front 3 rfl rfl).front 3 rfl rfl).front 3 rfl rfl), hL, hX, (by omega), rfl, rfl, (fun j hj hj' => by rw [if_neg (by omega)]), rfl⟩
   ·
    rintro m34 σ_ w22 ⟨s30, k_31, ys_32, cX233, rfl, hmk20, hst21, hi24, hi25, hf26, hf27, hf28, hf29, rfl⟩
    have hyl : ys_32.length = xs.length := by have h_ := congrArg List.length hf27; simpa using h_
    refine W_seq ?_
    refine W_seq ?_
    refine W_region_lit ?_
    refine Lq (int (k_31 : Int)) rfl rfl rfl rfl ?_
    refine Lq (ptr p 0) rfl rfl rfl rfl ?_
    refine Lq (ptr p 0) rfl rfl rfl rfl ?_
    refine Lq (ptr p 0) rfl rfl rfl (by kernel_rfl) ?_
    refine Lq (.slice a7 xs.length cap8) rfl rfl rfl (x_load rfl rfl (run_loadVar_one ti_70 (hst21.b 0) rfl)) ?_
    refine Lq (int (xs.length : Int)) rfl rfl rfl (x_len_slice rfl sl_70 rfl) ?_
    refine Lq (.bool (decide ((k_31 : Int) < (xs.length : Int)))) rfl rfl rfl (by kernel_rfl) ?_
    refine L_nil ?_
    rcases Bool.eq_false_or_eq_true (decide ((k_31 : Int) < (xs.length : Int))) with c35 | c35
    ·
     have q36 := of_decide_eq_true c35
     refine W_cond_true (by show Value.bool _ = _; exact congrArg Value.bool c35) ?_
     refine W_skip ?_
     refine W_seq ?_
     refine W_block ?_
     refine W_seq ?_
     obtain ⟨c1, c2, hE, hce2, hdE, hback, hread⟩ := hi25.look4 k_31 (by omega)
     obtain ⟨y, hy⟩ : ∃ y_, y_ = ys_32[k_31]'(by omega) := ⟨_, rfl⟩
     rw [← hy] at hE
     obtain ⟨a9, cap9, e9, hcp9⟩ := hE.value
     obtain ⟨yn, yl, yv⟩ := y
     dsimp only at hE e9 hcp9
     subst e9
     have hst37 := (hst21.front 2 rfl rfl)
     rw [hce2] at hst37
     have hst38 := hst37.split hdE
     have hylb : yl.length ≤ 1000000 := by have h1_ := hf29 k_31 (by omega) (by omega); rw [if_neg (by omega), ← hy] at h1_; have h2_ := congrArg List.length (h1_.trans (hag.2 k_31 (by omega))); have h3_ := lks_len s.next (k_31 : Int); dsimp only at h2_; omega
     refine W_region_lit ?_
     refine Lq (int 0) rfl rfl rfl rfl ?_
     refine L_nil ?_
     refine W_block ?_
     refine W_loop (I := fun σ w_ m_ => ∃ (σ0 : Fr) (j_ : Nat) (cE : Hp), σ = upd (upd (upd (upd (upd (upd (upd (upd (upd (upd (upd (upd (upd (upd (upd (upd (upd (upd (upd (upd (upd (upd (upd (upd (upd (upd (upd (upd (upd (upd (upd (upd (upd σ0 0 (ptr p 0)) 1 (int (an : Int))) 4 (int 0)) 5 (int 0)) 6 (int (c0 : Int))) 7 (int (xs.length : Int))) 8 (int (k_31 : Int))) 9 (int (j_ : Int))) 10 (ptr p 0)) 11 (int (an : Int))) 12 (.bool (thereL s.nodes (an : Int)))) 13 (.bool (!(thereL s.nodes (an : Int))))) 14 (ptr p 0)) 15 (ptr p 0)) 16 (ptr p 0)) 17 (.slice a7 xs.length cap8)) 18 (int (xs.length : Int))) 19 (.bool (decide ((xs.length : Int) ≥ 200)))) 20 (ptr p 0)) 21 (int (an : Int))) 22 (int (c0 : Int))) 23 (ptr p 0)) 24 (ptr p 0)) 25 (ptr p 0)) 26 (.slice a7 xs.length cap8)) 27 (int (xs.length : Int))) 28 (int (k_31 : Int))) 29 (ptr p 0)) 30 (ptr p 0)) 31 (ptr p 0)) 32 (.slice a7 xs.length cap8)) 33 (int (xs.length : Int))) 34 (.bool (decide ((k_31 : Int) < (xs.length : Int)))) ∧ mks (σ0 0) = [] ∧ Step w R [c] w_ R [cE, c2, one p (.cells #[(.slice a7 xs.length cap8), vR] 72 (0, 0)), cL, cR] ∧ OwnL tyLk 91 R (.slice a9 yl.length cap9) (mixL (lkF (redir s.nodes (c0 : Int) (xs.length : Int))) yl j_) cE ∧ j_ ≤ yl.length ∧ m_ = yl.length - j_) (m := yl.length - 0) ?_ ?_
     ·
      exact ⟨_, 0, c1, (upd_of (upd_of (upd_of (upd_of (upd_of (upd_of (upd_of (upd_of (upd_of (upd_of (upd_of (upd_of (upd_of (upd_of (upd_of (upd_of (upd_of (upd_of (upd_of (upd_of (upd_of (upd_of (upd_of (upd_of (upd_of (upd_of (upd_of (upd_of (upd_of (upd_of (upd_of (upd_of (upd_of rfl rfl) rfl) rfl) rfl) rfl) rfl) rfl) rfl) rfl) rfl) rfl) rfl) rfl) rfl) rfl) rfl) rfl) rfl) rfl) rfl) rfl) rfl) rfl) rfl) rfl) rfl) rfl) rfl) rfl) rfl) rfl) rfl) rfl), hmk20, (((((hst38.front 4 rfl rfl).front 4 rfl rfl).front 4 rfl rfl).front 4 rfl rfl).front 4 rfl rfl), (by rw [mixL_zero]; exact hE), (by omega), rfl⟩
     ·
      rintro m48 σ_ w41 ⟨s45, j_46, cE47, rfl, hmk39, hst40, hi43, hf44, rfl⟩
      have hml := mixL_len (lkF (redir s.nodes (c0 : Int) (xs.length : Int))) yl j_46
      refine W_seq ?_
      refine W_seq ?_
      refine W_region_lit ?_
      refine Lq (int (j_46 : Int)) rfl rfl rfl rfl ?_
      refine Lq (ptr p 0) rfl rfl rfl rfl ?_
      refine Lq (ptr p 0) rfl rfl rfl rfl ?_
      refine Lq (ptr p 0) rfl rfl rfl (by kernel_rfl) ?_
      refine Lq (.slice a7 xs.length cap8) rfl rfl rfl (x_load rfl rfl (run_loadVar_one ti_70 (hst40.b 2) rfl)) ?_
      refine Lq (int (k_31 : Int)) rfl rfl rfl rfl ?_
      obtain ⟨b49, cap50, N51, e52, hc53, hrow54, hback55⟩ := OwnL.row hi24 (by omega)
      obtain ⟨rfl, hl56, rfl⟩ := Value.slice.inj e52
      try rw [← hl56] at hback55
      obtain ⟨cl57, cs58, hr59, hcb60, hsg61⟩ := Row.at hrow54 k_31 (by omega)
      rw [← hy] at hr59
      obtain ⟨vn62, rfl, hvn63, a64, n65, cap66, e67⟩ := tySn_open hr59
      refine Lq (ptr b49 (0 + k_31 * 4)) rfl rfl rfl (x_indexAddr' rfl sl_70 ti_75 rfl rfl (by omega)) ?_
      refine Lq (ptr b49 (0 + k_31 * 4 + 3)) rfl rfl rfl (by kernel_rfl) ?_
      refine Lq (.slice a9 yl.length cap9) rfl rfl rfl (x_load rfl rfl (run_loadVar_one ti_73 ((hst40.g 3) _ _ hcb60) (seg_get (j := 3) hsg61 rfl))) ?_
      refine Lq (int (yl.length : Int)) rfl rfl rfl (x_len_slice rfl sl_73 rfl) ?_
      refine Lq (.bool (decide ((j_46 : Int) < (yl.length : Int)))) rfl rfl rfl (by kernel_rfl) ?_
      refine L_nil ?_
      rcases Bool.eq_false_or_eq_true (decide ((j_46 : Int) < (yl.length : Int))) with c68 | c68
      ·
       have q69 := of_decide_eq_true c68
       refine W_cond_true (by show Value.bool _ = _; exact congrArg Value.bool c68) ?_
       refine W_skip ?_
       refine W_seq ?_
       refine W_block ?_
       refine W_seq ?_
       refine W_region_lit ?_
       refine Lq (ptr p 0) rfl rfl rfl rfl ?_
       refine Lq (ptr p 0) rfl rfl rfl rfl ?_
       refine Lq (ptr p 0) rfl rfl rfl rfl ?_
       refine Lq (ptr p 0) rfl rfl rfl (by kernel_rfl) ?_
       refine Lq (.slice (some ⟨b49, 0, none⟩) xs.length cap8) rfl rfl rfl (x_load rfl rfl (run_loadVar_one ti_70 (hst40.b 2) rfl)) ?_
       refine Lq (int (k_31 : Int)) rfl rfl rfl rfl ?_
       obtain ⟨cl70, cs71, hr72, hcb73, hsg74⟩ := Row.at hrow54 k_31 (by omega)
       rw [← hy] at hr72
       obtain ⟨vn75, rfl, hvn76, a77, n78, cap79, e80⟩ := tySn_open hr72
       refine Lq (ptr b49 (0 + k_31 * 4)) rfl rfl rfl (x_indexAddr' rfl sl_70 ti_75 rfl rfl (by omega)) ?_
       refine Lq (ptr b49 (0 + k_31 * 4 + 3)) rfl rfl rfl (by kernel_rfl) ?_
       refine Lq (.slice a9 yl.length cap9) rfl rfl rfl (x_load rfl rfl (run_loadVar_one ti_73 ((hst40.g 3) _ _ hcb73) (seg_get (j := 3) hsg74 rfl))) ?_
       refine Lq (int (j_46 : Int)) rfl rfl rfl rfl ?_
       obtain ⟨b81, cap82, N83, e84, hc85, hrow86, hback87⟩ := OwnL.row hi43 (by omega)
       obtain ⟨rfl, hl88, rfl⟩ := Value.slice.inj e84
       try rw [← hl88] at hback87
       obtain ⟨cl89, cs90, hr91, hcb92, hsg93⟩ := Row.at hrow86 j_46 (by omega)
       have hmx94 := mixL_at (F := (lkF (redir s.nodes (c0 : Int) (xs.length : Int)))) (l := yl) (j := j_46) (by omega) (by omega)
       rw [hmx94] at hr91
       have hx95 := tyLk_open hr91
       subst hx95
       refine Lq (ptr b81 (0 + j_46 * 2)) rfl rfl rfl (x_indexAddr' rfl sl_73 ti_91 rfl rfl (by omega)) ?_
       refine Lq (ptr b81 (0 + j_46 * 2 + 1)) rfl rfl rfl (by kernel_rfl) ?_
       refine Lq (int ((yl[j_46]'(by omega)).2)) rfl rfl rfl (x_load rfl rfl (run_loadVar_one ti_3 ((hst40.g 0) _ _ hcb92) (seg_get (j := 1) hsg93 rfl))) ?_
       obtain ⟨l96, hv97, hne98⟩ := RefV.mix (R' := hp w41) (p := p) (k := k_31) (y := Sn.mk yn yl (.slice (some ⟨b81, 0, none⟩) yl.length cap9)) (m := (mixL (lkF (redir s.nodes (c0 : Int) (xs.length : Int))) yl j_46)) (hst40.g 2) hst40.rle' (hback55 R ys_32 cL (by first | rfl | (simp only [List.length_set]; done) | (simp only [List.length_set]; omega) | omega) hrow54) (hst40.g 3) hRs (hst40.g 4) hread (hst40.g 1) (hback87 R (mixL (lkF (redir s.nodes (c0 : Int) (xs.length : Int))) yl j_46) cE47 (by first | rfl | (simp only [List.length_set]; done) | (simp only [List.length_set]; omega) | omega) hrow86) (hst40.g 0) (by omega) hy (hf27.trans hag.1) hS hrv hrl
       refine L_callG hst40 (v := (int (canon s.nodes ((yl[j_46]'(by omega)).2)))) rfl rfl rfl (x_call (vs := #[(ptr p 0), (int ((yl[j_46]'(by omega)).2))]) rfl rfl (by kernel_rfl) ent_35) (by have h_ := (CanonR_spec ((yl[j_46]'(by omega)).2) hv97 (Le.refl _)); rw [hne98] at h_; exact h_) (fun w99 hst100 => ?_)
       refine Lq (int (c0 : Int)) rfl rfl rfl rfl ?_
       refine Lq (.bool ((canon s.nodes ((yl[j_46]'(by omega)).2)) == (c0 : Int))) rfl rfl rfl (by kernel_rfl) ?_
       refine L_nil ?_
       rcases Bool.eq_false_or_eq_true ((canon s.nodes ((yl[j_46]'(by omega)).2)) == (c0 : Int)) with c101 | c101
       ·
        have q102 := eq_of_beq c101
        refine W_cond_true (by show Value.bool _ = _; exact congrArg Value.bool c101) ?_
        refine W_region_lit ?_
        refine Lq (ptr p 0) rfl rfl rfl rfl ?_
        refine Lq (ptr p 0) rfl rfl rfl rfl ?_
        refine Lq (ptr p 0) rfl rfl rfl (by kernel_rfl) ?_
        refine Lq (.slice (some ⟨b49, 0, none⟩) xs.length cap8) rfl rfl rfl (x_load rfl rfl (run_loadVar_one ti_70 (hst100.b 2) rfl)) ?_
        refine Lq (int (k_31 : Int)) rfl rfl rfl rfl ?_
        obtain ⟨cl103, cs104, hr105, hcb106, hsg107⟩ := Row.at hrow54 k_31 (by omega)
        rw [← hy] at hr105
        obtain ⟨vn108, rfl, hvn109, a110, n111, cap112, e113⟩ := tySn_open hr105
        refine Lq (ptr b49 (0 + k_31 * 4)) rfl rfl rfl (x_indexAddr' rfl sl_70 ti_75 rfl rfl (by omega)) ?_
        refine Lq (ptr b49 (0 + k_31 * 4 + 3)) rfl rfl rfl (by kernel_rfl) ?_
        refine Lq (.slice (some ⟨b81, 0, none⟩) yl.length cap9) rfl rfl rfl (x_load rfl rfl (run_loadVar_one ti_73 ((hst100.g 3) _ _ hcb106) (seg_get (j := 3) hsg107 rfl))) ?_
        refine Lq (int (j_46 : Int)) rfl rfl rfl rfl ?_
        refine Lq (int (xs.length : Int)) rfl rfl rfl rfl ?_
        obtain ⟨cl114, cs115, hr116, hcb117, hsg118⟩ := Row.at hrow86 j_46 (by omega)
        have hmx119 := mixL_at (F := (lkF (redir s.nodes (c0 : Int) (xs.length : Int)))) (l := yl) (j := j_46) (by omega) (by omega)
        rw [hmx119] at hr116
        have hx120 := tyLk_open hr116
        subst hx120
        refine Lq (ptr b81 (0 + j_46 * 2)) rfl rfl rfl (x_indexAddr' rfl sl_73 ti_91 rfl rfl (by omega)) ?_
        refine Lq (ptr b81 (0 + j_46 * 2 + 1)) rfl rfl rfl (by kernel_rfl) ?_
        obtain ⟨c121, w122, hr123, hrow124, hst125⟩ := Row.storeG (P := Tryz.prog) (v := (int (xs.length : Int))) (y := ((yl[j_46]'(by omega)).1, (xs.length : Int))) hrow86 hst100 ti_3 j_46 (by omega) 1 (by decide) rfl rfl (fun c1 h1 => by rw [mixL_at _ (by omega)] at h1; rw [tyLk_open h1]; exact tyLk_mk _ _ _)
        refine L_skip rfl rfl (x_store rfl rfl rfl hr123) ?_
        refine L_nil ?_
        refine W_region_lit ?_
        refine Lq (int (j_46 : Int)) rfl rfl rfl rfl ?_
        refine Lq (int ((j_46 + 1 : Nat) : Int)) rfl rfl rfl (x_add_nat rfl rfl rfl (by omega)) ?_
        refine Lq (int ((j_46 + 1 : Nat) : Int)) rfl rfl rfl rfl ?_
        refine L_nil ?_
        refine ⟨yl.length - (j_46 + 1), by first | omega | (simp only [List.length_append, List.length_cons, List.length_nil]; omega), ?_⟩
        exact ⟨_, (j_46 + 1), c121, (upd_of (upd_of (upd_of (upd_of (upd_of (upd_of (upd_of (upd_of (upd_of (upd_of (upd_of (upd_of (upd_of (upd_of (upd_of (upd_of (upd_of (upd_of (upd_of (upd_of (upd_of (upd_of (upd_of (upd_of (upd_of (upd_of (upd_of (upd_of (upd_of (upd_of (upd_of (upd_of (upd_of rfl rfl) rfl) rfl) rfl) rfl) rfl) rfl) rfl) rfl) rfl) rfl) rfl) rfl) rfl) rfl) rfl) rfl) rfl) rfl) rfl) rfl) rfl) rfl) rfl) rfl) rfl) rfl) rfl) rfl) rfl) rfl) rfl) rfl), hmk39, (((((hst125.front 4 rfl rfl).front 4 rfl rfl).front 4 rfl rfl).front 4 rfl rfl).front 4 rfl rfl), (OwnL.cast (hback87 R (List.set (mixL (lkF (redir s.nodes (c0 : Int) (xs.length : Int))) yl j_46) j_46 ((yl[j_46]'(by omega)).1, (xs.length : Int))) c121 (by first | rfl | (simp only [List.length_set]; done) | (simp only [List.length_set]; omega) | omega) hrow124) (by rw [← mixL_set (by omega), lkF_yes (eq_of_beq c101)])), (by omega), rfl⟩
       ·
        have q126 := ne_of_beq_false c101
        refine W_cond_false (by show Value.bool _ = _; exact congrArg Value.bool c101) ?_
        refine W_skip ?_
        refine W_region_lit ?_
        refine Lq (int (j_46 : Int)) rfl rfl rfl rfl ?_
        refine Lq (int ((j_46 + 1 : Nat) : Int)) rfl rfl rfl (x_add_nat rfl rfl rfl (by omega)) ?_
        refine Lq (int ((j_46 + 1 : Nat) : Int)) rfl rfl rfl rfl ?_
        refine L_nil ?_
        refine ⟨yl.length - (j_46 + 1), by first | omega | (simp only [List.length_append, List.length_cons, List.length_nil]; omega), ?_⟩
        exact ⟨_, (j_46 + 1), cE47, (upd_of (upd_of (upd_of (upd_of (upd_of (upd_of (upd_of (upd_of (upd_of (upd_of (upd_of (upd_of (upd_of (upd_of (upd_of (upd_of (upd_of (upd_of (upd_of (upd_of (upd_of (upd_of (upd_of (upd_of (upd_of (upd_of (upd_of (upd_of (upd_of (upd_of (upd_of (upd_of (upd_of rfl rfl) rfl) rfl) rfl) rfl) rfl) rfl) rfl) rfl) rfl) rfl) rfl) rfl) rfl) rfl) rfl) rfl) rfl) rfl) rfl) rfl) rfl) rfl) rfl) rfl) rfl) rfl) rfl) rfl) rfl) rfl) rfl) rfl), hmk39, (((((hst100.front 4 rfl rfl).front 4 rfl rfl).front 4 rfl rfl).front 4 rfl rfl).front 4 rfl rfl), (OwnL.cast (hback87 R (mixL (lkF (redir s.nodes (c0 : Int) (xs.length : Int))) yl j_46) cE47 (by first | rfl | (simp only [List.length_set]; done) | (simp only [List.length_set]; omega) | omega) hrow86) (mixL_same (by omega) (lkF_no (ne_of_beq_false c101))).symm), (by omega), rfl⟩
      ·
       have q127 := of_decide_eq_false c68
       refine W_cond_false (by show Value.bool _ = _; exact congrArg Value.bool c68) ?_
       refine W_exit ?_
       have hE128 := OwnL.cast hi43 (mixL_all (by omega))
       have hst129 := (((((hst40.front 4 rfl rfl).front 4 rfl rfl).front 4 rfl rfl).front 4 rfl rfl).front 4 rfl rfl)
       have hd130 := (List.pairwise_cons.1 hst129.sats.dj).1 _ (List.mem_cons_self ..)
       have hX131 := hback _ (Sn.mk yn (yl.map (lkF (redir s.nodes (c0 : Int) (xs.length : Int)))) (.slice a9 yl.length cap9)) _ (Le.refl _) hE128 hd130
       have hst132 := hst129.join
       refine W_region_lit ?_
       refine Lq (int (k_31 : Int)) rfl rfl rfl rfl ?_
       refine Lq (int ((k_31 + 1 : Nat) : Int)) rfl rfl rfl (x_add_nat rfl rfl rfl (by omega)) ?_
       refine Lq (int ((k_31 + 1 : Nat) : Int)) rfl rfl rfl rfl ?_
       refine L_nil ?_
       refine ⟨xs.length - (k_31 + 1), by first | omega | (simp only [List.length_append, List.length_cons, List.length_nil]; omega), ?_⟩
       exact ⟨_, (k_31 + 1), (List.set ys_32 k_31 (Sn.mk yn (yl.map (lkF (redir s.nodes (c0 : Int) (xs.length : Int)))) (.slice a9 yl.length cap9))), (uni cE47 c2), (upd_of (upd_of (upd_of (upd_of (upd_of (upd_of (upd_of (upd_of (upd_of (upd_of (upd_of (upd_of (upd_of (upd_of (upd_of (upd_of (upd_of (upd_of (upd_of (upd_of (upd_of (upd_of (upd_of (upd_of (upd_of rfl rfl) rfl) rfl) rfl) rfl) rfl) rfl) rfl) rfl) rfl) rfl) rfl) rfl) rfl) rfl) rfl) rfl) rfl) rfl) rfl) rfl) rfl) rfl) rfl) rfl), hmk39, ((((hst132.front 3 rfl rfl).front 1 rfl rfl).front 3 rfl rfl).front 3 rfl rfl), (OwnL.relks (hback55 R ys_32 cL (by first | rfl | (simp only [List.length_set]; done) | (simp only [List.length_set]; omega) | omega) hrow54) (set_nd (by omega) (by rw [← hy])) (set_v (by omega) (by rw [← hy]))), hX131, (by omega), ((set_nd (by omega) (by rw [← hy])).trans hf27), ((set_v (by omega) (by rw [← hy])).trans hf28), (turned_step (by omega) (by omega) hf29 (by rw [← hy])), rfl⟩
    ·
     have q133 := of_decide_eq_false c35
     refine W_cond_false (by show Value.bool _ = _; exact congrArg Value.bool c35) ?_
     refine W_exit ?_
     refine W_seq ?_
     refine W_seq ?_
     refine W_region_lit ?_
     refine Lq (ptr p 0) rfl rfl rfl rfl ?_
     refine Lq (ptr p 0) rfl rfl rfl rfl ?_
     refine Lq (ptr p 0) rfl rfl rfl rfl ?_
     refine Lq (ptr p 0) rfl rfl rfl (by kernel_rfl) ?_
     refine Lq (.slice a7 xs.length cap8) rfl rfl rfl (x_load rfl rfl (run_loadVar_one ti_70 (hst21.b 0) rfl)) ?_
     refine Lq (int (c0 : Int)) rfl rfl rfl rfl ?_
     obtain ⟨b134, cap135, N136, e137, hc138, hrow139, hback140⟩ := OwnL.row hi24 (by omega)
     obtain ⟨rfl, hl141, rfl⟩ := Value.slice.inj e137
     try rw [← hl141] at hback140
     obtain ⟨cl142, cs143, hr144, hcb145, hsg146⟩ := Row.at hrow139 c0 (by omega)
     obtain ⟨x147, hx148⟩ : ∃ x_, x_ = (ys_32[c0]'(by omega)) := ⟨_, rfl⟩
     rw [← hx148] at hr144
     have hnd149 := nd_at (hf27.trans hag.1) (by omega) (by omega) hx148
     have hbn : x147.nd.names.length ≤ 1000000 := by rw [← hnd149]; exact hS.names _ _
     obtain ⟨vn150, rfl, hvn151, a152, n153, cap154, e155⟩ := tySn_open hr144
     refine Lq (ptr b134 (0 + c0 * 4)) rfl rfl rfl (x_indexAddr' rfl sl_70 ti_75 rfl rfl (by omega)) ?_
     refine Lq (ptr b134 (0 + c0 * 4)) rfl rfl rfl (by kernel_rfl) ?_
     refine Lq (int x147.nd.cls) rfl rfl rfl (x_load rfl rfl (run_loadVar_one ti_3 ((hst21.g 1) _ _ hcb145) (seg_get (j := 0) hsg146 rfl))) ?_
     have hne157 := nds_xs (hf27.trans hag.1)
     have hv156 : RefV (hp w22) p (List.map Sn.sh ys_32) s.roots := ⟨_, _, (hst21.g 0), RdS.shape (v := (.slice (some ⟨b134, 0, none⟩) xs.length cap8)) (OwnL.freeze (hback140 R ys_32 cL (by first | rfl | (simp only [List.length_set]; done) | (simp only [List.length_set]; omega) | omega) hrow139) hst21.rle' (hst21.g 1)) (LnX.read hi25 hst21.rle' (hst21.g 2)), OwnL.freeze (v := vR) hRs hst21.rle' (hst21.g 3), by rw [hne157]; exact hS, by rw [hne157]; exact hrv, hrl⟩
     refine L_callG hst21 (v := (int (rootL s.nodes s.roots x147.nd.cls))) rfl rfl rfl (x_call (vs := #[(ptr p 0), (int x147.nd.cls)]) rfl rfl (by kernel_rfl) ent_37) (by have h_ := (RootR_spec x147.nd.cls hv156 (Le.refl _)); rw [hne157] at h_; exact h_) (fun w158 hst159 => ?_)
     refine Lq (int (c0 : Int)) rfl rfl rfl rfl ?_
     refine Lq (.bool ((rootL s.nodes s.roots x147.nd.cls) == (c0 : Int))) rfl rfl rfl (by kernel_rfl) ?_
     refine L_nil ?_
     rcases Bool.eq_false_or_eq_true ((rootL s.nodes s.roots x147.nd.cls) == (c0 : Int)) with c160 | c160
     ·
      have q161 := eq_of_beq c160
      refine W_cond_true (by show Value.bool _ = _; exact congrArg Value.bool c160) ?_
      have hroot := eq_of_beq c160
      obtain ⟨kc, hkc, hkl⟩ := root_cls hroot
      obtain ⟨a162, cap163, e164, hc165⟩ := hRs.value
      subst e164
      obtain ⟨b166, cap167, N168, e169, hc170, hrow171, hback172⟩ := OwnL.row hRs (by omega)
      obtain ⟨rfl, hl173, rfl⟩ := Value.slice.inj e169
      try rw [← hl173] at hback172
      refine W_region_draw [14] (fun w => Le R (hp w) ∧ Le (one p (.cells #[(.slice (some ⟨b134, 0, none⟩) xs.length cap8), (.slice (some ⟨b166, 0, none⟩) s.roots.length cap163)] 72 (0, 0))) (hp w) ∧ Le cL (hp w) ∧ Le cX233 (hp w) ∧ Le cR (hp w)) hmix (by decide +kernel) (fun _ _ h => h) ?_
      have hst175 := hst159.draws (w158.drawn + 1)
      generalize draws w158 (w158.drawn + 1) = w174 at hst175 ⊢
      refine LP (ptr p 0) 0 rfl rfl rfl (fun u177 => rfl) hst175.a4 ?_
      refine LP (ptr p 0) 1 rfl rfl rfl (fun u180 => rfl) hst175.a4 ?_
      refine LP (ptr p 1) 2 rfl rfl rfl (fun u183 => (by kernel_rfl)) hst175.a4 ?_
      refine LT (.slice (some ⟨b166, 0, none⟩) s.roots.length cap163) 3 rfl rfl rfl (fun u186 hF187 => (x_load rfl rfl (run_loadVar_one ti_62 (hF187.2.1 _ _ (one_self _ _)) rfl))) hst175.a4 ?_
      refine LP (ptr p 0) 4 rfl rfl rfl (fun u189 => rfl) hst175.a4 ?_
      refine LP (ptr p 0) 5 rfl rfl rfl (fun u192 => rfl) hst175.a4 ?_
      refine LP (ptr p 0) 6 rfl rfl rfl (fun u195 => (by kernel_rfl)) hst175.a4 ?_
      refine LT (.slice (some ⟨b134, 0, none⟩) xs.length cap8) 7 rfl rfl rfl (fun u198 hF199 => (x_load rfl rfl (run_loadVar_one ti_70 (hF199.2.1 _ _ (one_self _ _)) rfl))) hst175.a4 ?_
      refine LP (int (c0 : Int)) 8 rfl rfl rfl (fun u201 => rfl) hst175.a4 ?_
      obtain ⟨cl206, cs207, hr208, hcb209, hsg210⟩ := Row.at hrow139 c0 (by omega)
      rw [← hx148] at hr208
      obtain ⟨vn211, rfl, hvn212⟩ := tySn_openC hr208 hkc
      refine LP (ptr b134 (0 + c0 * 4)) 9 rfl rfl rfl (fun u204 => (x_indexAddr' rfl sl_70 ti_75 rfl rfl (by omega))) hst175.a4 ?_
      refine LP (ptr b134 (0 + c0 * 4)) 10 rfl rfl rfl (fun u214 => (by kernel_rfl)) hst175.a4 ?_
      refine LT (int (kc : Int)) 11 rfl rfl rfl (fun u217 hF218 => (x_load rfl rfl (run_loadVar_one ti_3 (hF218.2.2.1 _ _ hcb209) (seg_get (j := 0) hsg210 rfl)))) hst175.a4 ?_
      refine LP (int (xs.length : Int)) 12 rfl rfl rfl (fun u220 => rfl) hst175.a4 ?_
      obtain ⟨cl225, cs226, hr227, hcb228, hsg229⟩ := Row.at hrow171 kc (by omega)
      have hx230 : cl225 = [.int .i64 (s.roots[kc]'(by omega))] := hr227
      subst hx230
      refine LP (ptr b166 (0 + kc * 1)) 13 rfl rfl rfl (fun u223 => (x_indexAddr' rfl sl_62 ti_3 rfl rfl (by omega))) hst175.a4 ?_
      refine LA_all [14] (by decide +kernel) (by simp) ?_
      intro i_ hi_
      simp only [List.mem_cons, List.not_mem_nil, or_false] at hi_
      subst hi_
      obtain ⟨c232, w233, hr234, hrow235, hst236⟩ := Row.store (P := Tryz.prog) (v := (int (xs.length : Int))) (y := (xs.length : Int)) hrow171 (hst175.front 3 rfl rfl) ti_3 kc (by omega) rfl
      refine One_skip (i := 14) rfl rfl (Want.plain rfl) (x_store rfl rfl rfl hr234) (fun h => absurd h (by decide +kernel)) ?_
      refine LA_done (by decide +kernel) ?_
      refine W_seq ?_
      refine W_region_draw [28] (fun w => Le R (hp w) ∧ Le (one p (.cells #[(.slice (some ⟨b134, 0, none⟩) xs.length cap8), (.slice (some ⟨b166, 0, none⟩) s.roots.length cap163)] 72 (0, 0))) (hp w)) hmix (by decide +kernel) (fun _ _ h => h) ?_
      have hst238 := hst236.draws (w233.drawn + 1)
      generalize draws w233 (w233.drawn + 1) = w237 at hst238 ⊢
      refine LP (ptr p 0) 0 rfl rfl rfl (fun u240 => rfl) ⟨hst238.rle', hst238.g 1⟩ ?_
      refine LP (ptr p 0) 1 rfl rfl rfl (fun u243 => rfl) ⟨hst238.rle', hst238.g 1⟩ ?_
      refine LP (ptr p 0) 2 rfl rfl rfl (fun u246 => rfl) ⟨hst238.rle', hst238.g 1⟩ ?_
      refine LP (ptr p 0) 3 rfl rfl rfl (fun u249 => (by kernel_rfl)) ⟨hst238.rle', hst238.g 1⟩ ?_
      refine LT (.slice (some ⟨b134, 0, none⟩) xs.length cap8) 4 rfl rfl rfl (fun u252 hF253 => (x_load rfl rfl (run_loadVar_one ti_70 (hF253.2 _ _ (one_self _ _)) rfl))) ⟨hst238.rle', hst238.g 1⟩ ?_
      refine LP (ptr p 0) 5 rfl rfl rfl (fun u255 => rfl) ⟨hst238.rle', hst238.g 1⟩ ?_
      refine LP (ptr p 0) 6 rfl rfl rfl (fun u258 => rfl) ⟨hst238.rle', hst238.g 1⟩ ?_
      refine LP (ptr p 0) 7 rfl rfl rfl (fun u261 => (by kernel_rfl)) ⟨hst238.rle', hst238.g 1⟩ ?_
      refine LT (.slice (some ⟨b134, 0, none⟩) xs.length cap8) 8 rfl rfl rfl (fun u264 hF265 => (x_load rfl rfl (run_loadVar_one ti_70 (hF265.2 _ _ (one_self _ _)) rfl))) ⟨hst238.rle', hst238.g 1⟩ ?_
      refine LP (int (c0 : Int)) 9 rfl rfl rfl (fun u267 => rfl) ⟨hst238.rle', hst238.g 1⟩ ?_
      obtain ⟨cl272, cs273, hr274, hcb275, hsg276⟩ := Row.at hrow139 c0 (by omega)
      rw [← hx148] at hr274
      obtain ⟨vn277, rfl, hvn278⟩ := tySn_openC hr274 hkc
      refine LP (ptr b134 (0 + c0 * 4)) 10 rfl rfl rfl (fun u270 => (x_indexAddr' rfl sl_70 ti_75 rfl rfl (by omega))) ⟨hst238.rle', hst238.g 1⟩ ?_
      refine LP (ptr b134 (0 + c0 * 4)) 11 rfl rfl rfl (fun u280 => (by kernel_rfl)) ⟨hst238.rle', hst238.g 1⟩ ?_
      refine LP (ptr p 0) 14 rfl rfl rfl (fun u287 => rfl) ⟨hst238.rle', hst238.g 1⟩ ?_
      refine LP (ptr p 0) 15 rfl rfl rfl (fun u294 => rfl) ⟨hst238.rle', hst238.g 1⟩ ?_
      refine LP (ptr p 0) 16 rfl rfl rfl (fun u301 => (by kernel_rfl)) ⟨hst238.rle', hst238.g 1⟩ ?_
      refine LT (.slice (some ⟨b134, 0, none⟩) xs.length cap8) 17 rfl rfl rfl (fun u308 hF309 => (x_load rfl rfl (run_loadVar_one ti_70 (hF309.2 _ _ (one_self _ _)) rfl))) ⟨hst238.rle', hst238.g 1⟩ ?_
      refine LP (int (c0 : Int)) 18 rfl rfl rfl (fun u315 => rfl) ⟨hst238.rle', hst238.g 1⟩ ?_
      obtain ⟨cl324, cs325, hr326, hcb327, hsg328⟩ := Row.at hrow139 c0 (by omega)
      rw [← hx148] at hr326
      obtain ⟨vn329, rfl, hvn330⟩ := tySn_openC hr326 hkc
      refine LP (ptr b134 (0 + c0 * 4)) 19 rfl rfl rfl (fun u322 => (x_indexAddr' rfl sl_70 ti_75 rfl rfl (by omega))) ⟨hst238.rle', hst238.g 1⟩ ?_
      refine LP (ptr b134 (0 + c0 * 4 + 2)) 20 rfl rfl rfl (fun u336 => (by kernel_rfl)) ⟨hst238.rle', hst238.g 1⟩ ?_
      refine LA_all [12, 13, 21] (by decide +kernel) (by simp) ?_
      intro i_ hi_
      simp only [List.mem_cons, List.not_mem_nil, or_false] at hi_
      rcases hi_ with rfl | rfl | rfl
      ·
       refine One_val (i := 12) (v := (int (kc : Int))) rfl rfl rfl (Want.plain rfl) (x_load rfl rfl (run_loadVar_one ti_3 ((hst238.g 2) _ _ hcb275) (seg_get (j := 0) hsg276 rfl))) (fun _ => ⟨hst238.rle', hst238.g 1⟩) ?_
       refine LA_all [13, 21] (by decide +kernel) (by simp) ?_
       intro i_ hi_
       simp only [List.mem_cons, List.not_mem_nil, or_false] at hi_
       rcases hi_ with rfl | rfl
       ·
        refine One_new hst238 (i := 13) (v := fun b => .slice (some ⟨b, 0, none⟩) 0 0) (ob := .cells #[] 9 (0, 0)) rfl rfl rfl (Want.plain rfl) (by kernel_rfl) (fun b350 w351 hst352 => ?_)
        refine ⟨(fun _ => ⟨hst352.rle', hst352.g 2⟩), ?_⟩
        refine LA_all [21] (by decide +kernel) (by simp) ?_
        intro i_ hi_
        simp only [List.mem_cons, List.not_mem_nil, or_false] at hi_
        subst hi_
        refine One_val (i := 21) (v := vn329) rfl rfl rfl (Want.plain rfl) (x_load rfl rfl (run_loadVar_one ti_42 ((hst352.g 3) _ _ hcb327) (seg_get (j := 2) hsg328 rfl))) (fun _ => ⟨hst352.rle', hst352.g 2⟩) ?_
        refine LA_all [22] (by decide +kernel) (by simp) ?_
        intro i_ hi_
        simp only [List.mem_cons, List.not_mem_nil, or_false] at hi_
        subst hi_
        have ho359 : OwnL Ty.str 9 R (.slice (some ⟨b350, 0, none⟩) 0 0) ([] : List Str) (one b350 (.cells #[] 9 (0, 0))) := OwnL.lit (cs := []) Encs.nil rfl (by decide)
        obtain ⟨v360, c361, w362, hr363, ho364, hst365⟩ := run_appendM (P := Tryz.prog) (tt := 42) sl_42 ti_9 rfl ho359 hst352 (RdS.mono hvn330 (Le.refl _)) hst352.rle' (by simp only [List.length_append, List.length_cons, List.length_nil]; omega) (by simp only [List.length_append, List.length_cons, List.length_nil, maxLen]; omega)
        refine One_val (i := 22) (v := v360) rfl rfl rfl (Want.plain rfl) (x_append rfl rfl rfl hr363) (fun _ => ⟨hst365.rle', hst365.g 2⟩) ?_
        obtain ⟨R366, hst367, hle368, hc369⟩ := Step.frz hst365
        have hm370 := Row.mono hrow235 hle368
        have hm371 := Row.mono hrow139 hle368
        have hm372 := LnX.mono hi25 hle368
        have hrd373 := OwnL.freeze ho364 hle368 hc369
        have hxs374 : (([] : List Str) ++ x147.nd.names).length = x147.nd.names.length := by simp
        obtain ⟨a378, cap379, e380, hc381⟩ := hrd373.shape
        subst e380
        refine LP (.agg #[(int (kc : Int)), (int (-1)), (.slice a378 ((([] : List Str) ++ x147.nd.names).length) cap379), (.slice none 0 0)]) 23 rfl rfl rfl (fun u376 => (by kernel_rfl)) ⟨(Le.trans hle368 hst367.rle'), hst367.g 1⟩ ?_
        refine LA_all [24] (by decide +kernel) (by simp) ?_
        intro i_ hi_
        simp only [List.mem_cons, List.not_mem_nil, or_false] at hi_
        subst hi_
        refine One_new hst367 (i := 24) (v := fun b => .slice (some ⟨b, 0, none⟩) 1 1) (ob := .cells #[(int (kc : Int)), (int (-1)), (.slice a378 ((([] : List Str) ++ x147.nd.names).length) cap379), (.slice none 0 0)] 75 (0, 0)) rfl rfl rfl (Want.plain rfl) (by kernel_rfl) (fun b385 w386 hst387 => ?_)
        refine ⟨(fun _ => ⟨(Le.trans hle368 hst387.rle'), hst387.g 2⟩), ?_⟩
        refine LA_all [25] (by decide +kernel) (by simp) ?_
        intro i_ hi_
        simp only [List.mem_cons, List.not_mem_nil, or_false] at hi_
        subst hi_
        have ho391 := (hback172 R366 (s.roots.set kc (xs.length : Int)) c232 (by first | rfl | (simp only [List.length_set]; done) | (simp only [List.length_set]; omega) | omega) hm370)
        have ho392 := (hback140 R366 ys_32 cL (by first | rfl | (simp only [List.length_set]; done) | (simp only [List.length_set]; omega) | omega) hm371)
        refine One_append (j := 25) hst387 (t := 70) (e := 75) (ys := [Sn.mk (Nd.mk (kc : Int) (-1) (([] : List Str) ++ x147.nd.names)) [] (.slice none 0 0)]) (src := [(int (kc : Int)), (int (-1)), (.slice a378 ((([] : List Str) ++ x147.nd.names).length) cap379), (.slice none 0 0)]) 3 rfl rfl rfl (Want.plain rfl) rfl rfl rfl sl_70 ti_75 rfl rfl rfl ho392 (src_own (hst387.b 0)) (sn_mk (RdS.mono hrd373 (Le.refl _))) rfl (by first | omega | (simp only [List.length_append, List.length_cons, List.length_nil]; omega)) (by first | (simp only [maxLen]; omega) | (simp only [List.length_append, List.length_cons, List.length_nil, maxLen]; omega)) (fun v393 c394 w395 ho396 hst397 => ?_)
        refine ⟨(fun _ => ⟨(Le.trans hle368 hst397.rle'), hst397.g 3⟩), ?_⟩
        refine LP (ptr p 0) 26 rfl rfl rfl (fun u399 => rfl) ⟨(Le.trans hle368 hst397.rle'), hst397.g 3⟩ ?_
        refine LP (ptr p 0) 27 rfl rfl rfl (fun u402 => (by kernel_rfl)) ⟨(Le.trans hle368 hst397.rle'), hst397.g 3⟩ ?_
        refine LA_all [28] (by decide +kernel) (by simp) ?_
        intro i_ hi_
        simp only [List.mem_cons, List.not_mem_nil, or_false] at hi_
        subst hi_
        obtain ⟨a405, cap406, e407, hc408⟩ := ho396.value
        subst e407
        obtain ⟨w409, hr411, hst410⟩ := run_storeW (P := Tryz.prog) (b := p) (off := 0) (v := (.slice a405 ((ys_32 ++ [Sn.mk (Nd.mk (kc : Int) (-1) (([] : List Str) ++ x147.nd.names)) [] (.slice none 0 0)]).length) cap406)) hst397 3 ti_70 rfl rfl rfl rfl rfl rfl
        change Step _ _ _ _ _ [c394, one b385 (.cells #[(int (kc : Int)), (int (-1)), (.slice a378 ((([] : List Str) ++ x147.nd.names).length) cap379), (.slice none 0 0)] 75 (0, 0)), c232, one p (.cells #[(.slice a405 ((ys_32 ++ [Sn.mk (Nd.mk (kc : Int) (-1) (([] : List Str) ++ x147.nd.names)) [] (.slice none 0 0)]).length) cap406), (.slice (some ⟨b166, 0, none⟩) s.roots.length cap163)] 72 (0, 0)), cX233] at hst410
        refine One_skip (i := 28) rfl rfl (Want.plain rfl) (x_store rfl rfl rfl hr411) (fun h => absurd h (by decide +kernel)) ?_
        refine LA_done (by decide +kernel) ?_
        refine W_seq ?_
        refine W_region_lit ?_
        refine Lq (int (xs.length : Int)) rfl rfl rfl rfl ?_
        refine Lq (int (xs.length : Int)) rfl rfl rfl rfl ?_
        refine Lq (int 0) rfl rfl rfl rfl ?_
        refine L_nil ?_
        refine W_ret ?_
        refine ⟨_, _, res_run (rs := [.tmp 4, .tmp 5]) (vs := [(int (xs.length : Int)), (int 0)]) Tryz.results48 (.cons (.tmp rfl) (.cons (.tmp rfl) .nil)) hmk20, ?_⟩
        have he := split_new (s := s) (a := an) (by omega) (by omega)
        rw [← hc0] at he
        rw [he]
        have hndc := nd_of (by omega) hnd149
        have hagr := hag.split hwf (c := c0) hf27 (fun j hj hj' => by have h_ := hf29 j hj hj'; rw [if_pos (by omega)] at h_; rw [h_, hxl])
        rw [hndc] at hagr
        rw [hkc] at hagr
        obtain ⟨c', hst', htree'⟩ := RefT.close (s := s.splitC c0) ((((hst410.front 2 rfl rfl).front 4 rfl rfl).front 2 rfl rfl).front 4 rfl rfl) ho396 (hm372.app (y := ⟨⟨(kc : Int), -1, ((([] : List Str) ++ x147.nd.names))⟩, [], .slice none 0 0⟩) rfl rfl) (OwnL.castI ho391 (splitC_roots_yes hwf hco (by omega) hcc hnd149 hkc hxl hroot)) hagr (hwf.splitC c0) (hS.app (by omega) (by rw [hndc]; exact hbn) rfl) (by show (List.map _ _).length ≤ _; rw [List.length_map]; exact hrl)
        exact ⟨_, _, _, rfl, hst'.keepN 1 rfl, c', (by rw [hxl]; rfl), rfl, htree'⟩
       ·
        refine One_val (i := 21) (v := vn329) rfl rfl rfl (Want.plain rfl) (x_load rfl rfl (run_loadVar_one ti_42 ((hst238.g 2) _ _ hcb327) (seg_get (j := 2) hsg328 rfl))) (fun _ => ⟨hst238.rle', hst238.g 1⟩) ?_
        refine LA_all [13] (by decide +kernel) (by simp) ?_
        intro i_ hi_
        simp only [List.mem_cons, List.not_mem_nil, or_false] at hi_
        subst hi_
        refine One_new hst238 (i := 13) (v := fun b => .slice (some ⟨b, 0, none⟩) 0 0) (ob := .cells #[] 9 (0, 0)) rfl rfl rfl (Want.plain rfl) (by kernel_rfl) (fun b415 w416 hst417 => ?_)
        refine ⟨(fun _ => ⟨hst417.rle', hst417.g 2⟩), ?_⟩
        refine LA_all [22] (by decide +kernel) (by simp) ?_
        intro i_ hi_
        simp only [List.mem_cons, List.not_mem_nil, or_false] at hi_
        subst hi_
        have ho421 : OwnL Ty.str 9 R (.slice (some ⟨b415, 0, none⟩) 0 0) ([] : List Str) (one b415 (.cells #[] 9 (0, 0))) := OwnL.lit (cs := []) Encs.nil rfl (by decide)
        obtain ⟨v422, c423, w424, hr425, ho426, hst427⟩ := run_appendM (P := Tryz.prog) (tt := 42) sl_42 ti_9 rfl ho421 hst417 (RdS.mono hvn330 (Le.refl _)) hst417.rle' (by simp only [List.length_append, List.length_cons, List.length_nil]; omega) (by simp only [List.length_append, List.length_cons, List.length_nil, maxLen]; omega)
        refine One_val (i := 22) (v := v422) rfl rfl rfl (Want.plain rfl) (x_append rfl rfl rfl hr425) (fun _ => ⟨hst427.rle', hst427.g 2⟩) ?_
        obtain ⟨R428, hst429, hle430, hc431⟩ := Step.frz hst427
        have hm432 := Row.mono hrow235 hle430
        have hm433 := Row.mono hrow139 hle430
        have hm434 := LnX.mono hi25 hle430
        have hrd435 := OwnL.freeze ho426 hle430 hc431
        have hxs436 : (([] : List Str) ++ x147.nd.names).length = x147.nd.names.length := by simp
        obtain ⟨a440, cap441, e442, hc443⟩ := hrd435.shape
        subst e442
        refine LP (.agg #[(int (kc : Int)), (int (-1)), (.slice a440 ((([] : List Str) ++ x147.nd.names).length) cap441), (.slice none 0 0)]) 23 rfl rfl rfl (fun u438 => (by kernel_rfl)) ⟨(Le.trans hle430 hst429.rle'), hst429.g 1⟩ ?_
        refine LA_all [24] (by decide +kernel) (by simp) ?_
        intro i_ hi_
        simp only [List.mem_cons, List.not_mem_nil, or_false] at hi_
        subst hi_
        refine One_new hst429 (i := 24) (v := fun b => .slice (some ⟨b, 0, none⟩) 1 1) (ob := .cells #[(int (kc : Int)), (int (-1)), (.slice a440 ((([] : List Str) ++ x147.nd.names).length) cap441), (.slice none 0 0)] 75 (0, 0)) rfl rfl rfl (Want.plain rfl) (by kernel_rfl) (fun b447 w448 hst449 => ?_)
        refine ⟨(fun _ => ⟨(Le.trans hle430 hst449.rle'), hst449.g 2⟩), ?_⟩
        refine LA_all [25] (by decide +kernel) (by simp) ?_
        intro i_ hi_
        simp only [List.mem_cons, List.not_mem_nil, or_false] at hi_
        subst hi_
        have ho453 := (hback172 R428 (s.roots.set kc (xs.length : Int)) c232 (by first | rfl | (simp only [List.length_set]; done) | (simp only [List.length_set]; omega) | omega) hm432)
        have ho454 := (hback140 R428 ys_32 cL (by first | rfl | (simp only [List.length_set]; done) | (simp only [List.length_set]; omega) | omega) hm433)
        refine One_append (j := 25) hst449 (t := 70) (e := 75) (ys := [Sn.mk (Nd.mk (kc : Int) (-1) (([] : List Str) ++ x147.nd.names)) [] (.slice none 0 0)]) (src := [(int (kc : Int)), (int (-1)), (.slice a440 ((([] : List Str) ++ x147.nd.names).length) cap441), (.slice none 0 0)]) 3 rfl rfl rfl (Want.plain rfl) rfl rfl rfl sl_70 ti_75 rfl rfl rfl ho454 (src_own (hst449.b 0)) (sn_mk (RdS.mono hrd435 (Le.refl _))) rfl (by first | omega | (simp only [List.length_append, List.length_cons, List.length_nil]; omega)) (by first | (simp only [maxLen]; omega) | (simp only [List.length_append, List.length_cons, List.length_nil, maxLen]; omega)) (fun v455 c456 w457 ho458 hst459 => ?_)
        refine ⟨(fun _ => ⟨(Le.trans hle430 hst459.rle'), hst459.g 3⟩), ?_⟩
        refine LP (ptr p 0) 26 rfl rfl rfl (fun u461 => rfl) ⟨(Le.trans hle430 hst459.rle'), hst459.g 3⟩ ?_
        refine LP (ptr p 0) 27 rfl rfl rfl (fun u464 => (by kernel_rfl)) ⟨(Le.trans hle430 hst459.rle'), hst459.g 3⟩ ?_
        refine LA_all [28] (by decide +kernel) (by simp) ?_
        intro i_ hi_
        simp only [List.mem_cons, List.not_mem_nil, or_false] at hi_
        subst hi_
        obtain ⟨a467, cap468, e469, hc470⟩ := ho458.value
        subst e469
        obtain ⟨w471, hr473, hst472⟩ := run_storeW (P := Tryz.prog) (b := p) (off := 0) (v := (.slice a467 ((ys_32 ++ [Sn.mk (Nd.mk (kc : Int) (-1) (([] : List Str) ++ x147.nd.names)) [] (.slice none 0 0)]).length) cap468)) hst459 3 ti_70 rfl rfl rfl rfl rfl rfl
        change Step _ _ _ _ _ [c456, one b447 (.cells #[(int (kc : Int)), (int (-1)), (.slice a440 ((([] : List Str) ++ x147.nd.names).length) cap441), (.slice none 0 0)] 75 (0, 0)), c232, one p (.cells #[(.slice a467 ((ys_32 ++ [Sn.mk (Nd.mk (kc : Int) (-1) (([] : List Str) ++ x147.nd.names)) [] (.slice none 0 0)]).length) cap468), (.slice (some ⟨b166, 0, none⟩) s.roots.length cap163)] 72 (0, 0)), cX233] at hst472
        refine One_skip (i := 28) rfl rfl (Want.plain rfl) (x_store rfl rfl rfl hr473) (fun h => absurd h (by decide +kernel)) ?_
        refine LA_done (by decide +kernel) ?_
        refine W_seq ?_
        refine W_region_lit ?_
        refine Lq (int (xs.length : Int)) rfl rfl rfl rfl ?_
        refine Lq (int (xs.length : Int)) rfl rfl rfl rfl ?_
        refine Lq (int 0) rfl rfl rfl rfl ?_
        refine L_nil ?_
        refine W_ret ?_
        refine ⟨_, _, res_run (rs := [.tmp 4, .tmp 5]) (vs := [(int (xs.length : Int)), (int 0)]) Tryz.results48 (.cons (.tmp rfl) (.cons (.tmp rfl) .nil)) hmk20, ?_⟩
        have he := split_new (s := s) (a := an) (by omega) (by omega)
        rw [← hc0] at he
        rw [he]
        have hndc := nd_of (by omega) hnd149
        have hagr := hag.split hwf (c := c0) hf27 (fun j hj hj' => by have h_ := hf29 j hj hj'; rw [if_pos (by omega)] at h_; rw [h_, hxl])
        rw [hndc] at hagr
        rw [hkc] at hagr
        obtain ⟨c', hst', htree'⟩ := RefT.close (s := s.splitC c0) ((((hst472.front 2 rfl rfl).front 4 rfl rfl).front 2 rfl rfl).front 4 rfl rfl) ho458 (hm434.app (y := ⟨⟨(kc : Int), -1, ((([] : List Str) ++ x147.nd.names))⟩, [], .slice none 0 0⟩) rfl rfl) (OwnL.castI ho453 (splitC_roots_yes hwf hco (by omega) hcc hnd149 hkc hxl hroot)) hagr (hwf.splitC c0) (hS.app (by omega) (by rw [hndc]; exact hbn) rfl) (by show (List.map _ _).length ≤ _; rw [List.length_map]; exact hrl)
        exact ⟨_, _, _, rfl, hst'.keepN 1 rfl, c', (by rw [hxl]; rfl), rfl, htree'⟩
      ·
       refine One_new hst238 (i := 13) (v := fun b => .slice (some ⟨b, 0, none⟩) 0 0) (ob := .cells #[] 9 (0, 0)) rfl rfl rfl (Want.plain rfl) (by kernel_rfl) (fun b474 w475 hst476 => ?_)
       refine ⟨(fun _ => ⟨hst476.rle', hst476.g 2⟩), ?_⟩
       refine LA_all [12, 21] (by decide +kernel) (by simp) ?_
       intro i_ hi_
       simp only [List.mem_cons, List.not_mem_nil, or_false] at hi_
       rcases hi_ with rfl | rfl
       ·
        refine One_val (i := 12) (v := (int (kc : Int))) rfl rfl rfl (Want.plain rfl) (x_load rfl rfl (run_loadVar_one ti_3 ((hst476.g 3) _ _ hcb275) (seg_get (j := 0) hsg276 rfl))) (fun _ => ⟨hst476.rle', hst476.g 2⟩) ?_
        refine LA_all [21] (by decide +kernel) (by simp) ?_
        intro i_ hi_
        simp only [List.mem_cons, List.not_mem_nil, or_false] at hi_
        subst hi_
        refine One_val (i := 21) (v := vn329) rfl rfl rfl (Want.plain rfl) (x_load rfl rfl (run_loadVar_one ti_42 ((hst476.g 3) _ _ hcb327) (seg_get (j := 2) hsg328 rfl))) (fun _ => ⟨hst476.rle', hst476.g 2⟩) ?_
        refine LA_all [22] (by decide +kernel) (by simp) ?_
        intro i_ hi_
        simp only [List.mem_cons, List.not_mem_nil, or_false] at hi_
        subst hi_
        have ho488 : OwnL Ty.str 9 R (.slice (some ⟨b474, 0, none⟩) 0 0) ([] : List Str) (one b474 (.cells #[] 9 (0, 0))) := OwnL.lit (cs := []) Encs.nil rfl (by decide)
        obtain ⟨v489, c490, w491, hr492, ho493, hst494⟩ := run_appendM (P := Tryz.prog) (tt := 42) sl_42 ti_9 rfl ho488 hst476 (RdS.mono hvn330 (Le.refl _)) hst476.rle' (by simp only [List.length_append, List.length_cons, List.length_nil]; omega) (by simp only [List.length_append, List.length_cons, List.length_nil, maxLen]; omega)
        refine One_val (i := 22) (v := v489) rfl rfl rfl (Want.plain rfl) (x_append rfl rfl rfl hr492) (fun _ => ⟨hst494.rle', hst494.g 2⟩) ?_
        obtain ⟨R495, hst496, hle497, hc498⟩ := Step.frz hst494
        have hm499 := Row.mono hrow235 hle497
        have hm500 := Row.mono hrow139 hle497
        have hm501 := LnX.mono hi25 hle497
        have hrd502 := OwnL.freeze ho493 hle497 hc498
        have hxs503 : (([] : List Str) ++ x147.nd.names).length = x147.nd.names.length := by simp
        obtain ⟨a507, cap508, e509, hc510⟩ := hrd502.shape
        subst e509
        refine LP (.agg #[(int (kc : Int)), (int (-1)), (.slice a507 ((([] : List Str) ++ x147.nd.names).length) cap508), (.slice none 0 0)]) 23 rfl rfl rfl (fun u505 => (by kernel_rfl)) ⟨(Le.trans hle497 hst496.rle'), hst496.g 1⟩ ?_
        refine LA_all [24] (by decide +kernel) (by simp) ?_
        intro i_ hi_
        simp only [List.mem_cons, List.not_mem_nil, or_false] at hi_
        subst hi_
        refine One_new hst496 (i := 24) (v := fun b => .slice (some ⟨b, 0, none⟩) 1 1) (ob := .cells #[(int (kc : Int)), (int (-1)), (.slice a507 ((([] : List Str) ++ x147.nd.names).length) cap508), (.slice none 0 0)] 75 (0, 0)) rfl rfl rfl (Want.plain rfl) (by kernel_rfl) (fun b514 w515 hst516 => ?_)
        refine ⟨(fun _ => ⟨(Le.trans hle497 hst516.rle'), hst516.g 2⟩), ?_⟩
        refine LA_all [25] (by decide +kernel) (by simp) ?_
        intro i_ hi_
        simp only [List.mem_cons, List.not_mem_nil, or_false] at hi_
        subst hi_
        have ho520 := (hback172 R495 (s.roots.set kc (xs.length : Int)) c232 (by first | rfl | (simp only [List.length_set]; done) | (simp only [List.length_set]; omega) | omega) hm499)
        have ho521 := (hback140 R495 ys_32 cL (by first | rfl | (simp only [List.length_set]; done) | (simp only [List.length_set]; omega) | omega) hm500)
        refine One_append (j := 25) hst516 (t := 70) (e := 75) (ys := [Sn.mk (Nd.mk (kc : Int) (-1) (([] : List Str) ++ x147.nd.names)) [] (.slice none 0 0)]) (src := [(int (kc : Int)), (int (-1)), (.slice a507 ((([] : List Str) ++ x147.nd.names).length) cap508), (.slice none 0 0)]) 3 rfl rfl rfl (Want.plain rfl) rfl rfl rfl sl_70 ti_75 rfl rfl rfl ho521 (src_own (hst516.b 0)) (sn_mk (RdS.mono hrd502 (Le.refl _))) rfl (by first | omega | (simp only [List.length_append, List.length_cons, List.length_nil]; omega)) (by first | (simp only [maxLen]; omega) | (simp only [List.length_append, List.length_cons, List.length_nil, maxLen]; omega)) (fun v522 c523 w524 ho525 hst526 => ?_)
        refine ⟨(fun _ => ⟨(Le.trans hle497 hst526.rle'), hst526.g 3⟩), ?_⟩
        refine LP (ptr p 0) 26 rfl rfl rfl (fun u528 => rfl) ⟨(Le.trans hle497 hst526.rle'), hst526.g 3⟩ ?_
        refine LP (ptr p 0) 27 rfl rfl rfl (fun u531 => (by kernel_rfl)) ⟨(Le.trans hle497 hst526.rle'), hst526.g 3⟩ ?_
        refine LA_all [28] (by decide +kernel) (by simp) ?_
        intro i_ hi_
        simp only [List.mem_cons, List.not_mem_nil, or_false] at hi_
        subst hi_
        obtain ⟨a534, cap535, e536, hc537⟩ := ho525.value
        subst e536
        obtain ⟨w538, hr540, hst539⟩ := run_storeW (P := Tryz.prog) (b := p) (off := 0) (v := (.slice a534 ((ys_32 ++ [Sn.mk (Nd.mk (kc : Int) (-1) (([] : List Str) ++ x147.nd.names)) [] (.slice none 0 0)]).length) cap535)) hst526 3 ti_70 rfl rfl rfl rfl rfl rfl
        change Step _ _ _ _ _ [c523, one b514 (.cells #[(int (kc : Int)), (int (-1)), (.slice a507 ((([] : List Str) ++ x147.nd.names).length) cap508), (.slice none 0 0)] 75 (0, 0)), c232, one p (.cells #[(.slice a534 ((ys_32 ++ [Sn.mk (Nd.mk (kc : Int) (-1) (([] : List Str) ++ x147.nd.names)) [] (.slice none 0 0)]).length) cap535), (.slice (some ⟨b166, 0, none⟩) s.roots.length cap163)] 72 (0, 0)), cX233] at hst539
        refine One_skip (i := 28) rfl rfl (Want.plain rfl) (x_store rfl rfl rfl hr540) (fun h => absurd h (by decide +kernel)) ?_
        refine LA_done (by decide +kernel) ?_
        refine W_seq ?_
        refine W_region_lit ?_
        refine Lq (int (xs.length : Int)) rfl rfl rfl rfl ?_
        refine Lq (int (xs.length : Int)) rfl rfl rfl rfl ?_
        refine Lq (int 0) rfl rfl rfl rfl ?_
        refine L_nil ?_
        refine W_ret ?_
        refine ⟨_, _, res_run (rs := [.tmp 4, .tmp 5]) (vs := [(int (xs.length : Int)), (int 0)]) Tryz.results48 (.cons (.tmp rfl) (.cons (.tmp rfl) .nil)) hmk20, ?_⟩
        have he := split_new (s := s) (a := an) (by omega) (by omega)
        rw [← hc0] at he
        rw [he]
        have hndc := nd_of (by omega) hnd149
        have hagr := hag.split hwf (c := c0) hf27 (fun j hj hj' => by have h_ := hf29 j hj hj'; rw [if_pos (by omega)] at h_; rw [h_, hxl])
        rw [hndc] at hagr
        rw [hkc] at hagr
        obtain ⟨c', hst', htree'⟩ := RefT.close (s := s.splitC c0) ((((hst539.front 2 rfl rfl).front 4 rfl rfl).front 2 rfl rfl).front 4 rfl rfl) ho525 (hm501.app (y := ⟨⟨(kc : Int), -1, ((([] : List Str) ++ x147.nd.names))⟩, [], .slice none 0 0⟩) rfl rfl) (OwnL.castI ho520 (splitC_roots_yes hwf hco (by omega) hcc hnd149 hkc hxl hroot)) hagr (hwf.splitC c0) (hS.app (by omega) (by rw [hndc]; exact hbn) rfl) (by show (List.map _ _).length ≤ _; rw [List.length_map]; exact hrl)
        exact ⟨_, _, _, rfl, hst'.keepN 1 rfl, c', (by rw [hxl]; rfl), rfl, htree'⟩
       ·
        refine One_val (i := 21) (v := vn329) rfl rfl rfl (Want.plain rfl) (x_load rfl rfl (run_loadVar_one ti_42 ((hst476.g 3) _ _ hcb327) (seg_get (j := 2) hsg328 rfl))) (fun _ => ⟨hst476.rle', hst476.g 2⟩) ?_
        refine LA_all [12, 22] (by decide +kernel) (by simp) ?_
        intro i_ hi_
        simp only [List.mem_cons, List.not_mem_nil, or_false] at hi_
        rcases hi_ with rfl | rfl
        ·
         refine One_val (i := 12) (v := (int (kc : Int))) rfl rfl rfl (Want.plain rfl) (x_load rfl rfl (run_loadVar_one ti_3 ((hst476.g 3) _ _ hcb275) (seg_get (j := 0) hsg276 rfl))) (fun _ => ⟨hst476.rle', hst476.g 2⟩) ?_
         refine LA_all [22] (by decide +kernel) (by simp) ?_
         intro i_ hi_
         simp only [List.mem_cons, List.not_mem_nil, or_false] at hi_
         subst hi_
         have ho549 : OwnL Ty.str 9 R (.slice (some ⟨b474, 0, none⟩) 0 0) ([] : List Str) (one b474 (.cells #[] 9 (0, 0))) := OwnL.lit (cs := []) Encs.nil rfl (by decide)
         obtain ⟨v550, c551, w552, hr553, ho554, hst555⟩ := run_appendM (P := Tryz.prog) (tt := 42) sl_42 ti_9 rfl ho549 hst476 (RdS.mono hvn330 (Le.refl _)) hst476.rle' (by simp only [List.length_append, List.length_cons, List.length_nil]; omega) (by simp only [List.length_append, List.length_cons, List.length_nil, maxLen]; omega)
         refine One_val (i := 22) (v := v550) rfl rfl rfl (Want.plain rfl) (x_append rfl rfl rfl hr553) (fun _ => ⟨hst555.rle', hst555.g 2⟩) ?_
         obtain ⟨R556, hst557, hle558, hc559⟩ := Step.frz hst555
         have hm560 := Row.mono hrow235 hle558
         have hm561 := Row.mono hrow139 hle558
         have hm562 := LnX.mono hi25 hle558
         have hrd563 := OwnL.freeze ho554 hle558 hc559
         have hxs564 : (([] : List Str) ++ x147.nd.names).length = x147.nd.names.length := by simp
         obtain ⟨a568, cap569, e570, hc571⟩ := hrd563.shape
         subst e570
         refine LP (.agg #[(int (kc : Int)), (int (-1)), (.slice a568 ((([] : List Str) ++ x147.nd.names).length) cap569), (.slice none 0 0)]) 23 rfl rfl rfl (fun u566 => (by kernel_rfl)) ⟨(Le.trans hle558 hst557.rle'), hst557.g 1⟩ ?_
         refine LA_all [24] (by decide +kernel) (by simp) ?_
         intro i_ hi_
         simp only [List.mem_cons, List.not_mem_nil, or_false] at hi_
         subst hi_
         refine One_new hst557 (i := 24) (v := fun b => .slice (some ⟨b, 0, none⟩) 1 1) (ob := .cells #[(int (kc : Int)), (int (-1)), (.slice a568 ((([] : List Str) ++ x147.nd.names).length) cap569), (.slice none 0 0)] 75 (0, 0)) rfl rfl rfl (Want.plain rfl) (by kernel_rfl) (fun b575 w576 hst577 => ?_)
         refine ⟨(fun _ => ⟨(Le.trans hle558 hst577.rle'), hst577.g 2⟩), ?_⟩
         refine LA_all [25] (by decide +kernel) (by simp) ?_
         intro i_ hi_
         simp only [List.mem_cons, List.not_mem_nil, or_false] at hi_
         subst hi_
         have ho581 := (hback172 R556 (s.roots.set kc (xs.length : Int)) c232 (by first | rfl | (simp only [List.length_set]; done) | (simp only [List.length_set]; omega) | omega) hm560)
         have ho582 := (hback140 R556 ys_32 cL (by first | rfl | (simp only [List.length_set]; done) | (simp only [List.length_set]; omega) | omega) hm561)
         refine One_append (j := 25) hst577 (t := 70) (e := 75) (ys := [Sn.mk (Nd.mk (kc : Int) (-1) (([] : List Str) ++ x147.nd.names)) [] (.slice none 0 0)]) (src := [(int (kc : Int)), (int (-1)), (.slice a568 ((([] : List Str) ++ x147.nd.names).length) cap569), (.slice none 0 0)]) 3 rfl rfl rfl (Want.plain rfl) rfl rfl rfl sl_70 ti_75 rfl rfl rfl ho582 (src_own (hst577.b 0)) (sn_mk (RdS.mono hrd563 (Le.refl _))) rfl (by first | omega | (simp only [List.length_append, List.length_cons, List.length_nil]; omega)) (by first | (simp only [maxLen]; omega) | (simp only [List.length_append, List.length_cons, List.length_nil, maxLen]; omega)) (fun v583 c584 w585 ho586 hst587 => ?_)
         refine ⟨(fun _ => ⟨(Le.trans hle558 hst587.rle'), hst587.g 3⟩), ?_⟩
         refine LP (ptr p 0) 26 rfl rfl rfl (fun u589 => rfl) ⟨(Le.trans hle558 hst587.rle'), hst587.g 3⟩ ?_
         refine LP (ptr p 0) 27 rfl rfl rfl (fun u592 => (by kernel_rfl)) ⟨(Le.trans hle558 hst587.rle'), hst587.g 3⟩ ?_
         refine LA_all [28] (by decide +kernel) (by simp) ?_
         intro i_ hi_
         simp only [List.mem_cons, List.not_mem_nil, or_false] at hi_
         subst hi_
         obtain ⟨a595, cap596, e597, hc598⟩ := ho586.value
         subst e597
         obtain ⟨w599, hr601, hst600⟩ := run_storeW (P := Tryz.prog) (b := p) (off := 0) (v := (.slice a595 ((ys_32 ++ [Sn.mk (Nd.mk (kc : Int) (-1) (([] : List Str) ++ x147.nd.names)) [] (.slice none 0 0)]).length) cap596)) hst587 3 ti_70 rfl rfl rfl rfl rfl rfl
         change Step _ _ _ _ _ [c584, one b575 (.cells #[(int (kc : Int)), (int (-1)), (.slice a568 ((([] : List Str) ++ x147.nd.names).length) cap569), (.slice none 0 0)] 75 (0, 0)), c232, one p (.cells #[(.slice a595 ((ys_32 ++ [Sn.mk (Nd.mk (kc : Int) (-1) (([] : List Str) ++ x147.nd.names)) [] (.slice none 0 0)]).length) cap596), (.slice (some ⟨b166, 0, none⟩) s.roots.length cap163)] 72 (0, 0)), cX233] at hst600
         refine One_skip (i := 28) rfl rfl (Want.plain rfl) (x_store rfl rfl rfl hr601) (fun h => absurd h (by decide +kernel)) ?_
         refine LA_done (by decide +kernel) ?_
         refine W_seq ?_
         refine W_region_lit ?_
         refine Lq (int (xs.length : Int)) rfl rfl rfl rfl ?_
         refine Lq (int (xs.length : Int)) rfl rfl rfl rfl ?_
         refine Lq (int 0) rfl rfl rfl rfl ?_
         refine L_nil ?_
         refine W_ret ?_
         refine ⟨_, _, res_run (rs := [.tmp 4, .tmp 5]) (vs := [(int (xs.length : Int)), (int 0)]) Tryz.results48 (.cons (.tmp rfl) (.cons (.tmp rfl) .nil)) hmk20, ?_⟩
         have he := split_new (s := s) (a := an) (by omega) (by omega)
         rw [← hc0] at he
         rw [he]
         have hndc := nd_of (by omega) hnd149
         have hagr := hag.split hwf (c := c0) hf27 (fun j hj hj' => by have h_ := hf29 j hj hj'; rw [if_pos (by omega)] at h_; rw [h_, hxl])
         rw [hndc] at hagr
         rw [hkc] at hagr
         obtain ⟨c', hst', htree'⟩ := RefT.close (s := s.splitC c0) ((((hst600.front 2 rfl rfl).front 4 rfl rfl).front 2 rfl rfl).front 4 rfl rfl) ho586 (hm562.app (y := ⟨⟨(kc : Int), -1, ((([] : List Str) ++ x147.nd.names))⟩, [], .slice none 0 0⟩) rfl rfl) (OwnL.castI ho581 (splitC_roots_yes hwf hco (by omega) hcc hnd149 hkc hxl hroot)) hagr (hwf.splitC c0) (hS.app (by omega) (by rw [hndc]; exact hbn) rfl) (by show (List.map _ _).length ≤ _; rw [List.length_map]; exact hrl)
         exact ⟨_, _, _, rfl, hst'.keepN 1 rfl, c', (by rw [hxl]; rfl), rfl, htree'⟩
        ·
         have ho602 : OwnL Ty.str 9 R (.slice (some ⟨b474, 0, none⟩) 0 0) ([] : List Str) (one b474 (.cells #[] 9 (0, 0))) := OwnL.lit (cs := []) Encs.nil rfl (by decide)
         obtain ⟨v603, c604, w605, hr606, ho607, hst608⟩ := run_appendM (P := Tryz.prog) (tt := 42) sl_42 ti_9 rfl ho602 hst476 (RdS.mono hvn330 (Le.refl _)) hst476.rle' (by simp only [List.length_append, List.length_cons, List.length_nil]; omega) (by simp only [List.length_append, List.length_cons, List.length_nil, maxLen]; omega)
         refine One_val (i := 22) (v := v603) rfl rfl rfl (Want.plain rfl) (x_append rfl rfl rfl hr606) (fun _ => ⟨hst608.rle', hst608.g 2⟩) ?_
         obtain ⟨R609, hst610, hle611, hc612⟩ := Step.frz hst608
         have hm613 := Row.mono hrow235 hle611
         have hm614 := Row.mono hrow139 hle611
         have hm615 := LnX.mono hi25 hle611
         have hrd616 := OwnL.freeze ho607 hle611 hc612
         have hxs617 : (([] : List Str) ++ x147.nd.names).length = x147.nd.names.length := by simp
         refine LA_all [12] (by decide +kernel) (by simp) ?_
         intro i_ hi_
         simp only [List.mem_cons, List.not_mem_nil, or_false] at hi_
         subst hi_
         refine One_val (i := 12) (v := (int (kc : Int))) rfl rfl rfl (Want.plain rfl) (x_load rfl rfl (run_loadVar_one ti_3 ((hst610.g 2) _ _ hcb275) (seg_get (j := 0) hsg276 rfl))) (fun _ => ⟨(Le.trans hle611 hst610.rle'), hst610.g 1⟩) ?_
         obtain ⟨a624, cap625, e626, hc627⟩ := hrd616.shape
         subst e626
         refine LP (.agg #[(int (kc : Int)), (int (-1)), (.slice a624 ((([] : List Str) ++ x147.nd.names).length) cap625), (.slice none 0 0)]) 23 rfl rfl rfl (fun u622 => (by kernel_rfl)) ⟨(Le.trans hle611 hst610.rle'), hst610.g 1⟩ ?_
         refine LA_all [24] (by decide +kernel) (by simp) ?_
         intro i_ hi_
         simp only [List.mem_cons, List.not_mem_nil, or_false] at hi_
         subst hi_
         refine One_new hst610 (i := 24) (v := fun b => .slice (some ⟨b, 0, none⟩) 1 1) (ob := .cells #[(int (kc : Int)), (int (-1)), (.slice a624 ((([] : List Str) ++ x147.nd.names).length) cap625), (.slice none 0 0)] 75 (0, 0)) rfl rfl rfl (Want.plain rfl) (by kernel_rfl) (fun b631 w632 hst633 => ?_)
         refine ⟨(fun _ => ⟨(Le.trans hle611 hst633.rle'), hst633.g 2⟩), ?_⟩
         refine LA_all [25] (by decide +kernel) (by simp) ?_
         intro i_ hi_
         simp only [List.mem_cons, List.not_mem_nil, or_false] at hi_
         subst hi_
         have ho637 := (hback172 R609 (s.roots.set kc (xs.length : Int)) c232 (by first | rfl | (simp only [List.length_set]; done) | (simp only [List.length_set]; omega) | omega) hm613)
         have ho638 := (hback140 R609 ys_32 cL (by first | rfl | (simp only [List.length_set]; done) | (simp only [List.length_set]; omega) | omega) hm614)
         refine One_append (j := 25) hst633 (t := 70) (e := 75) (ys := [Sn.mk (Nd.mk (kc : Int) (-1) (([] : List Str) ++ x147.nd.names)) [] (.slice none 0 0)]) (src := [(int (kc : Int)), (int (-1)), (.slice a624 ((([] : List Str) ++ x147.nd.names).length) cap625), (.slice none 0 0)]) 3 rfl rfl rfl (Want.plain rfl) rfl rfl rfl sl_70 ti_75 rfl rfl rfl ho638 (src_own (hst633.b 0)) (sn_mk (RdS.mono hrd616 (Le.refl _))) rfl (by first | omega | (simp only [List.length_append, List.length_cons, List.length_nil]; omega)) (by first | (simp only [maxLen]; omega) | (simp only [List.length_append, List.length_cons, List.length_nil, maxLen]; omega)) (fun v639 c640 w641 ho642 hst643 => ?_)
         refine ⟨(fun _ => ⟨(Le.trans hle611 hst643.rle'), hst643.g 3⟩), ?_⟩
         refine LP (ptr p 0) 26 rfl rfl rfl (fun u645 => rfl) ⟨(Le.trans hle611 hst643.rle'), hst643.g 3⟩ ?_
         refine LP (ptr p 0) 27 rfl rfl rfl (fun u648 => (by kernel_rfl)) ⟨(Le.trans hle611 hst643.rle'), hst643.g 3⟩ ?_
         refine LA_all [28] (by decide +kernel) (by simp) ?_
         intro i_ hi_
         simp only [List.mem_cons, List.not_mem_nil, or_false] at hi_
         subst hi_
         obtain ⟨a651, cap652, e653, hc654⟩ := ho642.value
         subst e653
         obtain ⟨w655, hr657, hst656⟩ := run_storeW (P := Tryz.prog) (b := p) (off := 0) (v := (.slice a651 ((ys_32 ++ [Sn.mk (Nd.mk (kc : Int) (-1) (([] : List Str) ++ x147.nd.names)) [] (.slice none 0 0)]).length) cap652)) hst643 3 ti_70 rfl rfl rfl rfl rfl rfl
         change Step _ _ _ _ _ [c640, one b631 (.cells #[(int (kc : Int)), (int (-1)), (.slice a624 ((([] : List Str) ++ x147.nd.names).length) cap625), (.slice none 0 0)] 75 (0, 0)), c232, one p (.cells #[(.slice a651 ((ys_32 ++ [Sn.mk (Nd.mk (kc : Int) (-1) (([] : List Str) ++ x147.nd.names)) [] (.slice none 0 0)]).length) cap652), (.slice (some ⟨b166, 0, none⟩) s.roots.length cap163)] 72 (0, 0)), cX233] at hst656
         refine One_skip (i := 28) rfl rfl (Want.plain rfl) (x_store rfl rfl rfl hr657) (fun h => absurd h (by decide +kernel)) ?_
         refine LA_done (by decide +kernel) ?_
         refine W_seq ?_
         refine W_region_lit ?_
         refine Lq (int (xs.length : Int)) rfl rfl rfl rfl ?_
         refine Lq (int (xs.length : Int)) rfl rfl rfl rfl ?_
         refine Lq (int 0) rfl rfl rfl rfl ?_
         refine L_nil ?_
         refine W_ret ?_
         refine ⟨_, _, res_run (rs := [.tmp 4, .tmp 5]) (vs := [(int (xs.length : Int)), (int 0)]) Tryz.results48 (.cons (.tmp rfl) (.cons (.tmp rfl) .nil)) hmk20, ?_⟩
         have he := split_new (s := s) (a := an) (by omega) (by omega)
         rw [← hc0] at he
         rw [he]
         have hndc := nd_of (by omega) hnd149
         have hagr := hag.split hwf (c := c0) hf27 (fun j hj hj' => by have h_ := hf29 j hj hj'; rw [if_pos (by omega)] at h_; rw [h_, hxl])
         rw [hndc] at hagr
         rw [hkc] at hagr
         obtain ⟨c', hst', htree'⟩ := RefT.close (s := s.splitC c0) ((((hst656.front 2 rfl rfl).front 4 rfl rfl).front 2 rfl rfl).front 4 rfl rfl) ho642 (hm615.app (y := ⟨⟨(kc : Int), -1, ((([] : List Str) ++ x147.nd.names))⟩, [], .slice none 0 0⟩) rfl rfl) (OwnL.castI ho637 (splitC_roots_yes hwf hco (by omega) hcc hnd149 hkc hxl hroot)) hagr (hwf.splitC c0) (hS.app (by omega) (by rw [hndc]; exact hbn) rfl) (by show (List.map _ _).length ≤ _; rw [List.length_map]; exact hrl)
         exact ⟨_, _, _, rfl, hst'.keepN 1 rfl, c', (by rw [hxl]; rfl), rfl, htree'⟩
      ·
       refine One_val (i := 21) (v := vn329) rfl rfl rfl (Want.plain rfl) (x_load rfl rfl (run_loadVar_one ti_42 ((hst238.g 2) _ _ hcb327) (seg_get (j := 2) hsg328 rfl))) (fun _ => ⟨hst238.rle', hst238.g 1⟩) ?_
       refine LA_all [12, 13] (by decide +kernel) (by simp) ?_
       intro i_ hi_
       simp only [List.mem_cons, List.not_mem_nil, or_false] at hi_
       rcases hi_ with rfl | rfl
       ·
        refine One_val (i := 12) (v := (int (kc : Int))) rfl rfl rfl (Want.plain rfl) (x_load rfl rfl (run_loadVar_one ti_3 ((hst238.g 2) _ _ hcb275) (seg_get (j := 0) hsg276 rfl))) (fun _ => ⟨hst238.rle', hst238.g 1⟩) ?_
        refine LA_all [13] (by decide +kernel) (by simp) ?_
        intro i_ hi_
        simp only [List.mem_cons, List.not_mem_nil, or_false] at hi_
        subst hi_
        refine One_new hst238 (i := 13) (v := fun b => .slice (some ⟨b, 0, none⟩) 0 0) (ob := .cells #[] 9 (0, 0)) rfl rfl rfl (Want.plain rfl) (by kernel_rfl) (fun b666 w667 hst668 => ?_)
        refine ⟨(fun _ => ⟨hst668.rle', hst668.g 2⟩), ?_⟩
        refine LA_all [22] (by decide +kernel) (by simp) ?_
        intro i_ hi_
        simp only [List.mem_cons, List.not_mem_nil, or_false] at hi_
        subst hi_
        have ho672 : OwnL Ty.str 9 R (.slice (some ⟨b666, 0, none⟩) 0 0) ([] : List Str) (one b666 (.cells #[] 9 (0, 0))) := OwnL.lit (cs := []) Encs.nil rfl (by decide)
        obtain ⟨v673, c674, w675, hr676, ho677, hst678⟩ := run_appendM (P := Tryz.prog) (tt := 42) sl_42 ti_9 rfl ho672 hst668 (RdS.mono hvn330 (Le.refl _)) hst668.rle' (by simp only [List.length_append, List.length_cons, List.length_nil]; omega) (by simp only [List.length_append, List.length_cons, List.length_nil, maxLen]; omega)
        refine One_val (i := 22) (v := v673) rfl rfl rfl (Want.plain rfl) (x_append rfl rfl rfl hr676) (fun _ => ⟨hst678.rle', hst678.g 2⟩) ?_
        obtain ⟨R679, hst680, hle681, hc682⟩ := Step.frz hst678
        have hm683 := Row.mono hrow235 hle681
        have hm684 := Row.mono hrow139 hle681
        have hm685 := LnX.mono hi25 hle681
        have hrd686 := OwnL.freeze ho677 hle681 hc682
        have hxs687 : (([] : List Str) ++ x147.nd.names).length = x147.nd.names.length := by simp
        obtain ⟨a691, cap692, e693, hc694⟩ := hrd686.shape
        subst e693
        refine LP (.agg #[(int (kc : Int)), (int (-1)), (.slice a691 ((([] : List Str) ++ x147.nd.names).length) cap692), (.slice none 0 0)]) 23 rfl rfl rfl (fun u689 => (by kernel_rfl)) ⟨(Le.trans hle681 hst680.rle'), hst680.g 1⟩ ?_
        refine LA_all [24] (by decide +kernel) (by simp) ?_
        intro i_ hi_
        simp only [List.mem_cons, List.not_mem_nil, or_false] at hi_
        subst hi_
        refine One_new hst680 (i := 24) (v := fun b => .slice (some ⟨b, 0, none⟩) 1 1) (ob := .cells #[(int (kc : Int)), (int (-1)), (.slice a691 ((([] : List Str) ++ x147.nd.names).length) cap692), (.slice none 0 0)] 75 (0, 0)) rfl rfl rfl (Want.plain rfl) (by kernel_rfl) (fun b698 w699 hst700 => ?_)
        refine ⟨(fun _ => ⟨(Le.trans hle681 hst700.rle'), hst700.g 2⟩), ?_⟩
        refine LA_all [25] (by decide +kernel) (by simp) ?_
        intro i_ hi_
        simp only [List.mem_cons, List.not_mem_nil, or_false] at hi_
        subst hi_
        have ho704 := (hback172 R679 (s.roots.set kc (xs.length : Int)) c232 (by first | rfl | (simp only [List.length_set]; done) | (simp only [List.length_set]; omega) | omega) hm683)
        have ho705 := (hback140 R679 ys_32 cL (by first | rfl | (simp only [List.length_set]; done) | (simp only [List.length_set]; omega) | omega) hm684)
        refine One_append (j := 25) hst700 (t := 70) (e := 75) (ys := [Sn.mk (Nd.mk (kc : Int) (-1) (([] : List Str) ++ x147.nd.names)) [] (.slice none 0 0)]) (src := [(int (kc : Int)), (int (-1)), (.slice a691 ((([] : List Str) ++ x147.nd.names).length) cap692), (.slice none 0 0)]) 3 rfl rfl rfl (Want.plain rfl) rfl rfl rfl sl_70 ti_75 rfl rfl rfl ho705 (src_own (hst700.b 0)) (sn_mk (RdS.mono hrd686 (Le.refl _))) rfl (by first | omega | (simp only [List.length_append, List.length_cons, List.length_nil]; omega)) (by first | (simp only [maxLen]; omega) | (simp only [List.length_append, List.length_cons, List.length_nil, maxLen]; omega)) (fun v706 c707 w708 ho709 hst710 => ?_)
        refine ⟨(fun _ => ⟨(Le.trans hle681 hst710.rle'), hst710.g 3⟩), ?_⟩
        refine LP (ptr p 0) 26 rfl rfl rfl (fun u712 => rfl) ⟨(Le.trans hle681 hst710.rle'), hst710.g 3⟩ ?_
        refine LP (ptr p 0) 27 rfl rfl rfl (fun u715 => (by kernel_rfl)) ⟨(Le.trans hle681 hst710.rle'), hst710.g 3⟩ ?_
        refine LA_all [28] (by decide +kernel) (by simp) ?_
        intro i_ hi_
        simp only [List.mem_cons, List.not_mem_nil, or_false] at hi_
        subst hi_
        obtain ⟨a718, cap719, e720, hc721⟩ := ho709.value
        subst e720
        obtain ⟨w722, hr724, hst723⟩ := run_storeW (P := Tryz.prog) (b := p) (off := 0) (v := (.slice a718 ((ys_32 ++ [Sn.mk (Nd.mk (kc : Int) (-1) (([] : List Str) ++ x147.nd.names)) [] (.slice none 0 0)]).length) cap719)) hst710 3 ti_70 rfl rfl rfl rfl rfl rfl
        change Step _ _ _ _ _ [c707, one b698 (.cells #[(int (kc : Int)), (int (-1)), (.slice a691 ((([] : List Str) ++ x147.nd.names).length) cap692), (.slice none 0 0)] 75 (0, 0)), c232, one p (.cells #[(.slice a718 ((ys_32 ++ [Sn.mk (Nd.mk (kc : Int) (-1) (([] : List Str) ++ x147.nd.names)) [] (.slice none 0 0)]).length) cap719), (.slice (some ⟨b166, 0, none⟩) s.roots.length cap163)] 72 (0, 0)), cX233] at hst723
        refine One_skip (i := 28) rfl rfl (Want.plain rfl) (x_store rfl rfl rfl hr724) (fun h => absurd h (by decide +kernel)) ?_
        refine LA_done (by decide +kernel) ?_
        refine W_seq ?_
        refine W_region_lit ?_
        refine Lq (int (xs.length : Int)) rfl rfl rfl rfl ?_
        refine Lq (int (xs.length : Int)) rfl rfl rfl rfl ?_
        refine Lq (int 0) rfl rfl rfl rfl ?_
        refine L_nil ?_
        refine W_ret ?_
        refine ⟨_, _, res_run (rs := [.tmp 4, .tmp 5]) (vs := [(int (xs.length : Int)), (int 0)]) Tryz.results48 (.cons (.tmp rfl) (.cons (.tmp rfl) .nil)) hmk20, ?_⟩
        have he := split_new (s := s) (a := an) (by omega) (by omega)
        rw [← hc0] at he
        rw [he]
        have hndc := nd_of (by omega) hnd149
        have hagr := hag.split hwf (c := c0) hf27 (fun j hj hj' => by have h_ := hf29 j hj hj'; rw [if_pos (by omega)] at h_; rw [h_, hxl])
        rw [hndc] at hagr
        rw [hkc] at hagr
        obtain ⟨c', hst', htree'⟩ := RefT.close (s := s.splitC c0) ((((hst723.front 2 rfl rfl).front 4 rfl rfl).front 2 rfl rfl).front 4 rfl rfl) ho709 (hm685.app (y := ⟨⟨(kc : Int), -1, ((([] : List Str) ++ x147.nd.names))⟩, [], .slice none 0 0⟩) rfl rfl) (OwnL.castI ho704 (splitC_roots_yes hwf hco (by omega) hcc hnd149 hkc hxl hroot)) hagr (hwf.splitC c0) (hS.app (by omega) (by rw [hndc]; exact hbn) rfl) (by show (List.map _ _).length ≤ _; rw [List.length_map]; exact hrl)
        exact ⟨_, _, _, rfl, hst'.keepN 1 rfl, c', (by rw [hxl]; rfl), rfl, htree'⟩
       ·
        refine One_new hst238 (i := 13) (v := fun b => .slice (some ⟨b, 0, none⟩) 0 0) (ob := .cells #[] 9 (0, 0)) rfl rfl rfl (Want.plain rfl) (by kernel_rfl) (fun b725 w726 hst727 => ?_)
        refine ⟨(fun _ => ⟨hst727.rle', hst727.g 2⟩), ?_⟩
        refine LA_all [12, 22] (by decide +kernel) (by simp) ?_
        intro i_ hi_
        simp only [List.mem_cons, List.not_mem_nil, or_false] at hi_
        rcases hi_ with rfl | rfl
        ·
         refine One_val (i := 12) (v := (int (kc : Int))) rfl rfl rfl (Want.plain rfl) (x_load rfl rfl (run_loadVar_one ti_3 ((hst727.g 3) _ _ hcb275) (seg_get (j := 0) hsg276 rfl))) (fun _ => ⟨hst727.rle', hst727.g 2⟩) ?_
         refine LA_all [22] (by decide +kernel) (by simp) ?_
         intro i_ hi_
         simp only [List.mem_cons, List.not_mem_nil, or_false] at hi_
         subst hi_
         have ho736 : OwnL Ty.str 9 R (.slice (some ⟨b725, 0, none⟩) 0 0) ([] : List Str) (one b725 (.cells #[] 9 (0, 0))) := OwnL.lit (cs := []) Encs.nil rfl (by decide)
         obtain ⟨v737, c738, w739, hr740, ho741, hst742⟩ := run_appendM (P := Tryz.prog) (tt := 42) sl_42 ti_9 rfl ho736 hst727 (RdS.mono hvn330 (Le.refl _)) hst727.rle' (by simp only [List.length_append, List.length_cons, List.length_nil]; omega) (by simp only [List.length_append, List.length_cons, List.length_nil, maxLen]; omega)
         refine One_val (i := 22) (v := v737) rfl rfl rfl (Want.plain rfl) (x_append rfl rfl rfl hr740) (fun _ => ⟨hst742.rle', hst742.g 2⟩) ?_
         obtain ⟨R743, hst744, hle745, hc746⟩ := Step.frz hst742
         have hm747 := Row.mono hrow235 hle745
         have hm748 := Row.mono hrow139 hle745
         have hm749 := LnX.mono hi25 hle745
         have hrd750 := OwnL.freeze ho741 hle745 hc746
         have hxs751 : (([] : List Str) ++ x147.nd.names).length = x147.nd.names.length := by simp
         obtain ⟨a755, cap756, e757, hc758⟩ := hrd750.shape
         subst e757
         refine LP (.agg #[(int (kc : Int)), (int (-1)), (.slice a755 ((([] : List Str) ++ x147.nd.names).length) cap756), (.slice none 0 0)]) 23 rfl rfl rfl (fun u753 => (by kernel_rfl)) ⟨(Le.trans hle745 hst744.rle'), hst744.g 1⟩ ?_
         refine LA_all [24] (by decide +kernel) (by simp) ?_
         intro i_ hi_
         simp only [List.mem_cons, List.not_mem_nil, or_false] at hi_
         subst hi_
         refine One_new hst744 (i := 24) (v := fun b => .slice (some ⟨b, 0, none⟩) 1 1) (ob := .cells #[(int (kc : Int)), (int (-1)), (.slice a755 ((([] : List Str) ++ x147.nd.names).length) cap756), (.slice none 0 0)] 75 (0, 0)) rfl rfl rfl (Want.plain rfl) (by kernel_rfl) (fun b762 w763 hst764 => ?_)
         refine ⟨(fun _ => ⟨(Le.trans hle745 hst764.rle'), hst764.g 2⟩), ?_⟩
         refine LA_all [25] (by decide +kernel) (by simp) ?_
         intro i_ hi_
         simp only [List.mem_cons, List.not_mem_nil, or_false] at hi_
         subst hi_
         have ho768 := (hback172 R743 (s.roots.set kc (xs.length : Int)) c232 (by first | rfl | (simp only [List.length_set]; done) | (simp only [List.length_set]; omega) | omega) hm747)
         have ho769 := (hback140 R743 ys_32 cL (by first | rfl | (simp only [List.length_set]; done) | (simp only [List.length_set]; omega) | omega) hm748)
         refine One_append (j := 25) hst764 (t := 70) (e := 75) (ys := [Sn.mk (Nd.mk (kc : Int) (-1) (([] : List Str) ++ x147.nd.names)) [] (.slice none 0 0)]) (src := [(int (kc : Int)), (int (-1)), (.slice a755 ((([] : List Str) ++ x147.nd.names).length) cap756), (.slice none 0 0)]) 3 rfl rfl rfl (Want.plain rfl) rfl rfl rfl sl_70 ti_75 rfl rfl rfl ho769 (src_own (hst764.b 0)) (sn_mk (RdS.mono hrd750 (Le.refl _))) rfl (by first | omega | (simp only [List.length_append, List.length_cons, List.length_nil]; omega)) (by first | (simp only [maxLen]; omega) | (simp only [List.length_append, List.length_cons, List.length_nil, maxLen]; omega)) (fun v770 c771 w772 ho773 hst774 => ?_)
         refine ⟨(fun _ => ⟨(Le.trans hle745 hst774.rle'), hst774.g 3⟩), ?_⟩
         refine LP (ptr p 0) 26 rfl rfl rfl (fun u776 => rfl) ⟨(Le.trans hle745 hst774.rle'), hst774.g 3⟩ ?_
         refine LP (ptr p 0) 27 rfl rfl rfl (fun u779 => (by kernel_rfl)) ⟨(Le.trans hle745 hst774.rle'), hst774.g 3⟩ ?_
         refine LA_all [28] (by decide +kernel) (by simp) ?_
         intro i_ hi_
         simp only [List.mem_cons, List.not_mem_nil, or_false] at hi_
         subst hi_
         obtain ⟨a782, cap783, e784, hc785⟩ := ho773.value
         subst e784
         obtain ⟨w786, hr788, hst787⟩ := run_storeW (P := Tryz.prog) (b := p) (off := 0) (v := (.slice a782 ((ys_32 ++ [Sn.mk (Nd.mk (kc : Int) (-1) (([] : List Str) ++ x147.nd.names)) [] (.slice none 0 0)]).length) cap783)) hst774 3 ti_70 rfl rfl rfl rfl rfl rfl
         change Step _ _ _ _ _ [c771, one b762 (.cells #[(int (kc : Int)), (int (-1)), (.slice a755 ((([] : List Str) ++ x147.nd.names).length) cap756), (.slice none 0 0)] 75 (0, 0)), c232, one p (.cells #[(.slice a782 ((ys_32 ++ [Sn.mk (Nd.mk (kc : Int) (-1) (([] : List Str) ++ x147.nd.names)) [] (.slice none 0 0)]).length) cap783), (.slice (some ⟨b166, 0, none⟩) s.roots.length cap163)] 72 (0, 0)), cX233] at hst787
         refine One_skip (i := 28) rfl rfl (Want.plain rfl) (x_store rfl rfl rfl hr788) (fun h => absurd h (by decide +kernel)) ?_
         refine LA_done (by decide +kernel) ?_
         refine W_seq ?_
         refine W_region_lit ?_
         refine Lq (int (xs.length : Int)) rfl rfl rfl rfl ?_
         refine Lq (int (xs.length : Int)) rfl rfl rfl rfl ?_
         refine Lq (int 0) rfl rfl rfl rfl ?_
         refine L_nil ?_
         refine W_ret ?_
         refine ⟨_, _, res_run (rs := [.tmp 4, .tmp 5]) (vs := [(int (xs.length : Int)), (int 0)]) Tryz.results48 (.cons (.tmp rfl) (.cons (.tmp rfl) .nil)) hmk20, ?_⟩
         have he := split_new (s := s) (a := an) (by omega) (by omega)
         rw [← hc0] at he
         rw [he]
         have hndc := nd_of (by omega) hnd149
         have hagr := hag.split hwf (c := c0) hf27 (fun j hj hj' => by have h_ := hf29 j hj hj'; rw [if_pos (by omega)] at h_; rw [h_, hxl])
         rw [hndc] at hagr
         rw [hkc] at hagr
         obtain ⟨c', hst', htree'⟩ := RefT.close (s := s.splitC c0) ((((hst787.front 2 rfl rfl).front 4 rfl rfl).front 2 rfl rfl).front 4 rfl rfl) ho773 (hm749.app (y := ⟨⟨(kc : Int), -1, ((([] : List Str) ++ x147.nd.names))⟩, [], .slice none 0 0⟩) rfl rfl) (OwnL.castI ho768 (splitC_roots_yes hwf hco (by omega) hcc hnd149 hkc hxl hroot)) hagr (hwf.splitC c0) (hS.app (by omega) (by rw [hndc]; exact hbn) rfl) (by show (List.map _ _).length ≤ _; rw [List.length_map]; exact hrl)
         exact ⟨_, _, _, rfl, hst'.keepN 1 rfl, c', (by rw [hxl]; rfl), rfl, htree'⟩
        ·
         have ho789 : OwnL Ty.str 9 R (.slice (some ⟨b725, 0, none⟩) 0 0) ([] : List Str) (one b725 (.cells #[] 9 (0, 0))) := OwnL.lit (cs := []) Encs.nil rfl (by decide)
         obtain ⟨v790, c791, w792, hr793, ho794, hst795⟩ := run_appendM (P := Tryz.prog) (tt := 42) sl_42 ti_9 rfl ho789 hst727 (RdS.mono hvn330 (Le.refl _)) hst727.rle' (by simp only [List.length_append, List.length_cons, List.length_nil]; omega) (by simp only [List.length_append, List.length_cons, List.length_nil, maxLen]; omega)
         refine One_val (i := 22) (v := v790) rfl rfl rfl (Want.plain rfl) (x_append rfl rfl rfl hr793) (fun _ => ⟨hst795.rle', hst795.g 2⟩) ?_
         obtain ⟨R796, hst797, hle798, hc799⟩ := Step.frz hst795
         have hm800 := Row.mono hrow235 hle798
         have hm801 := Row.mono hrow139 hle798
         have hm802 := LnX.mono hi25 hle798
         have hrd803 := OwnL.freeze ho794 hle798 hc799
         have hxs804 : (([] : List Str) ++ x147.nd.names).length = x147.nd.names.length := by simp
         refine LA_all [12] (by decide +kernel) (by simp) ?_
         intro i_ hi_
         simp only [List.mem_cons, List.not_mem_nil, or_false] at hi_
         subst hi_
         refine One_val (i := 12) (v := (int (kc : Int))) rfl rfl rfl (Want.plain rfl) (x_load rfl rfl (run_loadVar_one ti_3 ((hst797.g 2) _ _ hcb275) (seg_get (j := 0) hsg276 rfl))) (fun _ => ⟨(Le.trans hle798 hst797.rle'), hst797.g 1⟩) ?_
         obtain ⟨a811, cap812, e813, hc814⟩ := hrd803.shape
         subst e813
         refine LP (.agg #[(int (kc : Int)), (int (-1)), (.slice a811 ((([] : List Str) ++ x147.nd.names).length) cap812), (.slice none 0 0)]) 23 rfl rfl rfl (fun u809 => (by kernel_rfl)) ⟨(Le.trans hle798 hst797.rle'), hst797.g 1⟩ ?_
         refine LA_all [24] (by decide +kernel) (by simp) ?_
         intro i_ hi_
         simp only [List.mem_cons, List.not_mem_nil, or_false] at hi_
         subst hi_
         refine One_new hst797 (i := 24) (v := fun b => .slice (some ⟨b, 0, none⟩) 1 1) (ob := .cells #[(int (kc : Int)), (int (-1)), (.slice a811 ((([] : List Str) ++ x147.nd.names).length) cap812), (.slice none 0 0)] 75 (0, 0)) rfl rfl rfl (Want.plain rfl) (by kernel_rfl) (fun b818 w819 hst820 => ?_)
         refine ⟨(fun _ => ⟨(Le.trans hle798 hst820.rle'), hst820.g 2⟩), ?_⟩
         refine LA_all [25] (by decide +kernel) (by simp) ?_
         intro i_ hi_
         simp only [List.mem_cons, List.not_mem_nil, or_false] at hi_
         subst hi_
         have ho824 := (hback172 R796 (s.roots.set kc (xs.length : Int)) c232 (by first | rfl | (simp only [List.length_set]; done) | (simp only [List.length_set]; omega) | omega) hm800)
         have ho825 := (hback140 R796 ys_32 cL (by first | rfl | (simp only [List.length_set]; done) | (simp only [List.length_set]; omega) | omega) hm801)
         refine One_append (j := 25) hst820 (t := 70) (e := 75) (ys := [Sn.mk (Nd.mk (kc : Int) (-1) (([] : List Str) ++ x147.nd.names)) [] (.slice none 0 0)]) (src := [(int (kc : Int)), (int (-1)), (.slice a811 ((([] : List Str) ++ x147.nd.names).length) cap812), (.slice none 0 0)]) 3 rfl rfl rfl (Want.plain rfl) rfl rfl rfl sl_70 ti_75 rfl rfl rfl ho825 (src_own (hst820.b 0)) (sn_mk (RdS.mono hrd803 (Le.refl _))) rfl (by first | omega | (simp only [List.length_append, List.length_cons, List.length_nil]; omega)) (by first | (simp only [maxLen]; omega) | (simp only [List.length_append, List.length_cons, List.length_nil, maxLen]; omega)) (fun v826 c827 w828 ho829 hst830 => ?_)
         refine ⟨(fun _ => ⟨(Le.trans hle798 hst830.rle'), hst830.g 3⟩), ?_⟩
         refine LP (ptr p 0) 26 rfl rfl rfl (fun u832 => rfl) ⟨(Le.trans hle798 hst830.rle'), hst830.g 3⟩ ?_
         refine LP (ptr p 0) 27 rfl rfl rfl (fun u835 => (by kernel_rfl)) ⟨(Le.trans hle798 hst830.rle'), hst830.g 3⟩ ?_
         refine LA_all [28] (by decide +kernel) (by simp) ?_
         intro i_ hi_
         simp only [List.mem_cons, List.not_mem_nil, or_false] at hi_
         subst hi_
         obtain ⟨a838, cap839, e840, hc841⟩ := ho829.value
         subst e840
         obtain ⟨w842, hr844, hst843⟩ := run_storeW (P := Tryz.prog) (b := p) (off := 0) (v := (.slice a838 ((ys_32 ++ [Sn.mk (Nd.mk (kc : Int) (-1) (([] : List Str) ++ x147.nd.names)) [] (.slice none 0 0)]).length) cap839)) hst830 3 ti_70 rfl rfl rfl rfl rfl rfl
         change Step _ _ _ _ _ [c827, one b818 (.cells #[(int (kc : Int)), (int (-1)), (.slice a811 ((([] : List Str) ++ x147.nd.names).length) cap812), (.slice none 0 0)] 75 (0, 0)), c232, one p (.cells #[(.slice a838 ((ys_32 ++ [Sn.mk (Nd.mk (kc : Int) (-1) (([] : List Str) ++ x147.nd.names)) [] (.slice none 0 0)]).length) cap839), (.slice (some ⟨b166, 0, none⟩) s.roots.length cap163)] 72 (0, 0)), cX233] at hst843
         refine One_skip (i := 28) rfl rfl (Want.plain rfl) (x_store rfl rfl rfl hr844) (fun h => absurd h (by decide +kernel)) ?_
         refine LA_done (by decide +kernel) ?_
         refine W_seq ?_
         refine W_region_lit ?_
         refine Lq (int (xs.length : Int)) rfl rfl rfl rfl ?_
         refine Lq (int (xs.length : Int)) rfl rfl rfl rfl ?_
         refine Lq (int 0) rfl rfl rfl rfl ?_
         refine L_nil ?_
         refine W_ret ?_
         refine ⟨_, _, res_run (rs := [.tmp 4, .tmp 5]) (vs := [(int (xs.length : Int)), (int 0)]) Tryz.results48 (.cons (.tmp rfl) (.cons (.tmp rfl) .nil)) hmk20, ?_⟩
         have he := split_new (s := s) (a := an) (by omega) (by omega)
         rw [← hc0] at he
         rw [he]
         have hndc := nd_of (by omega) hnd149
         have hagr := hag.split hwf (c := c0) hf27 (fun j hj hj' => by have h_ := hf29 j hj hj'; rw [if_pos (by omega)] at h_; rw [h_, hxl])
         rw [hndc] at hagr
         rw [hkc] at hagr
         obtain ⟨c', hst', htree'⟩ := RefT.close (s := s.splitC c0) ((((hst843.front 2 rfl rfl).front 4 rfl rfl).front 2 rfl rfl).front 4 rfl rfl) ho829 (hm802.app (y := ⟨⟨(kc : Int), -1, ((([] : List Str) ++ x147.nd.names))⟩, [], .slice none 0 0⟩) rfl rfl) (OwnL.castI ho824 (splitC_roots_yes hwf hco (by omega) hcc hnd149 hkc hxl hroot)) hagr (hwf.splitC c0) (hS.app (by omega) (by rw [hndc]; exact hbn) rfl) (by show (List.map _ _).length ≤ _; rw [List.length_map]; exact hrl)
         exact ⟨_, _, _, rfl, hst'.keepN 1 rfl, c', (by rw [hxl]; rfl), rfl, htree'⟩
     ·
      have q845 := ne_of_beq_false c160
      refine W_cond_false (by show Value.bool _ = _; exact congrArg Value.bool c160) ?_
      refine W_skip ?_
      refine W_seq ?_
      refine W_region_draw [28] (fun w => Le R (hp w) ∧ Le (one p (.cells #[(.slice (some ⟨b134, 0, none⟩) xs.length cap8), vR] 72 (0, 0))) (hp w)) hmix (by decide +kernel) (fun _ _ h => h) ?_
      have hst847 := hst159.draws (w158.drawn + 1)
      generalize draws w158 (w158.drawn + 1) = w846 at hst847 ⊢
      refine LP (ptr p 0) 0 rfl rfl rfl (fun u849 => rfl) ⟨hst847.rle', hst847.g 0⟩ ?_
      refine LP (ptr p 0) 1 rfl rfl rfl (fun u852 => rfl) ⟨hst847.rle', hst847.g 0⟩ ?_
      refine LP (ptr p 0) 2 rfl rfl rfl (fun u855 => rfl) ⟨hst847.rle', hst847.g 0⟩ ?_
      refine LP (ptr p 0) 3 rfl rfl rfl (fun u858 => (by kernel_rfl)) ⟨hst847.rle', hst847.g 0⟩ ?_
      refine LT (.slice (some ⟨b134, 0, none⟩) xs.length cap8) 4 rfl rfl rfl (fun u861 hF862 => (x_load rfl rfl (run_loadVar_one ti_70 (hF862.2 _ _ (one_self _ _)) rfl))) ⟨hst847.rle', hst847.g 0⟩ ?_
      refine LP (ptr p 0) 5 rfl rfl rfl (fun u864 => rfl) ⟨hst847.rle', hst847.g 0⟩ ?_
      refine LP (ptr p 0) 6 rfl rfl rfl (fun u867 => rfl) ⟨hst847.rle', hst847.g 0⟩ ?_
      refine LP (ptr p 0) 7 rfl rfl rfl (fun u870 => (by kernel_rfl)) ⟨hst847.rle', hst847.g 0⟩ ?_
      refine LT (.slice (some ⟨b134, 0, none⟩) xs.length cap8) 8 rfl rfl rfl (fun u873 hF874 => (x_load rfl rfl (run_loadVar_one ti_70 (hF874.2 _ _ (one_self _ _)) rfl))) ⟨hst847.rle', hst847.g 0⟩ ?_
      refine LP (int (c0 : Int)) 9 rfl rfl rfl (fun u876 => rfl) ⟨hst847.rle', hst847.g 0⟩ ?_
      obtain ⟨cl881, cs882, hr883, hcb884, hsg885⟩ := Row.at hrow139 c0 (by omega)
      rw [← hx148] at hr883
      obtain ⟨vn886, rfl, hvn887, a888, n889, cap890, e891⟩ := tySn_open hr883
      refine LP (ptr b134 (0 + c0 * 4)) 10 rfl rfl rfl (fun u879 => (x_indexAddr' rfl sl_70 ti_75 rfl rfl (by omega))) ⟨hst847.rle', hst847.g 0⟩ ?_
      refine LP (ptr b134 (0 + c0 * 4)) 11 rfl rfl rfl (fun u893 => (by kernel_rfl)) ⟨hst847.rle', hst847.g 0⟩ ?_
      refine LP (ptr p 0) 14 rfl rfl rfl (fun u900 => rfl) ⟨hst847.rle', hst847.g 0⟩ ?_
      refine LP (ptr p 0) 15 rfl rfl rfl (fun u907 => rfl) ⟨hst847.rle', hst847.g 0⟩ ?_
      refine LP (ptr p 0) 16 rfl rfl rfl (fun u914 => (by kernel_rfl)) ⟨hst847.rle', hst847.g 0⟩ ?_
      refine LT (.slice (some ⟨b134, 0, none⟩) xs.length cap8) 17 rfl rfl rfl (fun u921 hF922 => (x_load rfl rfl (run_loadVar_one ti_70 (hF922.2 _ _ (one_self _ _)) rfl))) ⟨hst847.rle', hst847.g 0⟩ ?_
      refine LP (int (c0 : Int)) 18 rfl rfl rfl (fun u928 => rfl) ⟨hst847.rle', hst847.g 0⟩ ?_
      obtain ⟨cl937, cs938, hr939, hcb940, hsg941⟩ := Row.at hrow139 c0 (by omega)
      rw [← hx148] at hr939
      obtain ⟨vn942, rfl, hvn943, a944, n945, cap946, e947⟩ := tySn_open hr939
      refine LP (ptr b134 (0 + c0 * 4)) 19 rfl rfl rfl (fun u935 => (x_indexAddr' rfl sl_70 ti_75 rfl rfl (by omega))) ⟨hst847.rle', hst847.g 0⟩ ?_
      refine LP (ptr b134 (0 + c0 * 4 + 2)) 20 rfl rfl rfl (fun u953 => (by kernel_rfl)) ⟨hst847.rle', hst847.g 0⟩ ?_
      refine LA_all [12, 13, 21] (by decide +kernel) (by simp) ?_
      intro i_ hi_
      simp only [List.mem_cons, List.not_mem_nil, or_false] at hi_
      rcases hi_ with rfl | rfl | rfl
      ·
       refine One_val (i := 12) (v := (int x147.nd.cls)) rfl rfl rfl (Want.plain rfl) (x_load rfl rfl (run_loadVar_one ti_3 ((hst847.g 1) _ _ hcb884) (seg_get (j := 0) hsg885 rfl))) (fun _ => ⟨hst847.rle', hst847.g 0⟩) ?_
       refine LA_all [13, 21] (by decide +kernel) (by simp) ?_
       intro i_ hi_
       simp only [List.mem_cons, List.not_mem_nil, or_false] at hi_
       rcases hi_ with rfl | rfl
       ·
        refine One_new hst847 (i := 13) (v := fun b => .slice (some ⟨b, 0, none⟩) 0 0) (ob := .cells #[] 9 (0, 0)) rfl rfl rfl (Want.plain rfl) (by kernel_rfl) (fun b967 w968 hst969 => ?_)
        refine ⟨(fun _ => ⟨hst969.rle', hst969.g 1⟩), ?_⟩
        refine LA_all [21] (by decide +kernel) (by simp) ?_
        intro i_ hi_
        simp only [List.mem_cons, List.not_mem_nil, or_false] at hi_
        subst hi_
        refine One_val (i := 21) (v := vn942) rfl rfl rfl (Want.plain rfl) (x_load rfl rfl (run_loadVar_one ti_42 ((hst969.g 2) _ _ hcb940) (seg_get (j := 2) hsg941 rfl))) (fun _ => ⟨hst969.rle', hst969.g 1⟩) ?_
        refine LA_all [22] (by decide +kernel) (by simp) ?_
        intro i_ hi_
        simp only [List.mem_cons, List.not_mem_nil, or_false] at hi_
        subst hi_
        have ho976 : OwnL Ty.str 9 R (.slice (some ⟨b967, 0, none⟩) 0 0) ([] : List Str) (one b967 (.cells #[] 9 (0, 0))) := OwnL.lit (cs := []) Encs.nil rfl (by decide)
        obtain ⟨v977, c978, w979, hr980, ho981, hst982⟩ := run_appendM (P := Tryz.prog) (tt := 42) sl_42 ti_9 rfl ho976 hst969 (RdS.mono hvn943 (Le.refl _)) hst969.rle' (by simp only [List.length_append, List.length_cons, List.length_nil]; omega) (by simp only [List.length_append, List.length_cons, List.length_nil, maxLen]; omega)
        refine One_val (i := 22) (v := v977) rfl rfl rfl (Want.plain rfl) (x_append rfl rfl rfl hr980) (fun _ => ⟨hst982.rle', hst982.g 1⟩) ?_
        obtain ⟨R983, hst984, hle985, hc986⟩ := Step.frz hst982
        have hm987 := Row.mono hrow139 hle985
        have hm988 := LnX.mono hi25 hle985
        have hm989 := OwnL.mono hRs hle985
        have hrd990 := OwnL.freeze ho981 hle985 hc986
        have hxs991 : (([] : List Str) ++ x147.nd.names).length = x147.nd.names.length := by simp
        obtain ⟨a995, cap996, e997, hc998⟩ := hrd990.shape
        subst e997
        refine LP (.agg #[(int x147.nd.cls), (int (-1)), (.slice a995 ((([] : List Str) ++ x147.nd.names).length) cap996), (.slice none 0 0)]) 23 rfl rfl rfl (fun u993 => (by kernel_rfl)) ⟨(Le.trans hle985 hst984.rle'), hst984.g 0⟩ ?_
        refine LA_all [24] (by decide +kernel) (by simp) ?_
        intro i_ hi_
        simp only [List.mem_cons, List.not_mem_nil, or_false] at hi_
        subst hi_
        refine One_new hst984 (i := 24) (v := fun b => .slice (some ⟨b, 0, none⟩) 1 1) (ob := .cells #[(int x147.nd.cls), (int (-1)), (.slice a995 ((([] : List Str) ++ x147.nd.names).length) cap996), (.slice none 0 0)] 75 (0, 0)) rfl rfl rfl (Want.plain rfl) (by kernel_rfl) (fun b1002 w1003 hst1004 => ?_)
        refine ⟨(fun _ => ⟨(Le.trans hle985 hst1004.rle'), hst1004.g 1⟩), ?_⟩
        refine LA_all [25] (by decide +kernel) (by simp) ?_
        intro i_ hi_
        simp only [List.mem_cons, List.not_mem_nil, or_false] at hi_
        subst hi_
        have ho1008 := (hback140 R983 ys_32 cL (by first | rfl | (simp only [List.length_set]; done) | (simp only [List.length_set]; omega) | omega) hm987)
        refine One_append (j := 25) hst1004 (t := 70) (e := 75) (ys := [Sn.mk (Nd.mk x147.nd.cls (-1) (([] : List Str) ++ x147.nd.names)) [] (.slice none 0 0)]) (src := [(int x147.nd.cls), (int (-1)), (.slice a995 ((([] : List Str) ++ x147.nd.names).length) cap996), (.slice none 0 0)]) 2 rfl rfl rfl (Want.plain rfl) rfl rfl rfl sl_70 ti_75 rfl rfl rfl ho1008 (src_own (hst1004.b 0)) (sn_mk (RdS.mono hrd990 (Le.refl _))) rfl (by first | omega | (simp only [List.length_append, List.length_cons, List.length_nil]; omega)) (by first | (simp only [maxLen]; omega) | (simp only [List.length_append, List.length_cons, List.length_nil, maxLen]; omega)) (fun v1009 c1010 w1011 ho1012 hst1013 => ?_)
        refine ⟨(fun _ => ⟨(Le.trans hle985 hst1013.rle'), hst1013.g 2⟩), ?_⟩
        refine LP (ptr p 0) 26 rfl rfl rfl (fun u1015 => rfl) ⟨(Le.trans hle985 hst1013.rle'), hst1013.g 2⟩ ?_
        refine LP (ptr p 0) 27 rfl rfl rfl (fun u1018 => (by kernel_rfl)) ⟨(Le.trans hle985 hst1013.rle'), hst1013.g 2⟩ ?_
        refine LA_all [28] (by decide +kernel) (by simp) ?_
        intro i_ hi_
        simp only [List.mem_cons, List.not_mem_nil, or_false] at hi_
        subst hi_
        obtain ⟨a1021, cap1022, e1023, hc1024⟩ := ho1012.value
        subst e1023
        obtain ⟨w1025, hr1027, hst1026⟩ := run_storeW (P := Tryz.prog) (b := p) (off := 0) (v := (.slice a1021 ((ys_32 ++ [Sn.mk (Nd.mk x147.nd.cls (-1) (([] : List Str) ++ x147.nd.names)) [] (.slice none 0 0)]).length) cap1022)) hst1013 2 ti_70 rfl rfl rfl rfl rfl rfl
        change Step _ _ _ _ _ [c1010, one b1002 (.cells #[(int x147.nd.cls), (int (-1)), (.slice a995 ((([] : List Str) ++ x147.nd.names).length) cap996), (.slice none 0 0)] 75 (0, 0)), one p (.cells #[(.slice a1021 ((ys_32 ++ [Sn.mk (Nd.mk x147.nd.cls (-1) (([] : List Str) ++ x147.nd.names)) [] (.slice none 0 0)]).length) cap1022), vR] 72 (0, 0)), cX233, cR] at hst1026
        refine One_skip (i := 28) rfl rfl (Want.plain rfl) (x_store rfl rfl rfl hr1027) (fun h => absurd h (by decide +kernel)) ?_
        refine LA_done (by decide +kernel) ?_
        refine W_seq ?_
        refine W_region_lit ?_
        refine Lq (int (xs.length : Int)) rfl rfl rfl rfl ?_
        refine Lq (int (xs.length : Int)) rfl rfl rfl rfl ?_
        refine Lq (int 0) rfl rfl rfl rfl ?_
        refine L_nil ?_
        refine W_ret ?_
        refine ⟨_, _, res_run (rs := [.tmp 4, .tmp 5]) (vs := [(int (xs.length : Int)), (int 0)]) Tryz.results48 (.cons (.tmp rfl) (.cons (.tmp rfl) .nil)) hmk20, ?_⟩
        have he := split_new (s := s) (a := an) (by omega) (by omega)
        rw [← hc0] at he
        rw [he]
        have hndc := nd_of (by omega) hnd149
        have hagr := hag.split hwf (c := c0) hf27 (fun j hj hj' => by have h_ := hf29 j hj hj'; rw [if_pos (by omega)] at h_; rw [h_, hxl])
        rw [hndc] at hagr
        obtain ⟨c', hst', htree'⟩ := RefT.close (s := s.splitC c0) ((((hst1026.front 4 rfl rfl).front 4 rfl rfl).front 2 rfl rfl).front 4 rfl rfl) ho1012 (hm988.app (y := ⟨⟨x147.nd.cls, -1, ((([] : List Str) ++ x147.nd.names))⟩, [], .slice none 0 0⟩) rfl rfl) (OwnL.castI hm989 (splitC_roots_no hwf hco (by omega) hcc hnd149 (ne_of_beq_false c160))) hagr (hwf.splitC c0) (hS.app (by omega) (by rw [hndc]; exact hbn) rfl) (by show (List.map _ _).length ≤ _; rw [List.length_map]; exact hrl)
        exact ⟨_, _, _, rfl, hst'.keepN 1 rfl, c', (by rw [hxl]; rfl), rfl, htree'⟩
       ·
        refine One_val (i := 21) (v := vn942) rfl rfl rfl (Want.plain rfl) (x_load rfl rfl (run_loadVar_one ti_42 ((hst847.g 1) _ _ hcb940) (seg_get (j := 2) hsg941 rfl))) (fun _ => ⟨hst847.rle', hst847.g 0⟩) ?_
        refine LA_all [13] (by decide +kernel) (by simp) ?_
        intro i_ hi_
        simp only [List.mem_cons, List.not_mem_nil, or_false] at hi_
        subst hi_
        refine One_new hst847 (i := 13) (v := fun b => .slice (some ⟨b, 0, none⟩) 0 0) (ob := .cells #[] 9 (0, 0)) rfl rfl rfl (Want.plain rfl) (by kernel_rfl) (fun b1031 w1032 hst1033 => ?_)
        refine ⟨(fun _ => ⟨hst1033.rle', hst1033.g 1⟩), ?_⟩
        refine LA_all [22] (by decide +kernel) (by simp) ?_
        intro i_ hi_
        simp only [List.mem_cons, List.not_mem_nil, or_false] at hi_
        subst hi_
        have ho1037 : OwnL Ty.str 9 R (.slice (some ⟨b1031, 0, none⟩) 0 0) ([] : List Str) (one b1031 (.cells #[] 9 (0, 0))) := OwnL.lit (cs := []) Encs.nil rfl (by decide)
        obtain ⟨v1038, c1039, w1040, hr1041, ho1042, hst1043⟩ := run_appendM (P := Tryz.prog) (tt := 42) sl_42 ti_9 rfl ho1037 hst1033 (RdS.mono hvn943 (Le.refl _)) hst1033.rle' (by simp only [List.length_append, List.length_cons, List.length_nil]; omega) (by simp only [List.length_append, List.length_cons, List.length_nil, maxLen]; omega)
        refine One_val (i := 22) (v := v1038) rfl rfl rfl (Want.plain rfl) (x_append rfl rfl rfl hr1041) (fun _ => ⟨hst1043.rle', hst1043.g 1⟩) ?_
        obtain ⟨R1044, hst1045, hle1046, hc1047⟩ := Step.frz hst1043
        have hm1048 := Row.mono hrow139 hle1046
        have hm1049 := LnX.mono hi25 hle1046
        have hm1050 := OwnL.mono hRs hle1046
        have hrd1051 := OwnL.freeze ho1042 hle1046 hc1047
        have hxs1052 : (([] : List Str) ++ x147.nd.names).length = x147.nd.names.length := by simp
        obtain ⟨a1056, cap1057, e1058, hc1059⟩ := hrd1051.shape
        subst e1058
        refine LP (.agg #[(int x147.nd.cls), (int (-1)), (.slice a1056 ((([] : List Str) ++ x147.nd.names).length) cap1057), (.slice none 0 0)]) 23 rfl rfl rfl (fun u1054 => (by kernel_rfl)) ⟨(Le.trans hle1046 hst1045.rle'), hst1045.g 0⟩ ?_
        refine LA_all [24] (by decide +kernel) (by simp) ?_
        intro i_ hi_
        simp only [List.mem_cons, List.not_mem_nil, or_false] at hi_
        subst hi_
        refine One_new hst1045 (i := 24) (v := fun b => .slice (some ⟨b, 0, none⟩) 1 1) (ob := .cells #[(int x147.nd.cls), (int (-1)), (.slice a1056 ((([] : List Str) ++ x147.nd.names).length) cap1057), (.slice none 0 0)] 75 (0, 0)) rfl rfl rfl (Want.plain rfl) (by kernel_rfl) (fun b1063 w1064 hst1065 => ?_)
        refine ⟨(fun _ => ⟨(Le.trans hle1046 hst1065.rle'), hst1065.g 1⟩), ?_⟩
        refine LA_all [25] (by decide +kernel) (by simp) ?_
        intro i_ hi_
        simp only [List.mem_cons, List.not_mem_nil, or_false] at hi_
        subst hi_
        have ho1069 := (hback140 R1044 ys_32 cL (by first | rfl | (simp only [List.length_set]; done) | (simp only [List.length_set]; omega) | omega) hm1048)
        refine One_append (j := 25) hst1065 (t := 70) (e := 75) (ys := [Sn.mk (Nd.mk x147.nd.cls (-1) (([] : List Str) ++ x147.nd.names)) [] (.slice none 0 0)]) (src := [(int x147.nd.cls), (int (-1)), (.slice a1056 ((([] : List Str) ++ x147.nd.names).length) cap1057), (.slice none 0 0)]) 2 rfl rfl rfl (Want.plain rfl) rfl rfl rfl sl_70 ti_75 rfl rfl rfl ho1069 (src_own (hst1065.b 0)) (sn_mk (RdS.mono hrd1051 (Le.refl _))) rfl (by first | omega | (simp only [List.length_append, List.length_cons, List.length_nil]; omega)) (by first | (simp only [maxLen]; omega) | (simp only [List.length_append, List.length_cons, List.length_nil, maxLen]; omega)) (fun v1070 c1071 w1072 ho1073 hst1074 => ?_)
        refine ⟨(fun _ => ⟨(Le.trans hle1046 hst1074.rle'), hst1074.g 2⟩), ?_⟩
        refine LP (ptr p 0) 26 rfl rfl rfl (fun u1076 => rfl) ⟨(Le.trans hle1046 hst1074.rle'), hst1074.g 2⟩ ?_
        refine LP (ptr p 0) 27 rfl rfl rfl (fun u1079 => (by kernel_rfl)) ⟨(Le.trans hle1046 hst1074.rle'), hst1074.g 2⟩ ?_
        refine LA_all [28] (by decide +kernel) (by simp) ?_
        intro i_ hi_
        simp only [List.mem_cons, List.not_mem_nil, or_false] at hi_
        subst hi_
        obtain ⟨a1082, cap1083, e1084, hc1085⟩ := ho1073.value
        subst e1084
        obtain ⟨w1086, hr1088, hst1087⟩ := run_storeW (P := Tryz.prog) (b := p) (off := 0) (v := (.slice a1082 ((ys_32 ++ [Sn.mk (Nd.mk x147.nd.cls (-1) (([] : List Str) ++ x147.nd.names)) [] (.slice none 0 0)]).length) cap1083)) hst1074 2 ti_70 rfl rfl rfl rfl rfl rfl
        change Step _ _ _ _ _ [c1071, one b1063 (.cells #[(int x147.nd.cls), (int (-1)), (.slice a1056 ((([] : List Str) ++ x147.nd.names).length) cap1057), (.slice none 0 0)] 75 (0, 0)), one p (.cells #[(.slice a1082 ((ys_32 ++ [Sn.mk (Nd.mk x147.nd.cls (-1) (([] : List Str) ++ x147.nd.names)) [] (.slice none 0 0)]).length) cap1083), vR] 72 (0, 0)), cX233, cR] at hst1087
        refine One_skip (i := 28) rfl rfl (Want.plain rfl) (x_store rfl rfl rfl hr1088) (fun h => absurd h (by decide +kernel)) ?_
        refine LA_done (by decide +kernel) ?_
        refine W_seq ?_
        refine W_region_lit ?_
        refine Lq (int (xs.length : Int)) rfl rfl rfl rfl ?_
        refine Lq (int (xs.length : Int)) rfl rfl rfl rfl ?_
        refine Lq (int 0) rfl rfl rfl rfl ?_
        refine L_nil ?_
        refine W_ret ?_
        refine ⟨_, _, res_run (rs := [.tmp 4, .tmp 5]) (vs := [(int (xs.length : Int)), (int 0)]) Tryz.results48 (.cons (.tmp rfl) (.cons (.tmp rfl) .nil)) hmk20, ?_⟩
        have he := split_new (s := s) (a := an) (by omega) (by omega)
        rw [← hc0] at he
        rw [he]
        have hndc := nd_of (by omega) hnd149
        have hagr := hag.split hwf (c := c0) hf27 (fun j hj hj' => by have h_ := hf29 j hj hj'; rw [if_pos (by omega)] at h_; rw [h_, hxl])
        rw [hndc] at hagr
        obtain ⟨c', hst', htree'⟩ := RefT.close (s := s.splitC c0) ((((hst1087.front 4 rfl rfl).front 4 rfl rfl).front 2 rfl rfl).front 4 rfl rfl) ho1073 (hm1049.app (y := ⟨⟨x147.nd.cls, -1, ((([] : List Str) ++ x147.nd.names))⟩, [], .slice none 0 0⟩) rfl rfl) (OwnL.castI hm1050 (splitC_roots_no hwf hco (by omega) hcc hnd149 (ne_of_beq_false c160))) hagr (hwf.splitC c0) (hS.app (by omega) (by rw [hndc]; exact hbn) rfl) (by show (List.map _ _).length ≤ _; rw [List.length_map]; exact hrl)
        exact ⟨_, _, _, rfl, hst'.keepN 1 rfl, c', (by rw [hxl]; rfl), rfl, htree'⟩
      ·
       refine One_new hst847 (i := 13) (v := fun b => .slice (some ⟨b, 0, none⟩) 0 0) (ob := .cells #[] 9 (0, 0)) rfl rfl rfl (Want.plain rfl) (by kernel_rfl) (fun b1089 w1090 hst1091 => ?_)
       refine ⟨(fun _ => ⟨hst1091.rle', hst1091.g 1⟩), ?_⟩
       refine LA_all [12, 21] (by decide +kernel) (by simp) ?_
       intro i_ hi_
       simp only [List.mem_cons, List.not_mem_nil, or_false] at hi_
       rcases hi_ with rfl | rfl
       ·
        refine One_val (i := 12) (v := (int x147.nd.cls)) rfl rfl rfl (Want.plain rfl) (x_load rfl rfl (run_loadVar_one ti_3 ((hst1091.g 2) _ _ hcb884) (seg_get (j := 0) hsg885 rfl))) (fun _ => ⟨hst1091.rle', hst1091.g 1⟩) ?_
        refine LA_all [21] (by decide +kernel) (by simp) ?_
        intro i_ hi_
        simp only [List.mem_cons, List.not_mem_nil, or_false] at hi_
        subst hi_
        refine One_val (i := 21) (v := vn942) rfl rfl rfl (Want.plain rfl) (x_load rfl rfl (run_loadVar_one ti_42 ((hst1091.g 2) _ _ hcb940) (seg_get (j := 2) hsg941 rfl))) (fun _ => ⟨hst1091.rle', hst1091.g 1⟩) ?_
        refine LA_all [22] (by decide +kernel) (by simp) ?_
        intro i_ hi_
        simp only [List.mem_cons, List.not_mem_nil, or_false] at hi_
        subst hi_
        have ho1103 : OwnL Ty.str 9 R (.slice (some ⟨b1089, 0, none⟩) 0 0) ([] : List Str) (one b1089 (.cells #[] 9 (0, 0))) := OwnL.lit (cs := []) Encs.nil rfl (by decide)
        obtain ⟨v1104, c1105, w1106, hr1107, ho1108, hst1109⟩ := run_appendM (P := Tryz.prog) (tt := 42) sl_42 ti_9 rfl ho1103 hst1091 (RdS.mono hvn943 (Le.refl _)) hst1091.rle' (by simp only [List.length_append, List.length_cons, List.length_nil]; omega) (by simp only [List.length_append, List.length_cons, List.length_nil, maxLen]; omega)
        refine One_val (i := 22) (v := v1104) rfl rfl rfl (Want.plain rfl) (x_append rfl rfl rfl hr1107) (fun _ => ⟨hst1109.rle', hst1109.g 1⟩) ?_
        obtain ⟨R1110, hst1111, hle1112, hc1113⟩ := Step.frz hst1109
        have hm1114 := Row.mono hrow139 hle1112
        have hm1115 := LnX.mono hi25 hle1112
        have hm1116 := OwnL.mono hRs hle1112
        have hrd1117 := OwnL.freeze ho1108 hle1112 hc1113
        have hxs1118 : (([] : List Str) ++ x147.nd.names).length = x147.nd.names.length := by simp
        obtain ⟨a1122, cap1123, e1124, hc1125⟩ := hrd1117.shape
        subst e1124
        refine LP (.agg #[(int x147.nd.cls), (int (-1)), (.slice a1122 ((([] : List Str) ++ x147.nd.names).length) cap1123), (.slice none 0 0)]) 23 rfl rfl rfl (fun u1120 => (by kernel_rfl)) ⟨(Le.trans hle1112 hst1111.rle'), hst1111.g 0⟩ ?_
        refine LA_all [24] (by decide +kernel) (by simp) ?_
        intro i_ hi_
        simp only [List.mem_cons, List.not_mem_nil, or_false] at hi_
        subst hi_
        refine One_new hst1111 (i := 24) (v := fun b => .slice (some ⟨b, 0, none⟩) 1 1) (ob := .cells #[(int x147.nd.cls), (int (-1)), (.slice a1122 ((([] : List Str) ++ x147.nd.names).length) cap1123), (.slice none 0 0)] 75 (0, 0)) rfl rfl rfl (Want.plain rfl) (by kernel_rfl) (fun b1129 w1130 hst1131 => ?_)
        refine ⟨(fun _ => ⟨(Le.trans hle1112 hst1131.rle'), hst1131.g 1⟩), ?_⟩
        refine LA_all [25] (by decide +kernel) (by simp) ?_
        intro i_ hi_
        simp only [List.mem_cons, List.not_mem_nil, or_false] at hi_
        subst hi_
        have ho1135 := (hback140 R1110 ys_32 cL (by first | rfl | (simp only [List.length_set]; done) | (simp only [List.length_set]; omega) | omega) hm1114)
        refine One_append (j := 25) hst1131 (t := 70) (e := 75) (ys := [Sn.mk (Nd.mk x147.nd.cls (-1) (([] : List Str) ++ x147.nd.names)) [] (.slice none 0 0)]) (src := [(int x147.nd.cls), (int (-1)), (.slice a1122 ((([] : List Str) ++ x147.nd.names).length) cap1123), (.slice none 0 0)]) 2 rfl rfl rfl (Want.plain rfl) rfl rfl rfl sl_70 ti_75 rfl rfl rfl ho1135 (src_own (hst1131.b 0)) (sn_mk (RdS.mono hrd1117 (Le.refl _))) rfl (by first | omega | (simp only [List.length_append, List.length_cons, List.length_nil]; omega)) (by first | (simp only [maxLen]; omega) | (simp only [List.length_append, List.length_cons, List.length_nil, maxLen]; omega)) (fun v1136 c1137 w1138 ho1139 hst1140 => ?_)
        refine ⟨(fun _ => ⟨(Le.trans hle1112 hst1140.rle'), hst1140.g 2⟩), ?_⟩
        refine LP (ptr p 0) 26 rfl rfl rfl (fun u1142 => rfl) ⟨(Le.trans hle1112 hst1140.rle'), hst1140.g 2⟩ ?_
        refine LP (ptr p 0) 27 rfl rfl rfl (fun u1145 => (by kernel_rfl)) ⟨(Le.trans hle1112 hst1140.rle'), hst1140.g 2⟩ ?_
        refine LA_all [28] (by decide +kernel) (by simp) ?_
        intro i_ hi_
        simp only [List.mem_cons, List.not_mem_nil, or_false] at hi_
        subst hi_
        obtain ⟨a1148, cap1149, e1150, hc1151⟩ := ho1139.value
        subst e1150
        obtain ⟨w1152, hr1154, hst1153⟩ := run_storeW (P := Tryz.prog) (b := p) (off := 0) (v := (.slice a1148 ((ys_32 ++ [Sn.mk (Nd.mk x147.nd.cls (-1) (([] : List Str) ++ x147.nd.names)) [] (.slice none 0 0)]).length) cap1149)) hst1140 2 ti_70 rfl rfl rfl rfl rfl rfl
        change Step _ _ _ _ _ [c1137, one b1129 (.cells #[(int x147.nd.cls), (int (-1)), (.slice a1122 ((([] : List Str) ++ x147.nd.names).length) cap1123), (.slice none 0 0)] 75 (0, 0)), one p (.cells #[(.slice a1148 ((ys_32 ++ [Sn.mk (Nd.mk x147.nd.cls (-1) (([] : List Str) ++ x147.nd.names)) [] (.slice none 0 0)]).length) cap1149), vR] 72 (0, 0)), cX233, cR] at hst1153
        refine One_skip (i := 28) rfl rfl (Want.plain rfl) (x_store rfl rfl rfl hr1154) (fun h => absurd h (by decide +kernel)) ?_
        refine LA_done (by decide +kernel) ?_
        refine W_seq ?_
        refine W_region_lit ?_
        refine Lq (int (xs.length : Int)) rfl rfl rfl rfl ?_
        refine Lq (int (xs.length : Int)) rfl rfl rfl rfl ?_
        refine Lq (int 0) rfl rfl rfl rfl ?_
        refine L_nil ?_
        refine W_ret ?_
        refine ⟨_, _, res_run (rs := [.tmp 4, .tmp 5]) (vs := [(int (xs.length : Int)), (int 0)]) Tryz.results48 (.cons (.tmp rfl) (.cons (.tmp rfl) .nil)) hmk20, ?_⟩
        have he := split_new (s := s) (a := an) (by omega) (by omega)
        rw [← hc0] at he
        rw [he]
        have hndc := nd_of (by omega) hnd149
        have hagr := hag.split hwf (c := c0) hf27 (fun j hj hj' => by have h_ := hf29 j hj hj'; rw [if_pos (by omega)] at h_; rw [h_, hxl])
        rw [hndc] at hagr
        obtain ⟨c', hst', htree'⟩ := RefT.close (s := s.splitC c0) ((((hst1153.front 4 rfl rfl).front 4 rfl rfl).front 2 rfl rfl).front 4 rfl rfl) ho1139 (hm1115.app (y := ⟨⟨x147.nd.cls, -1, ((([] : List Str) ++ x147.nd.names))⟩, [], .slice none 0 0⟩) rfl rfl) (OwnL.castI hm1116 (splitC_roots_no hwf hco (by omega) hcc hnd149 (ne_of_beq_false c160))) hagr (hwf.splitC c0) (hS.app (by omega) (by rw [hndc]; exact hbn) rfl) (by show (List.map _ _).length ≤ _; rw [List.length_map]; exact hrl)
        exact ⟨_, _, _, rfl, hst'.keepN 1 rfl, c', (by rw [hxl]; rfl), rfl, htree'⟩
       ·
        refine One_val (i := 21) (v := vn942) rfl rfl rfl (Want.plain rfl) (x_load rfl rfl (run_loadVar_one ti_42 ((hst1091.g 2) _ _ hcb940) (seg_get (j := 2) hsg941 rfl))) (fun _ => ⟨hst1091.rle', hst1091.g 1⟩) ?_
        refine LA_all [12, 22] (by decide +kernel) (by simp) ?_
        intro i_ hi_
        simp only [List.mem_cons, List.not_mem_nil, or_false] at hi_
        rcases hi_ with rfl | rfl
        ·
         refine One_val (i := 12) (v := (int x147.nd.cls)) rfl rfl rfl (Want.plain rfl) (x_load rfl rfl (run_loadVar_one ti_3 ((hst1091.g 2) _ _ hcb884) (seg_get (j := 0) hsg885 rfl))) (fun _ => ⟨hst1091.rle', hst1091.g 1⟩) ?_
         refine LA_all [22] (by decide +kernel) (by simp) ?_
         intro i_ hi_
         simp only [List.mem_cons, List.not_mem_nil, or_false] at hi_
         subst hi_
         have ho1163 : OwnL Ty.str 9 R (.slice (some ⟨b1089, 0, none⟩) 0 0) ([] : List Str) (one b1089 (.cells #[] 9 (0, 0))) := OwnL.lit (cs := []) Encs.nil rfl (by decide)
         obtain ⟨v1164, c1165, w1166, hr1167, ho1168, hst1169⟩ := run_appendM (P := Tryz.prog) (tt := 42) sl_42 ti_9 rfl ho1163 hst1091 (RdS.mono hvn943 (Le.refl _)) hst1091.rle' (by simp only [List.length_append, List.length_cons, List.length_nil]; omega) (by simp only [List.length_append, List.length_cons, List.length_nil, maxLen]; omega)
         refine One_val (i := 22) (v := v1164) rfl rfl rfl (Want.plain rfl) (x_append rfl rfl rfl hr1167) (fun _ => ⟨hst1169.rle', hst1169.g 1⟩) ?_
         obtain ⟨R1170, hst1171, hle1172, hc1173⟩ := Step.frz hst1169
         have hm1174 := Row.mono hrow139 hle1172
         have hm1175 := LnX.mono hi25 hle1172
         have hm1176 := OwnL.mono hRs hle1172
         have hrd1177 := OwnL.freeze ho1168 hle1172 hc1173
         have hxs1178 : (([] : List Str) ++ x147.nd.names).length = x147.nd.names.length := by simp
         obtain ⟨a1182, cap1183, e1184, hc1185⟩ := hrd1177.shape
         subst e1184
         refine LP (.agg #[(int x147.nd.cls), (int (-1)), (.slice a1182 ((([] : List Str) ++ x147.nd.names).length) cap1183), (.slice none 0 0)]) 23 rfl rfl rfl (fun u1180 => (by kernel_rfl)) ⟨(Le.trans hle1172 hst1171.rle'), hst1171.g 0⟩ ?_
         refine LA_all [24] (by decide +kernel) (by simp) ?_
         intro i_ hi_
         simp only [List.mem_cons, List.not_mem_nil, or_false] at hi_
         subst hi_
         refine One_new hst1171 (i := 24) (v := fun b => .slice (some ⟨b, 0, none⟩) 1 1) (ob := .cells #[(int x147.nd.cls), (int (-1)), (.slice a1182 ((([] : List Str) ++ x147.nd.names).length) cap1183), (.slice none 0 0)] 75 (0, 0)) rfl rfl rfl (Want.plain rfl) (by kernel_rfl) (fun b1189 w1190 hst1191 => ?_)
         refine ⟨(fun _ => ⟨(Le.trans hle1172 hst1191.rle'), hst1191.g 1⟩), ?_⟩
         refine LA_all [25] (by decide +kernel) (by simp) ?_
         intro i_ hi_
         simp only [List.mem_cons, List.not_mem_nil, or_false] at hi_
         subst hi_
         have ho1195 := (hback140 R1170 ys_32 cL (by first | rfl | (simp only [List.length_set]; done) | (simp only [List.length_set]; omega) | omega) hm1174)
         refine One_append (j := 25) hst1191 (t := 70) (e := 75) (ys := [Sn.mk (Nd.mk x147.nd.cls (-1) (([] : List Str) ++ x147.nd.names)) [] (.slice none 0 0)]) (src := [(int x147.nd.cls), (int (-1)), (.slice a1182 ((([] : List Str) ++ x147.nd.names).length) cap1183), (.slice none 0 0)]) 2 rfl rfl rfl (Want.plain rfl) rfl rfl rfl sl_70 ti_75 rfl rfl rfl ho1195 (src_own (hst1191.b 0)) (sn_mk (RdS.mono hrd1177 (Le.refl _))) rfl (by first | omega | (simp only [List.length_append, List.length_cons, List.length_nil]; omega)) (by first | (simp only [maxLen]; omega) | (simp only [List.length_append, List.length_cons, List.length_nil, maxLen]; omega)) (fun v1196 c1197 w1198 ho1199 hst1200 => ?_)
         refine ⟨(fun _ => ⟨(Le.trans hle1172 hst1200.rle'), hst1200.g 2⟩), ?_⟩
         refine LP (ptr p 0) 26 rfl rfl rfl (fun u1202 => rfl) ⟨(Le.trans hle1172 hst1200.rle'), hst1200.g 2⟩ ?_
         refine LP (ptr p 0) 27 rfl rfl rfl (fun u1205 => (by kernel_rfl)) ⟨(Le.trans hle1172 hst1200.rle'), hst1200.g 2⟩ ?_
         refine LA_all [28] (by decide +kernel) (by simp) ?_
         intro i_ hi_
         simp only [List.mem_cons, List.not_mem_nil, or_false] at hi_
         subst hi_
         obtain ⟨a1208, cap1209, e1210, hc1211⟩ := ho1199.value
         subst e1210
         obtain ⟨w1212, hr1214, hst1213⟩ := run_storeW (P := Tryz.prog) (b := p) (off := 0) (v := (.slice a1208 ((ys_32 ++ [Sn.mk (Nd.mk x147.nd.cls (-1) (([] : List Str) ++ x147.nd.names)) [] (.slice none 0 0)]).length) cap1209)) hst1200 2 ti_70 rfl rfl rfl rfl rfl rfl
         change Step _ _ _ _ _ [c1197, one b1189 (.cells #[(int x147.nd.cls), (int (-1)), (.slice a1182 ((([] : List Str) ++ x147.nd.names).length) cap1183), (.slice none 0 0)] 75 (0, 0)), one p (.cells #[(.slice a1208 ((ys_32 ++ [Sn.mk (Nd.mk x147.nd.cls (-1) (([] : List Str) ++ x147.nd.names)) [] (.slice none 0 0)]).length) cap1209), vR] 72 (0, 0)), cX233, cR] at hst1213
         refine One_skip (i := 28) rfl rfl (Want.plain rfl) (x_store rfl rfl rfl hr1214) (fun h => absurd h (by decide +kernel)) ?_
         refine LA_done (by decide +kernel) ?_
         refine W_seq ?_
         refine W_region_lit ?_
         refine Lq (int (xs.length : Int)) rfl rfl rfl rfl ?_
         refine Lq (int (xs.length : Int)) rfl rfl rfl rfl ?_
         refine Lq (int 0) rfl rfl rfl rfl ?_
         refine L_nil ?_
         refine W_ret ?_
         refine ⟨_, _, res_run (rs := [.tmp 4, .tmp 5]) (vs := [(int (xs.length : Int)), (int 0)]) Tryz.results48 (.cons (.tmp rfl) (.cons (.tmp rfl) .nil)) hmk20, ?_⟩
         have he := split_new (s := s) (a := an) (by omega) (by omega)
         rw [← hc0] at he
         rw [he]
         have hndc := nd_of (by omega) hnd149
         have hagr := hag.split hwf (c := c0) hf27 (fun j hj hj' => by have h_ := hf29 j hj hj'; rw [if_pos (by omega)] at h_; rw [h_, hxl])
         rw [hndc] at hagr
         obtain ⟨c', hst', htree'⟩ := RefT.close (s := s.splitC c0) ((((hst1213.front 4 rfl rfl).front 4 rfl rfl).front 2 rfl rfl).front 4 rfl rfl) ho1199 (hm1175.app (y := ⟨⟨x147.nd.cls, -1, ((([] : List Str) ++ x147.nd.names))⟩, [], .slice none 0 0⟩) rfl rfl) (OwnL.castI hm1176 (splitC_roots_no hwf hco (by omega) hcc hnd149 (ne_of_beq_false c160))) hagr (hwf.splitC c0) (hS.app (by omega) (by rw [hndc]; exact hbn) rfl) (by show (List.map _ _).length ≤ _; rw [List.length_map]; exact hrl)
         exact ⟨_, _, _, rfl, hst'.keepN 1 rfl, c', (by rw [hxl]; rfl), rfl, htree'⟩
        ·
         have ho1215 : OwnL Ty.str 9 R (.slice (some ⟨b1089, 0, none⟩) 0 0) ([] : List Str) (one b1089 (.cells #[] 9 (0, 0))) := OwnL.lit (cs := []) Encs.nil rfl (by decide)
         obtain ⟨v1216, c1217, w1218, hr1219, ho1220, hst1221⟩ := run_appendM (P := Tryz.prog) (tt := 42) sl_42 ti_9 rfl ho1215 hst1091 (RdS.mono hvn943 (Le.refl _)) hst1091.rle' (by simp only [List.length_append, List.length_cons, List.length_nil]; omega) (by simp only [List.length_append, List.length_cons, List.length_nil, maxLen]; omega)
         refine One_val (i := 22) (v := v1216) rfl rfl rfl (Want.plain rfl) (x_append rfl rfl rfl hr1219) (fun _ => ⟨hst1221.rle', hst1221.g 1⟩) ?_
         obtain ⟨R1222, hst1223, hle1224, hc1225⟩ := Step.frz hst1221
         have hm1226 := Row.mono hrow139 hle1224
         have hm1227 := LnX.mono hi25 hle1224
         have hm1228 := OwnL.mono hRs hle1224
         have hrd1229 := OwnL.freeze ho1220 hle1224 hc1225
         have hxs1230 : (([] : List Str) ++ x147.nd.names).length = x147.nd.names.length := by simp
         refine LA_all [12] (by decide +kernel) (by simp) ?_
         intro i_ hi_
         simp only [List.mem_cons, List.not_mem_nil, or_false] at hi_
         subst hi_
         refine One_val (i := 12) (v := (int x147.nd.cls)) rfl rfl rfl (Want.plain rfl) (x_load rfl rfl (run_loadVar_one ti_3 ((hst1223.g 1) _ _ hcb884) (seg_get (j := 0) hsg885 rfl))) (fun _ => ⟨(Le.trans hle1224 hst1223.rle'), hst1223.g 0⟩) ?_
         obtain ⟨a1237, cap1238, e1239, hc1240⟩ := hrd1229.shape
         subst e1239
         refine LP (.agg #[(int x147.nd.cls), (int (-1)), (.slice a1237 ((([] : List Str) ++ x147.nd.names).length) cap1238), (.slice none 0 0)]) 23 rfl rfl rfl (fun u1235 => (by kernel_rfl)) ⟨(Le.trans hle1224 hst1223.rle'), hst1223.g 0⟩ ?_
         refine LA_all [24] (by decide +kernel) (by simp) ?_
         intro i_ hi_
         simp only [List.mem_cons, List.not_mem_nil, or_false] at hi_
         subst hi_
         refine One_new hst1223 (i := 24) (v := fun b => .slice (some ⟨b, 0, none⟩) 1 1) (ob := .cells #[(int x147.nd.cls), (int (-1)), (.slice a1237 ((([] : List Str) ++ x147.nd.names).length) cap1238), (.slice none 0 0)] 75 (0, 0)) rfl rfl rfl (Want.plain rfl) (by kernel_rfl) (fun b1244 w1245 hst1246 => ?_)
         refine ⟨(fun _ => ⟨(Le.trans hle1224 hst1246.rle'), hst1246.g 1⟩), ?_⟩
         refine LA_all [25] (by decide +kernel) (by simp) ?_
         intro i_ hi_
         simp only [List.mem_cons, List.not_mem_nil, or_false] at hi_
         subst hi_
         have ho1250 := (hback140 R1222 ys_32 cL (by first | rfl | (simp only [List.length_set]; done) | (simp only [List.length_set]; omega) | omega) hm1226)
         refine One_append (j := 25) hst1246 (t := 70) (e := 75) (ys := [Sn.mk (Nd.mk x147.nd.cls (-1) (([] : List Str) ++ x147.nd.names)) [] (.slice none 0 0)]) (src := [(int x147.nd.cls), (int (-1)), (.slice a1237 ((([] : List Str) ++ x147.nd.names).length) cap1238), (.slice none 0 0)]) 2 rfl rfl rfl (Want.plain rfl) rfl rfl rfl sl_70 ti_75 rfl rfl rfl ho1250 (src_own (hst1246.b 0)) (sn_mk (RdS.mono hrd1229 (Le.refl _))) rfl (by first | omega | (simp only [List.length_append, List.length_cons, List.length_nil]; omega)) (by first | (simp only [maxLen]; omega) | (simp only [List.length_append, List.length_cons, List.length_nil, maxLen]; omega)) (fun v1251 c1252 w1253 ho1254 hst1255 => ?_)
         refine ⟨(fun _ => ⟨(Le.trans hle1224 hst1255.rle'), hst1255.g 2⟩), ?_⟩
         refine LP (ptr p 0) 26 rfl rfl rfl (fun u1257 => rfl) ⟨(Le.trans hle1224 hst1255.rle'), hst1255.g 2⟩ ?_
         refine LP (ptr p 0) 27 rfl rfl rfl (fun u1260 => (by kernel_rfl)) ⟨(Le.trans hle1224 hst1255.rle'), hst1255.g 2⟩ ?_
         refine LA_all [28] (by decide +kernel) (by simp) ?_
         intro i_ hi_
         simp only [List.mem_cons, List.not_mem_nil, or_false] at hi_
         subst hi_
         obtain ⟨a1263, cap1264, e1265, hc1266⟩ := ho1254.value
         subst e1265
         obtain ⟨w1267, hr1269, hst1268⟩ := run_storeW (P := Tryz.prog) (b := p) (off := 0) (v := (.slice a1263 ((ys_32 ++ [Sn.mk (Nd.mk x147.nd.cls (-1) (([] : List Str) ++ x147.nd.names)) [] (.slice none 0 0)]).length) cap1264)) hst1255 2 ti_70 rfl rfl rfl rfl rfl rfl
         change Step _ _ _ _ _ [c1252, one b1244 (.cells #[(int x147.nd.cls), (int (-1)), (.slice a1237 ((([] : List Str) ++ x147.nd.names).length) cap1238), (.slice none 0 0)] 75 (0, 0)), one p (.cells #[(.slice a1263 ((ys_32 ++ [Sn.mk (Nd.mk x147.nd.cls (-1) (([] : List Str) ++ x147.nd.names)) [] (.slice none 0 0)]).length) cap1264), vR] 72 (0, 0)), cX233, cR] at hst1268
         refine One_skip (i := 28) rfl rfl (Want.plain rfl) (x_store rfl rfl rfl hr1269) (fun h => absurd h (by decide +kernel)) ?_
         refine LA_done (by decide +kernel) ?_
         refine W_seq ?_
         refine W_region_lit ?_
         refine Lq (int (xs.length : Int)) rfl rfl rfl rfl ?_
         refine Lq (int (xs.length : Int)) rfl rfl rfl rfl ?_
         refine Lq (int 0) rfl rfl rfl rfl ?_
         refine L_nil ?_
         refine W_ret ?_
         refine ⟨_, _, res_run (rs := [.tmp 4, .tmp 5]) (vs := [(int (xs.length : Int)), (int 0)]) Tryz.results48 (.cons (.tmp rfl) (.cons (.tmp rfl) .nil)) hmk20, ?_⟩
         have he := split_new (s := s) (a := an) (by omega) (by omega)
         rw [← hc0] at he
         rw [he]
         have hndc := nd_of (by omega) hnd149
         have hagr := hag.split hwf (c := c0) hf27 (fun j hj hj' => by have h_ := hf29 j hj hj'; rw [if_pos (by omega)] at h_; rw [h_, hxl])
         rw [hndc] at hagr
         obtain ⟨c', hst', htree'⟩ := RefT.close (s := s.splitC c0) ((((hst1268.front 4 rfl rfl).front 4 rfl rfl).front 2 rfl rfl).front 4 rfl rfl) ho1254 (hm1227.app (y := ⟨⟨x147.nd.cls, -1, ((([] : List Str) ++ x147.nd.names))⟩, [], .slice none 0 0⟩) rfl rfl) (OwnL.castI hm1228 (splitC_roots_no hwf hco (by omega) hcc hnd149 (ne_of_beq_false c160))) hagr (hwf.splitC c0) (hS.app (by omega) (by rw [hndc]; exact hbn) rfl) (by show (List.map _ _).length ≤ _; rw [List.length_map]; exact hrl)
         exact ⟨_, _, _, rfl, hst'.keepN 1 rfl, c', (by rw [hxl]; rfl), rfl, htree'⟩
      ·
       refine One_val (i := 21) (v := vn942) rfl rfl rfl (Want.plain rfl) (x_load rfl rfl (run_loadVar_one ti_42 ((hst847.g 1) _ _ hcb940) (seg_get (j := 2) hsg941 rfl))) (fun _ => ⟨hst847.rle', hst847.g 0⟩) ?_
       refine LA_all [12, 13] (by decide +kernel) (by simp) ?_
       intro i_ hi_
       simp only [List.mem_cons, List.not_mem_nil, or_false] at hi_
       rcases hi_ with rfl | rfl
       ·
        refine One_val (i := 12) (v := (int x147.nd.cls)) rfl rfl rfl (Want.plain rfl) (x_load rfl rfl (run_loadVar_one ti_3 ((hst847.g 1) _ _ hcb884) (seg_get (j := 0) hsg885 rfl))) (fun _ => ⟨hst847.rle', hst847.g 0⟩) ?_
        refine LA_all [13] (by decide +kernel) (by simp) ?_
        intro i_ hi_
        simp only [List.mem_cons, List.not_mem_nil, or_false] at hi_
        subst hi_
        refine One_new hst847 (i := 13) (v := fun b => .slice (some ⟨b, 0, none⟩) 0 0) (ob := .cells #[] 9 (0, 0)) rfl rfl rfl (Want.plain rfl) (by kernel_rfl) (fun b1278 w1279 hst1280 => ?_)
        refine ⟨(fun _ => ⟨hst1280.rle', hst1280.g 1⟩), ?_⟩
        refine LA_all [22] (by decide +kernel) (by simp) ?_
        intro i_ hi_
        simp only [List.mem_cons, List.not_mem_nil, or_false] at hi_
        subst hi_
        have ho1284 : OwnL Ty.str 9 R (.slice (some ⟨b1278, 0, none⟩) 0 0) ([] : List Str) (one b1278 (.cells #[] 9 (0, 0))) := OwnL.lit (cs := []) Encs.nil rfl (by decide)
        obtain ⟨v1285, c1286, w1287, hr1288, ho1289, hst1290⟩ := run_appendM (P := Tryz.prog) (tt := 42) sl_42 ti_9 rfl ho1284 hst1280 (RdS.mono hvn943 (Le.refl _)) hst1280.rle' (by simp only [List.length_append, List.length_cons, List.length_nil]; omega) (by simp only [List.length_append, List.length_cons, List.length_nil, maxLen]; omega)
        refine One_val (i := 22) (v := v1285) rfl rfl rfl (Want.plain rfl) (x_append rfl rfl rfl hr1288) (fun _ => ⟨hst1290.rle', hst1290.g 1⟩) ?_
        obtain ⟨R1291, hst1292, hle1293, hc1294⟩ := Step.frz hst1290
        have hm1295 := Row.mono hrow139 hle1293
        have hm1296 := LnX.mono hi25 hle1293
        have hm1297 := OwnL.mono hRs hle1293
        have hrd1298 := OwnL.freeze ho1289 hle1293 hc1294
        have hxs1299 : (([] : List Str) ++ x147.nd.names).length = x147.nd.names.length := by simp
        obtain ⟨a1303, cap1304, e1305, hc1306⟩ := hrd1298.shape
        subst e1305
        refine LP (.agg #[(int x147.nd.cls), (int (-1)), (.slice a1303 ((([] : List Str) ++ x147.nd.names).length) cap1304), (.slice none 0 0)]) 23 rfl rfl rfl (fun u1301 => (by kernel_rfl)) ⟨(Le.trans hle1293 hst1292.rle'), hst1292.g 0⟩ ?_
        refine LA_all [24] (by decide +kernel) (by simp) ?_
        intro i_ hi_
        simp only [List.mem_cons, List.not_mem_nil, or_false] at hi_
        subst hi_
        refine One_new hst1292 (i := 24) (v := fun b => .slice (some ⟨b, 0, none⟩) 1 1) (ob := .cells #[(int x147.nd.cls), (int (-1)), (.slice a1303 ((([] : List Str) ++ x147.nd.names).length) cap1304), (.slice none 0 0)] 75 (0, 0)) rfl rfl rfl (Want.plain rfl) (by kernel_rfl) (fun b1310 w1311 hst1312 => ?_)
        refine ⟨(fun _ => ⟨(Le.trans hle1293 hst1312.rle'), hst1312.g 1⟩), ?_⟩
        refine LA_all [25] (by decide +kernel) (by simp) ?_
        intro i_ hi_
        simp only [List.mem_cons, List.not_mem_nil, or_false] at hi_
        subst hi_
        have ho1316 := (hback140 R1291 ys_32 cL (by first | rfl | (simp only [List.length_set]; done) | (simp only [List.length_set]; omega) | omega) hm1295)
        refine One_append (j := 25) hst1312 (t := 70) (e := 75) (ys := [Sn.mk (Nd.mk x147.nd.cls (-1) (([] : List Str) ++ x147.nd.names)) [] (.slice none 0 0)]) (src := [(int x147.nd.cls), (int (-1)), (.slice a1303 ((([] : List Str) ++ x147.nd.names).length) cap1304), (.slice none 0 0)]) 2 rfl rfl rfl (Want.plain rfl) rfl rfl rfl sl_70 ti_75 rfl rfl rfl ho1316 (src_own (hst1312.b 0)) (sn_mk (RdS.mono hrd1298 (Le.refl _))) rfl (by first | omega | (simp only [List.length_append, List.length_cons, List.length_nil]; omega)) (by first | (simp only [maxLen]; omega) | (simp only [List.length_append, List.length_cons, List.length_nil, maxLen]; omega)) (fun v1317 c1318 w1319 ho1320 hst1321 => ?_)
        refine ⟨(fun _ => ⟨(Le.trans hle1293 hst1321.rle'), hst1321.g 2⟩), ?_⟩
        refine LP (ptr p 0) 26 rfl rfl rfl (fun u1323 => rfl) ⟨(Le.trans hle1293 hst1321.rle'), hst1321.g 2⟩ ?_
        refine LP (ptr p 0) 27 rfl rfl rfl (fun u1326 => (by kernel_rfl)) ⟨(Le.trans hle1293 hst1321.rle'), hst1321.g 2⟩ ?_
        refine LA_all [28] (by decide +kernel) (by simp) ?_
        intro i_ hi_
        simp only [List.mem_cons, List.not_mem_nil, or_false] at hi_
        subst hi_
        obtain ⟨a1329, cap1330, e1331, hc1332⟩ := ho1320.value
        subst e1331
        obtain ⟨w1333, hr1335, hst1334⟩ := run_storeW (P := Tryz.prog) (b := p) (off := 0) (v := (.slice a1329 ((ys_32 ++ [Sn.mk (Nd.mk x147.nd.cls (-1) (([] : List Str) ++ x147.nd.names)) [] (.slice none 0 0)]).length) cap1330)) hst1321 2 ti_70 rfl rfl rfl rfl rfl rfl
        change Step _ _ _ _ _ [c1318, one b1310 (.cells #[(int x147.nd.cls), (int (-1)), (.slice a1303 ((([] : List Str) ++ x147.nd.names).length) cap1304), (.slice none 0 0)] 75 (0, 0)), one p (.cells #[(.slice a1329 ((ys_32 ++ [Sn.mk (Nd.mk x147.nd.cls (-1) (([] : List Str) ++ x147.nd.names)) [] (.slice none 0 0)]).length) cap1330), vR] 72 (0, 0)), cX233, cR] at hst1334
        refine One_skip (i := 28) rfl rfl (Want.plain rfl) (x_store rfl rfl rfl hr1335) (fun h => absurd h (by decide +kernel)) ?_
        refine LA_done (by decide +kernel) ?_
        refine W_seq ?_
        refine W_region_lit ?_
        refine Lq (int (xs.length : Int)) rfl rfl rfl rfl ?_
        refine Lq (int (xs.length : Int)) rfl rfl rfl rfl ?_
        refine Lq (int 0) rfl rfl rfl rfl ?_
        refine L_nil ?_
        refine W_ret ?_
        refine ⟨_, _, res_run (rs := [.tmp 4, .tmp 5]) (vs := [(int (xs.length : Int)), (int 0)]) Tryz.results48 (.cons (.tmp rfl) (.cons (.tmp rfl) .nil)) hmk20, ?_⟩
        have he := split_new (s := s) (a := an) (by omega) (by omega)
        rw [← hc0] at he
        rw [he]
        have hndc := nd_of (by omega) hnd149
        have hagr := hag.split hwf (c := c0) hf27 (fun j hj hj' => by have h_ := hf29 j hj hj'; rw [if_pos (by omega)] at h_; rw [h_, hxl])
        rw [hndc] at hagr
        obtain ⟨c', hst', htree'⟩ := RefT.close (s := s.splitC c0) ((((hst1334.front 4 rfl rfl).front 4 rfl rfl).front 2 rfl rfl).front 4 rfl rfl) ho1320 (hm1296.app (y := ⟨⟨x147.nd.cls, -1, ((([] : List Str) ++ x147.nd.names))⟩, [], .slice none 0 0⟩) rfl rfl) (OwnL.castI hm1297 (splitC_roots_no hwf hco (by omega) hcc hnd149 (ne_of_beq_false c160))) hagr (hwf.splitC c0) (hS.app (by omega) (by rw [hndc]; exact hbn) rfl) (by show (List.map _ _).length ≤ _; rw [List.length_map]; exact hrl)
        exact ⟨_, _, _, rfl, hst'.keepN 1 rfl, c', (by rw [hxl]; rfl), rfl, htree'⟩
       ·
        refine One_new hst847 (i := 13) (v := fun b => .slice (some ⟨b, 0, none⟩) 0 0) (ob := .cells #[] 9 (0, 0)) rfl rfl rfl (Want.plain rfl) (by kernel_rfl) (fun b1336 w1337 hst1338 => ?_)
        refine ⟨(fun _ => ⟨hst1338.rle', hst1338.g 1⟩), ?_⟩
        refine LA_all [12, 22] (by decide +kernel) (by simp) ?_
        intro i_ hi_
        simp only [List.mem_cons, List.not_mem_nil, or_false] at hi_
        rcases hi_ with rfl | rfl
        ·
         refine One_val (i := 12) (v := (int x147.nd.cls)) rfl rfl rfl (Want.plain rfl) (x_load rfl rfl (run_loadVar_one ti_3 ((hst1338.g 2) _ _ hcb884) (seg_get (j := 0) hsg885 rfl))) (fun _ => ⟨hst1338.rle', hst1338.g 1⟩) ?_
         refine LA_all [22] (by decide +kernel) (by simp) ?_
         intro i_ hi_
         simp only [List.mem_cons, List.not_mem_nil, or_false] at hi_
         subst hi_
         have ho1347 : OwnL Ty.str 9 R (.slice (some ⟨b1336, 0, none⟩) 0 0) ([] : List Str) (one b1336 (.cells #[] 9 (0, 0))) := OwnL.lit (cs := []) Encs.nil rfl (by decide)
         obtain ⟨v1348, c1349, w1350, hr1351, ho1352, hst1353⟩ := run_appendM (P := Tryz.prog) (tt := 42) sl_42 ti_9 rfl ho1347 hst1338 (RdS.mono hvn943 (Le.refl _)) hst1338.rle' (by simp only [List.length_append, List.length_cons, List.length_nil]; omega) (by simp only [List.length_append, List.length_cons, List.length_nil, maxLen]; omega)
         refine One_val (i := 22) (v := v1348) rfl rfl rfl (Want.plain rfl) (x_append rfl rfl rfl hr1351) (fun _ => ⟨hst1353.rle', hst1353.g 1⟩) ?_
         obtain ⟨R1354, hst1355, hle1356, hc1357⟩ := Step.frz hst1353
         have hm1358 := Row.mono hrow139 hle1356
         have hm1359 := LnX.mono hi25 hle1356
         have hm1360 := OwnL.mono hRs hle1356
         have hrd1361 := OwnL.freeze ho1352 hle1356 hc1357
         have hxs1362 : (([] : List Str) ++ x147.nd.names).length = x147.nd.names.length := by simp
         obtain ⟨a1366, cap1367, e1368, hc1369⟩ := hrd1361.shape
         subst e1368
         refine LP (.agg #[(int x147.nd.cls), (int (-1)), (.slice a1366 ((([] : List Str) ++ x147.nd.names).length) cap1367), (.slice none 0 0)]) 23 rfl rfl rfl (fun u1364 => (by kernel_rfl)) ⟨(Le.trans hle1356 hst1355.rle'), hst1355.g 0⟩ ?_
         refine LA_all [24] (by decide +kernel) (by simp) ?_
         intro i_ hi_
         simp only [List.mem_cons, List.not_mem_nil, or_false] at hi_
         subst hi_
         refine One_new hst1355 (i := 24) (v := fun b => .slice (some ⟨b, 0, none⟩) 1 1) (ob := .cells #[(int x147.nd.cls), (int (-1)), (.slice a1366 ((([] : List Str) ++ x147.nd.names).length) cap1367), (.slice none 0 0)] 75 (0, 0)) rfl rfl rfl (Want.plain rfl) (by kernel_rfl) (fun b1373 w1374 hst1375 => ?_)
         refine ⟨(fun _ => ⟨(Le.trans hle1356 hst1375.rle'), hst1375.g 1⟩), ?_⟩
         refine LA_all [25] (by decide +kernel) (by simp) ?_
         intro i_ hi_
         simp only [List.mem_cons, List.not_mem_nil, or_false] at hi_
         subst hi_
         have ho1379 := (hback140 R1354 ys_32 cL (by first | rfl | (simp only [List.length_set]; done) | (simp only [List.length_set]; omega) | omega) hm1358)
         refine One_append (j := 25) hst1375 (t := 70) (e := 75) (ys := [Sn.mk (Nd.mk x147.nd.cls (-1) (([] : List Str) ++ x147.nd.names)) [] (.slice none 0 0)]) (src := [(int x147.nd.cls), (int (-1)), (.slice a1366 ((([] : List Str) ++ x147.nd.names).length) cap1367), (.slice none 0 0)]) 2 rfl rfl rfl (Want.plain rfl) rfl rfl rfl sl_70 ti_75 rfl rfl rfl ho1379 (src_own (hst1375.b 0)) (sn_mk (RdS.mono hrd1361 (Le.refl _))) rfl (by first | omega | (simp only [List.length_append, List.length_cons, List.length_nil]; omega)) (by first | (simp only [maxLen]; omega) | (simp only [List.length_append, List.length_cons, List.length_nil, maxLen]; omega)) (fun v1380 c1381 w1382 ho1383 hst1384 => ?_)
         refine ⟨(fun _ => ⟨(Le.trans hle1356 hst1384.rle'), hst1384.g 2⟩), ?_⟩
         refine LP (ptr p 0) 26 rfl rfl rfl (fun u1386 => rfl) ⟨(Le.trans hle1356 hst1384.rle'), hst1384.g 2⟩ ?_
         refine LP (ptr p 0) 27 rfl rfl rfl (fun u1389 => (by kernel_rfl)) ⟨(Le.trans hle1356 hst1384.rle'), hst1384.g 2⟩ ?_
         refine LA_all [28] (by decide +kernel) (by simp) ?_
         intro i_ hi_
         simp only [List.mem_cons, List.not_mem_nil, or_false] at hi_
         subst hi_
         obtain ⟨a1392, cap1393, e1394, hc1395⟩ := ho1383.value
         subst e1394
         obtain ⟨w1396, hr1398, hst1397⟩ := run_storeW (P := Tryz.prog) (b := p) (off := 0) (v := (.slice a1392 ((ys_32 ++ [Sn.mk (Nd.mk x147.nd.cls (-1) (([] : List Str) ++ x147.nd.names)) [] (.slice none 0 0)]).length) cap1393)) hst1384 2 ti_70 rfl rfl rfl rfl rfl rfl
         change Step _ _ _ _ _ [c1381, one b1373 (.cells #[(int x147.nd.cls), (int (-1)), (.slice a1366 ((([] : List Str) ++ x147.nd.names).length) cap1367), (.slice none 0 0)] 75 (0, 0)), one p (.cells #[(.slice a1392 ((ys_32 ++ [Sn.mk (Nd.mk x147.nd.cls (-1) (([] : List Str) ++ x147.nd.names)) [] (.slice none 0 0)]).length) cap1393), vR] 72 (0, 0)), cX233, cR] at hst1397
         refine One_skip (i := 28) rfl rfl (Want.plain rfl) (x_store rfl rfl rfl hr1398) (fun h => absurd h (by decide +kernel)) ?_
         refine LA_done (by decide +kernel) ?_
         refine W_seq ?_
         refine W_region_lit ?_
         refine Lq (int (xs.length : Int)) rfl rfl rfl rfl ?_
         refine Lq (int (xs.length : Int)) rfl rfl rfl rfl ?_
         refine Lq (int 0) rfl rfl rfl rfl ?_
         refine L_nil ?_
         refine W_ret ?_
         refine ⟨_, _, res_run (rs := [.tmp 4, .tmp 5]) (vs := [(int (xs.length : Int)), (int 0)]) Tryz.results48 (.cons (.tmp rfl) (.cons (.tmp rfl) .nil)) hmk20, ?_⟩
         have he := split_new (s := s) (a := an) (by omega) (by omega)
         rw [← hc0] at he
         rw [he]
         have hndc := nd_of (by omega) hnd149
         have hagr := hag.split hwf (c := c0) hf27 (fun j hj hj' => by have h_ := hf29 j hj hj'; rw [if_pos (by omega)] at h_; rw [h_, hxl])
         rw [hndc] at hagr
         obtain ⟨c', hst', htree'⟩ := RefT.close (s := s.splitC c0) ((((hst1397.front 4 rfl rfl).front 4 rfl rfl).front 2 rfl rfl).front 4 rfl rfl) ho1383 (hm1359.app (y := ⟨⟨x147.nd.cls, -1, ((([] : List Str) ++ x147.nd.names))⟩, [], .slice none 0 0⟩) rfl rfl) (OwnL.castI hm1360 (splitC_roots_no hwf hco (by omega) hcc hnd149 (ne_of_beq_false c160))) hagr (hwf.splitC c0) (hS.app (by omega) (by rw [hndc]; exact hbn) rfl) (by show (List.map _ _).length ≤ _; rw [List.length_map]; exact hrl)
         exact ⟨_, _, _, rfl, hst'.keepN 1 rfl, c', (by rw [hxl]; rfl), rfl, htree'⟩
        ·
         have ho1399 : OwnL Ty.str 9 R (.slice (some ⟨b1336, 0, none⟩) 0 0) ([] : List Str) (one b1336 (.cells #[] 9 (0, 0))) := OwnL.lit (cs := []) Encs.nil rfl (by decide)
         obtain ⟨v1400, c1401, w1402, hr1403, ho1404, hst1405⟩ := run_appendM (P := Tryz.prog) (tt := 42) sl_42 ti_9 rfl ho1399 hst1338 (RdS.mono hvn943 (Le.refl _)) hst1338.rle' (by simp only [List.length_append, List.length_cons, List.length_nil]; omega) (by simp only [List.length_append, List.length_cons, List.length_nil, maxLen]; omega)
         refine One_val (i := 22) (v := v1400) rfl rfl rfl (Want.plain rfl) (x_append rfl rfl rfl hr1403) (fun _ => ⟨hst1405.rle', hst1405.g 1⟩) ?_
         obtain ⟨R1406, hst1407, hle1408, hc1409⟩ := Step.frz hst1405
         have hm1410 := Row.mono hrow139 hle1408
         have hm1411 := LnX.mono hi25 hle1408
         have hm1412 := OwnL.mono hRs hle1408
         have hrd1413 := OwnL.freeze ho1404 hle1408 hc1409
         have hxs1414 : (([] : List Str) ++ x147.nd.names).length = x147.nd.names.length := by simp
         refine LA_all [12] (by decide +kernel) (by simp) ?_
         intro i_ hi_
         simp only [List.mem_cons, List.not_mem_nil, or_false] at hi_
         subst hi_
         refine One_val (i := 12) (v := (int x147.nd.cls)) rfl rfl rfl (Want.plain rfl) (x_load rfl rfl (run_loadVar_one ti_3 ((hst1407.g 1) _ _ hcb884) (seg_get (j := 0) hsg885 rfl))) (fun _ => ⟨(Le.trans hle1408 hst1407.rle'), hst1407.g 0⟩) ?_
         obtain ⟨a1421, cap1422, e1423, hc1424⟩ := hrd1413.shape
         subst e1423
         refine LP (.agg #[(int x147.nd.cls), (int (-1)), (.slice a1421 ((([] : List Str) ++ x147.nd.names).length) cap1422), (.slice none 0 0)]) 23 rfl rfl rfl (fun u1419 => (by kernel_rfl)) ⟨(Le.trans hle1408 hst1407.rle'), hst1407.g 0⟩ ?_
         refine LA_all [24] (by decide +kernel) (by simp) ?_
         intro i_ hi_
         simp only [List.mem_cons, List.not_mem_nil, or_false] at hi_
         subst hi_
         refine One_new hst1407 (i := 24) (v := fun b => .slice (some ⟨b, 0, none⟩) 1 1) (ob := .cells #[(int x147.nd.cls), (int (-1)), (.slice a1421 ((([] : List Str) ++ x147.nd.names).length) cap1422), (.slice none 0 0)] 75 (0, 0)) rfl rfl rfl (Want.plain rfl) (by kernel_rfl) (fun b1428 w1429 hst1430 => ?_)
         refine ⟨(fun _ => ⟨(Le.trans hle1408 hst1430.rle'), hst1430.g 1⟩), ?_⟩
         refine LA_all [25] (by decide +kernel) (by simp) ?_
         intro i_ hi_
         simp only [List.mem_cons, List.not_mem_nil, or_false] at hi_
         subst hi_
         have ho1434 := (hback140 R1406 ys_32 cL (by first | rfl | (simp only [List.length_set]; done) | (simp only [List.length_set]; omega) | omega) hm1410)
         refine One_append (j := 25) hst1430 (t := 70) (e := 75) (ys := [Sn.mk (Nd.mk x147.nd.cls (-1) (([] : List Str) ++ x147.nd.names)) [] (.slice none 0 0)]) (src := [(int x147.nd.cls), (int (-1)), (.slice a1421 ((([] : List Str) ++ x147.nd.names).length) cap1422), (.slice none 0 0)]) 2 rfl rfl rfl (Want.plain rfl) rfl rfl rfl sl_70 ti_75 rfl rfl rfl ho1434 (src_own (hst1430.b 0)) (sn_mk (RdS.mono hrd1413 (Le.refl _))) rfl (by first | omega | (simp only [List.length_append, List.length_cons, List.length_nil]; omega)) (by first | (simp only [maxLen]; omega) | (simp only [List.length_append, List.length_cons, List.length_nil, maxLen]; omega)) (fun v1435 c1436 w1437 ho1438 hst1439 => ?_)
         refine ⟨(fun _ => ⟨(Le.trans hle1408 hst1439.rle'), hst1439.g 2⟩), ?_⟩
         refine LP (ptr p 0) 26 rfl rfl rfl (fun u1441 => rfl) ⟨(Le.trans hle1408 hst1439.rle'), hst1439.g 2⟩ ?_
         refine LP (ptr p 0) 27 rfl rfl rfl (fun u1444 => (by kernel_rfl)) ⟨(Le.trans hle1408 hst1439.rle'), hst1439.g 2⟩ ?_
         refine LA_all [28] (by decide +kernel) (by simp) ?_
         intro i_ hi_
         simp only [List.mem_cons, List.not_mem_nil, or_false] at hi_
         subst hi_
         obtain ⟨a1447, cap1448, e1449, hc1450⟩ := ho1438.value
         subst e1449
         obtain ⟨w1451, hr1453, hst1452⟩ := run_storeW (P := Tryz.prog) (b := p) (off := 0) (v := (.slice a1447 ((ys_32 ++ [Sn.mk (Nd.mk x147.nd.cls (-1) (([] : List Str) ++ x147.nd.names)) [] (.slice none 0 0)]).length) cap1448)) hst1439 2 ti_70 rfl rfl rfl rfl rfl rfl
         change Step _ _ _ _ _ [c1436, one b1428 (.cells #[(int x147.nd.cls), (int (-1)), (.slice a1421 ((([] : List Str) ++ x147.nd.names).length) cap1422), (.slice none 0 0)] 75 (0, 0)), one p (.cells #[(.slice a1447 ((ys_32 ++ [Sn.mk (Nd.mk x147.nd.cls (-1) (([] : List Str) ++ x147.nd.names)) [] (.slice none 0 0)]).length) cap1448), vR] 72 (0, 0)), cX233, cR] at hst1452
         refine One_skip (i := 28) rfl rfl (Want.plain rfl) (x_store rfl rfl rfl hr1453) (fun h => absurd h (by decide +kernel)) ?_
         refine LA_done (by decide +kernel) ?_
         refine W_seq ?_
         refine W_region_lit ?_
         refine Lq (int (xs.length : Int)) rfl rfl rfl rfl ?_
         refine Lq (int (xs.length : Int)) rfl rfl rfl rfl ?_
         refine Lq (int 0) rfl rfl rfl rfl ?_
         refine L_nil ?_
         refine W_ret ?_
         refine ⟨_, _, res_run (rs := [.tmp 4, .tmp 5]) (vs := [(int (xs.length : Int)), (int 0)]) Tryz.results48 (.cons (.tmp rfl) (.cons (.tmp rfl) .nil)) hmk20, ?_⟩
         have he := split_new (s := s) (a := an) (by omega) (by omega)
         rw [← hc0] at he
         rw [he]
         have hndc := nd_of (by omega) hnd149
         have hagr := hag.split hwf (c := c0) hf27 (fun j hj hj' => by have h_ := hf29 j hj hj'; rw [if_pos (by omega)] at h_; rw [h_, hxl])
         rw [hndc] at hagr
         obtain ⟨c', hst', htree'⟩ := RefT.close (s := s.splitC c0) ((((hst1452.front 4 rfl rfl).front 4 rfl rfl).front 2 rfl rfl).front 4 rfl rfl) ho1438 (hm1411.app (y := ⟨⟨x147.nd.cls, -1, ((([] : List Str) ++ x147.nd.names))⟩, [], .slice none 0 0⟩) rfl rfl) (OwnL.castI hm1412 (splitC_roots_no hwf hco (by omega) hcc hnd149 (ne_of_beq_false c160))) hagr (hwf.splitC c0) (hS.app (by omega) (by rw [hndc]; exact hbn) rfl) (by show (List.map _ _).length ≤ _; rw [List.length_map]; exact hrl)
         exact ⟨_, _, _, rfl, hst'.keepN 1 rfl, c', (by rw [hxl]; rfl), rfl, htree'⟩
 ·
  have q1454 := thereL_not.1 c5
  refine W_cond_true (by show Value.bool _ = _; exact congrArg Value.bool (by rw [c5]; rfl)) ?_
  refine W_seq ?_
  refine W_region_lit ?_
  refine Lq (int 0) rfl rfl rfl rfl ?_
  refine Lq (int 1) rfl rfl rfl rfl ?_
  refine L_nil ?_
  refine W_ret ?_
  refine ⟨_, _, res_run (rs := [.tmp 4, .tmp 5]) (vs := [(int 0), (int 1)]) Tryz.results48 (.cons (.tmp rfl) (.cons (.tmp rfl) .nil)) rfl, ?_⟩
  have he := split_out (s := s) (a := a) c5
  rw [he]
  obtain ⟨c', hst', htree'⟩ := RefT.close (s := s) ((((hst4.front 3 rfl rfl).front 3 rfl rfl).front 3 rfl rfl).front 3 rfl rfl) hL hX hRs hag hwf hS hrl
  exact ⟨_, _, _, rfl, hst'.keepN 1 rfl, c', rfl, rfl, htree'⟩
end Go.Fx.YtjpdhfhiimbpgaaGreatDoor
set_option linter.unusedSimpArgs false
set_option linter.unusedVariables false
set_option linter.unusedSectionVars false
namespace Go.Fx.YtjpdhfhiimbpgaaGreatDoor
open Go Go.Fx Go.Proofs
set_option maxRecDepth 20000
def zT : TS := ⟨[], [], []⟩
theorem zwf : WF zT where
  ok := AL.Ok.nil
  can := fun k hk => by cases hk
  ali := fun k hk => by cases hk
  root := fun r hr => by cases hr
  next := fun e he => by cases he
  key := fun e he => by cases he
theorem zsmall : Small zT.nodes where
  len := Nat.zero_le _
  names := fun k hk => by cases hk
  ali := fun k hk => by cases hk
  can := fun k hk => by cases hk
theorem Tree.zero {w0 w : World} {R0 R : Hp} {L0 Lr : List Hp} {p : Nat} (h : Step w0 R0 L0 w R (treeB p (.slice none 0 0) (.slice none 0 0) none :: Lr)) : ∃ c, Step w0 R0 L0 w R (c :: Lr) ∧ Tree R p zT c :=
  Tree.close (s := zT) (h.nothing.nothing.nothing.front 3 rfl rfl) (OwnL.empty _ _ _) (OwnL.empty _ _ _) (.inl ⟨rfl, rfl, rfl⟩) zwf zsmall (Nat.zero_le _) (fun _ => rfl)
def txt (s : TS) : Str := ⟨(textT s).toArray⟩
end Go.Fx.YtjpdhfhiimbpgaaGreatDoor
set_option linter.unusedSimpArgs false
set_option linter.unusedVariables false
set_option linter.unusedSectionVars false
namespace Go.Fx.YtjpdhfhiimbpgaaGreatDoor
open Go Go.Fx Go.Proofs
set_option maxRecDepth 20000
theorem RefT.wf {R c : Hp} {p : Nat} {s : TS} (h : RefT R p s c) : WF s := by
  obtain ⟨xs, vL, vR, cL, cX, cR, h1, h2, h3, h4, h5, h6, h7, h8, h9, h10, h11⟩ := h
  exact h9
/-- The list of shapes is as long as there are shapes. -/
theorem RefT.head {R R' c : Hp} {p : Nat} {s : TS} (h : RefT R p s c) (k : Le c R') : ∃ a cap vR, Le (refB p (.slice a s.nodes.length cap) vR) R' := by
  obtain ⟨xs, vL, vR, cL, cX, cR, rfl, h2, h3, h4, h5, h6, h7, h8, h9, h10, h11⟩ := h
  obtain ⟨a, cap, e, _⟩ := h5.value
  rw [h8.len] at e
  subst e
  exact ⟨a, cap, vR, (uni_l _ _).trans k⟩
theorem Bd.next9 {s : TS} {b : Nat} (h : Bd s b) (hb : b ≤ 60) : s.next.length ≤ 900000 := by have := h.nlen; omega
end Go.Fx.YtjpdhfhiimbpgaaGreatDoor
set_option linter.unusedSimpArgs false
set_option linter.unusedVariables false
namespace Go.Fx.YtjpdhfhiimbpgaaGreatDoor
open Go Go.Fx Go.Proofs
set_option maxRecDepth 20000
theorem ent_47 : Ent Tryz.prog 47 := fun _ _ => by kernel_rfl
theorem ent_48 : Ent Tryz.prog 48 := fun _ _ => by kernel_rfl
theorem ent_49 : Ent Tryz.prog 49 := fun _ _ => by kernel_rfl
theorem ent_50 : Ent Tryz.prog 50 := fun _ _ => by kernel_rfl
set_option maxHeartbeats 1000000 in
theorem DoR_spec {w : World} {R c : Hp} {p : Nat} {s : TS} {n : Int} (a : Ac) (hs : Sats w R [c]) (htree : RefT R p s c) (hmx : s.nodes.length ≤ 900000) (hnx : s.next.length ≤ 900000) (hco : Core n s) :
    Calls Tryz.prog 18 #[ptr p 0, .agg #[int a.what, int a.x, int a.y, int a.nm]] w (Comes' w R [c] fun v' R' L' => ∃ c', v' = .tuple #[int (s.act a s.nodes.length).1, int (s.act a s.nodes.length).2.1] ∧ L' = [c'] ∧ RefT R' p (s.act a s.nodes.length).2.2 c') := by
 have hst := Step.refl hs
 refine calls_of_W (n := 79) Tryz.func18 rfl Tryz.ntmps18 (Nat.le_of_ble_eq_true rfl) ?_
 refine W_seq ?_
 refine W_region_lit ?_
 refine L_new hst (v := fun b => ptr b 0) (ob := .cells #[(int a.what), (int a.x), (int a.y), (int a.nm)] 35 (0, 0)) rfl rfl rfl (by kernel_rfl) (fun b1 w2 hst3 => ?_)
 refine Lq (int 0) rfl rfl rfl rfl ?_
 refine Lq (int 0) rfl rfl rfl rfl ?_
 refine L_nil ?_
 refine W_seq ?_
 refine W_region_lit ?_
 refine Lq (ptr p 0) rfl rfl rfl rfl ?_
 refine Lq (ptr p 0) rfl rfl rfl rfl ?_
 refine Lq (ptr p 0) rfl rfl rfl (by kernel_rfl) ?_
 obtain ⟨a4, cap5, vR6, hhd7⟩ := RefT.head htree (hst3.g 1)
 refine Lq (.slice a4 s.nodes.length cap5) rfl rfl rfl (x_load rfl rfl (run_loadVar_one ti_70 (hhd7 _ _ (one_self _ _)) rfl)) ?_
 refine Lq (int (s.nodes.length : Int)) rfl rfl rfl (x_len_slice rfl sl_70 rfl) ?_
 refine Lq (int ((s.nodes.length + 1 : Nat) : Int)) rfl rfl rfl (x_add_nat rfl rfl rfl (by omega)) ?_
 refine Lq (int ((s.nodes.length + 1 : Nat) : Int)) rfl rfl rfl rfl ?_
 refine L_nil ?_
 refine W_seq ?_
 refine W_region_draw [] (fun w => Le R (hp w) ∧ Le (one b1 (.cells #[(int a.what), (int a.x), (int a.y), (int a.nm)] 35 (0, 0))) (hp w) ∧ Le c (hp w)) hmix (by decide +kernel) (fun _ _ h => h) ?_
 have hst9 := hst3.draws (w2.drawn + 1)
 generalize draws w2 (w2.drawn + 1) = w8 at hst9 ⊢
 refine LP (ptr b1 1) 0 rfl rfl rfl (fun u11 => (by kernel_rfl)) hst9.a2 ?_
 refine LT (int a.x) 1 rfl rfl rfl (fun u14 hF15 => (x_load rfl rfl (run_loadVar_one ti_3 (hF15.2.1 _ _ (one_self _ _)) rfl))) hst9.a2 ?_
 refine LP (int ((s.nodes.length + 1 : Nat) : Int)) 2 rfl rfl rfl (fun u17 => rfl) hst9.a2 ?_
 have hb22 := tmod_bd a.x (m := ((s.nodes.length + 1 : Nat) : Int)) (by omega)
 refine LP (int (Int.tmod a.x ((s.nodes.length + 1 : Nat) : Int))) 3 rfl rfl rfl (fun u20 => (x_rem rfl rfl rfl (by omega))) hst9.a2 ?_
 refine LP (int ((s.nodes.length + 1 : Nat) : Int)) 4 rfl rfl rfl (fun u24 => rfl) hst9.a2 ?_
 refine LP (int (Int.tmod a.x ((s.nodes.length + 1 : Nat) : Int) + ((s.nodes.length + 1 : Nat) : Int))) 5 rfl rfl rfl (fun u27 => (x_add rfl rfl rfl (by constructor <;> omega))) hst9.a2 ?_
 refine LP (int ((s.nodes.length + 1 : Nat) : Int)) 6 rfl rfl rfl (fun u30 => rfl) hst9.a2 ?_
 have hb35 := kN_lt a.x (m := ((s.nodes.length + 1 : Nat) : Int)) (by omega)
 refine LP (int (((kN ((s.nodes.length + 1 : Nat) : Int) a.x) : Nat) : Int)) 7 rfl rfl rfl (fun u33 => (x_kN rfl rfl rfl (by omega))) hst9.a2 ?_
 refine LP (int ((((kN ((s.nodes.length + 1 : Nat) : Int) a.x) : Nat) : Int) - 1)) 8 rfl rfl rfl (fun u37 => (x_sub rfl rfl rfl (by constructor <;> omega))) hst9.a2 ?_
 refine LP (ptr b1 2) 9 rfl rfl rfl (fun u40 => (by kernel_rfl)) hst9.a2 ?_
 refine LT (int a.y) 10 rfl rfl rfl (fun u43 hF44 => (x_load rfl rfl (run_loadVar_one ti_3 (hF44.2.1 _ _ (one_self _ _)) rfl))) hst9.a2 ?_
 have hb48 := and1_bd a.y
 refine LP (int (and1 a.y)) 11 rfl rfl rfl (fun u46 => (x_and1 rfl rfl rfl)) hst9.a2 ?_
 refine LP (int ((((kN ((s.nodes.length + 1 : Nat) : Int) a.x) : Nat) : Int) - 1 + and1 a.y)) 12 rfl rfl rfl (fun u50 => (x_add rfl rfl rfl (by constructor <;> omega))) hst9.a2 ?_
 refine LP (int ((((kN ((s.nodes.length + 1 : Nat) : Int) a.x) : Nat) : Int) - 1 + and1 a.y)) 13 rfl rfl rfl (fun u53 => rfl) hst9.a2 ?_
 refine LA_done (by decide +kernel) ?_
 refine W_seq ?_
 refine W_region_draw [] (fun w => Le R (hp w) ∧ Le (one b1 (.cells #[(int a.what), (int a.x), (int a.y), (int a.nm)] 35 (0, 0))) (hp w) ∧ Le c (hp w)) hmix (by decide +kernel) (fun _ _ h => h) ?_
 have hst56 := hst9.draws (w8.drawn + 1)
 generalize draws w8 (w8.drawn + 1) = w55 at hst56 ⊢
 refine LP (ptr b1 2) 0 rfl rfl rfl (fun u58 => (by kernel_rfl)) hst56.a2 ?_
 refine LT (int a.y) 1 rfl rfl rfl (fun u61 hF62 => (x_load rfl rfl (run_loadVar_one ti_3 (hF62.2.1 _ _ (one_self _ _)) rfl))) hst56.a2 ?_
 refine LP (int ((s.nodes.length + 1 : Nat) : Int)) 2 rfl rfl rfl (fun u64 => rfl) hst56.a2 ?_
 have hb69 := tmod_bd a.y (m := ((s.nodes.length + 1 : Nat) : Int)) (by omega)
 refine LP (int (Int.tmod a.y ((s.nodes.length + 1 : Nat) : Int))) 3 rfl rfl rfl (fun u67 => (x_rem rfl rfl rfl (by omega))) hst56.a2 ?_
 refine LP (int ((s.nodes.length + 1 : Nat) : Int)) 4 rfl rfl rfl (fun u71 => rfl) hst56.a2 ?_
 refine LP (int (Int.tmod a.y ((s.nodes.length + 1 : Nat) : Int) + ((s.nodes.length + 1 : Nat) : Int))) 5 rfl rfl rfl (fun u74 => (x_add rfl rfl rfl (by constructor <;> omega))) hst56.a2 ?_
 refine LP (int ((s.nodes.length + 1 : Nat) : Int)) 6 rfl rfl rfl (fun u77 => rfl) hst56.a2 ?_
 have hb82 := kN_lt a.y (m := ((s.nodes.length + 1 : Nat) : Int)) (by omega)
 refine LP (int (((kN ((s.nodes.length + 1 : Nat) : Int) a.y) : Nat) : Int)) 7 rfl rfl rfl (fun u80 => (x_kN rfl rfl rfl (by omega))) hst56.a2 ?_
 refine LP (int ((((kN ((s.nodes.length + 1 : Nat) : Int) a.y) : Nat) : Int) - 1)) 8 rfl rfl rfl (fun u84 => (x_sub rfl rfl rfl (by constructor <;> omega))) hst56.a2 ?_
 refine LP (ptr b1 1) 9 rfl rfl rfl (fun u87 => (by kernel_rfl)) hst56.a2 ?_
 refine LT (int a.x) 10 rfl rfl rfl (fun u90 hF91 => (x_load rfl rfl (run_loadVar_one ti_3 (hF91.2.1 _ _ (one_self _ _)) rfl))) hst56.a2 ?_
 have hb95 := and1_bd a.x
 refine LP (int (and1 a.x)) 11 rfl rfl rfl (fun u93 => (x_and1 rfl rfl rfl)) hst56.a2 ?_
 refine LP (int ((((kN ((s.nodes.length + 1 : Nat) : Int) a.y) : Nat) : Int) - 1 + and1 a.x)) 12 rfl rfl rfl (fun u97 => (x_add rfl rfl rfl (by constructor <;> omega))) hst56.a2 ?_
 refine LP (int ((((kN ((s.nodes.length + 1 : Nat) : Int) a.y) : Nat) : Int) - 1 + and1 a.x)) 13 rfl rfl rfl (fun u100 => rfl) hst56.a2 ?_
 refine LA_done (by decide +kernel) ?_
 refine W_seq ?_
 refine W_seq ?_
 refine W_region_lit ?_
 refine Lq (ptr b1 0) rfl rfl rfl (by kernel_rfl) ?_
 refine Lq (int a.what) rfl rfl rfl (x_load rfl rfl (run_loadVar_one ti_3 (hst56.b 0) rfl)) ?_
 have hb102 := tmod_bd a.what (m := 7) (by omega)
 refine Lq (int (Int.tmod a.what 7)) rfl rfl rfl (x_rem rfl rfl rfl (by omega)) ?_
 refine Lq (int (Int.tmod a.what 7 + 7)) rfl rfl rfl (x_add rfl rfl rfl (by constructor <;> omega)) ?_
 have hb103 := kN_lt a.what (m := 7) (by omega)
 refine Lq (int (((kN 7 a.what) : Nat) : Int)) rfl rfl rfl (x_kN rfl rfl rfl (by omega)) ?_
 refine L_nil ?_
 refine W_block ?_
 refine W_seq ?_
 refine W_region_lit ?_
 refine Lq (.bool ((((kN 7 a.what) : Nat) : Int) == 4)) rfl rfl rfl (by kernel_rfl) ?_
 refine Lq (.bool ((((kN 7 a.what) : Nat) : Int) == 4)) rfl rfl rfl rfl ?_
 refine L_nil ?_
 rcases Bool.eq_false_or_eq_true ((((kN 7 a.what) : Nat) : Int) == 4) with c104 | c104
 ·
  have q105 := eq_of_beq c104
  refine W_cond_true (by show Value.bool _ = _; exact congrArg Value.bool c104) ?_
  refine W_seq ?_
  refine W_region_lit ?_
  refine Lq (ptr p 0) rfl rfl rfl rfl ?_
  refine Lq (int ((((kN ((s.nodes.length + 1 : Nat) : Int) a.x) : Nat) : Int) - 1 + and1 a.y)) rfl rfl rfl rfl ?_
  refine Lq (int ((((kN ((s.nodes.length + 1 : Nat) : Int) a.y) : Nat) : Int) - 1 + and1 a.x)) rfl rfl rfl rfl ?_
  have hst106 := (hst56.front 1 rfl rfl)
  refine L_callS [c] [one b1 (.cells #[(int a.what), (int a.x), (int a.y), (int a.nm)] 35 (0, 0))] hst106 rfl rfl rfl (x_call (vs := #[(ptr p 0), (int ((((kN ((s.nodes.length + 1 : Nat) : Int) a.x) : Nat) : Int) - 1 + and1 a.y)), (int ((((kN ((s.nodes.length + 1 : Nat) : Int) a.y) : Nat) : Int) - 1 + and1 a.x))]) rfl rfl (by kernel_rfl) ent_47) (MergeR_spec ((((kN ((s.nodes.length + 1 : Nat) : Int) a.x) : Nat) : Int) - 1 + and1 a.y) ((((kN ((s.nodes.length + 1 : Nat) : Int) a.y) : Nat) : Int) - 1 + and1 a.x) (hst106.sats.take 1 rfl) htree) (fun v107 w108 R109 L110 hp111 hle112 hst113 => ?_)
  obtain ⟨c114, rfl, rfl, htr115⟩ := hp111
  refine Lq (int 0) rfl rfl rfl rfl ?_
  refine Lq (int ((s.merge ((((kN ((s.nodes.length + 1 : Nat) : Int) a.x) : Nat) : Int) - 1 + and1 a.y) ((((kN ((s.nodes.length + 1 : Nat) : Int) a.y) : Nat) : Int) - 1 + and1 a.x)).1)) rfl rfl rfl rfl ?_
  refine L_nil ?_
  refine W_ret ?_
  refine ⟨_, _, res_run (rs := [.tmp 4, .tmp 5]) (vs := [(int 0), (int ((s.merge ((((kN ((s.nodes.length + 1 : Nat) : Int) a.x) : Nat) : Int) - 1 + and1 a.y) ((((kN ((s.nodes.length + 1 : Nat) : Int) a.y) : Nat) : Int) - 1 + and1 a.x)).1))]) Tryz.results18 (.cons (.tmp rfl) (.cons (.tmp rfl) .nil)) rfl, ?_⟩
  have he := act_merge (s := s) (a := a) (n := s.nodes.length) (eq_of_beq c104)
  rw [he]
  exact ⟨_, _, _, rfl, (hst113).keepN 1 rfl, _, rfl, rfl, htr115⟩
 ·
  have q116 := ne_of_beq_false c104
  refine W_cond_false (by show Value.bool _ = _; exact congrArg Value.bool c104) ?_
  refine W_seq ?_
  refine W_region_lit ?_
  refine Lq (.bool ((((kN 7 a.what) : Nat) : Int) == 5)) rfl rfl rfl (by kernel_rfl) ?_
  refine Lq (.bool ((((kN 7 a.what) : Nat) : Int) == 5)) rfl rfl rfl rfl ?_
  refine L_nil ?_
  rcases Bool.eq_false_or_eq_true ((((kN 7 a.what) : Nat) : Int) == 5) with c117 | c117
  ·
   have q118 := eq_of_beq c117
   refine W_cond_true (by show Value.bool _ = _; exact congrArg Value.bool c117) ?_
   refine W_seq ?_
   refine W_region_lit ?_
   refine Lq (ptr p 0) rfl rfl rfl rfl ?_
   refine Lq (int ((((kN ((s.nodes.length + 1 : Nat) : Int) a.x) : Nat) : Int) - 1 + and1 a.y)) rfl rfl rfl rfl ?_
   have hst119 := (hst56.front 1 rfl rfl)
   refine L_callS [c] [one b1 (.cells #[(int a.what), (int a.x), (int a.y), (int a.nm)] 35 (0, 0))] hst119 rfl rfl rfl (x_call (vs := #[(ptr p 0), (int ((((kN ((s.nodes.length + 1 : Nat) : Int) a.x) : Nat) : Int) - 1 + and1 a.y))]) rfl rfl (by kernel_rfl) ent_48) (SplitR_spec ((((kN ((s.nodes.length + 1 : Nat) : Int) a.x) : Nat) : Int) - 1 + and1 a.y) (hst119.sats.take 1 rfl) htree hmx hnx hco) (fun v120 w121 R122 L123 hp124 hle125 hst126 => ?_)
   obtain ⟨c127, rfl, rfl, htr128⟩ := hp124
   refine Lq (int ((s.split ((((kN ((s.nodes.length + 1 : Nat) : Int) a.x) : Nat) : Int) - 1 + and1 a.y)).1)) rfl rfl rfl (by kernel_rfl) ?_
   refine Lq (int ((s.split ((((kN ((s.nodes.length + 1 : Nat) : Int) a.x) : Nat) : Int) - 1 + and1 a.y)).2.1)) rfl rfl rfl (by kernel_rfl) ?_
   refine Lq (int ((s.split ((((kN ((s.nodes.length + 1 : Nat) : Int) a.x) : Nat) : Int) - 1 + and1 a.y)).1)) rfl rfl rfl rfl ?_
   refine Lq (int ((s.split ((((kN ((s.nodes.length + 1 : Nat) : Int) a.x) : Nat) : Int) - 1 + and1 a.y)).2.1)) rfl rfl rfl rfl ?_
   refine L_nil ?_
   refine W_ret ?_
   refine ⟨_, _, res_run (rs := [.tmp 4, .tmp 5]) (vs := [(int ((s.split ((((kN ((s.nodes.length + 1 : Nat) : Int) a.x) : Nat) : Int) - 1 + and1 a.y)).1)), (int ((s.split ((((kN ((s.nodes.length + 1 : Nat) : Int) a.x) : Nat) : Int) - 1 + and1 a.y)).2.1))]) Tryz.results18 (.cons (.tmp rfl) (.cons (.tmp rfl) .nil)) rfl, ?_⟩
   have he := act_split (s := s) (a := a) (n := s.nodes.length) (ne_of_beq_false c104) (eq_of_beq c117)
   rw [he]
   exact ⟨_, _, _, rfl, (hst126).keepN 1 rfl, _, rfl, rfl, htr128⟩
  ·
   have q129 := ne_of_beq_false c117
   refine W_cond_false (by show Value.bool _ = _; exact congrArg Value.bool c117) ?_
   refine W_seq ?_
   refine W_region_lit ?_
   refine Lq (.bool ((((kN 7 a.what) : Nat) : Int) == 6)) rfl rfl rfl (by kernel_rfl) ?_
   refine Lq (.bool ((((kN 7 a.what) : Nat) : Int) == 6)) rfl rfl rfl rfl ?_
   refine L_nil ?_
   rcases Bool.eq_false_or_eq_true ((((kN 7 a.what) : Nat) : Int) == 6) with c130 | c130
   ·
    have q131 := eq_of_beq c130
    refine W_cond_true (by show Value.bool _ = _; exact congrArg Value.bool c130) ?_
    refine W_seq ?_
    refine W_region_draw [] (fun w => Le R (hp w) ∧ Le (one b1 (.cells #[(int a.what), (int a.x), (int a.y), (int a.nm)] 35 (0, 0))) (hp w)) hmix (by decide +kernel) (fun _ _ h => h) ?_
    have hst133 := hst56.draws (w55.drawn + 1)
    generalize draws w55 (w55.drawn + 1) = w132 at hst133 ⊢
    refine LP (ptr p 0) 0 rfl rfl rfl (fun u135 => rfl) ⟨hst133.rle', hst133.g 0⟩ ?_
    refine LP (ptr b1 2) 1 rfl rfl rfl (fun u138 => (by kernel_rfl)) ⟨hst133.rle', hst133.g 0⟩ ?_
    refine LT (int a.y) 2 rfl rfl rfl (fun u141 hF142 => (x_load rfl rfl (run_loadVar_one ti_3 (hF142.2 _ _ (one_self _ _)) rfl))) ⟨hst133.rle', hst133.g 0⟩ ?_
    have hb146 := tmod_bd a.y (m := 3) (by omega)
    refine LP (int (Int.tmod a.y 3)) 3 rfl rfl rfl (fun u144 => (x_rem rfl rfl rfl (by omega))) ⟨hst133.rle', hst133.g 0⟩ ?_
    refine LP (ptr b1 1) 4 rfl rfl rfl (fun u148 => (by kernel_rfl)) ⟨hst133.rle', hst133.g 0⟩ ?_
    refine LT (int a.x) 5 rfl rfl rfl (fun u151 hF152 => (x_load rfl rfl (run_loadVar_one ti_3 (hF152.2 _ _ (one_self _ _)) rfl))) ⟨hst133.rle', hst133.g 0⟩ ?_
    refine LA_all [6] (by decide +kernel) (by simp) ?_
    intro i_ hi_
    simp only [List.mem_cons, List.not_mem_nil, or_false] at hi_
    subst hi_
    have hst156 := hst133
    refine One_callS (i := 6) [] [one b1 (.cells #[(int a.what), (int a.x), (int a.y), (int a.nm)] 35 (0, 0)), c] hst156 rfl rfl rfl (Want.plain rfl) (x_call (vs := #[(int a.x)]) rfl rfl (by kernel_rfl) ent_46) (Some_spec a.x (hst156.sats.take 0 rfl)) (fun v157 w158 R159 L160 hp161 hle162 hst163 => ?_)
    have hm164 := RefT.lift htree hle162
    obtain ⟨c165, rfl, ho166⟩ := hp161
    refine ⟨(fun _ => ⟨(Le.trans hle162 hst163.rle'), hst163.g 1⟩), ?_⟩
    refine LA_all [7] (by decide +kernel) (by simp) ?_
    intro i_ hi_
    simp only [List.mem_cons, List.not_mem_nil, or_false] at hi_
    subst hi_
    obtain ⟨R170, hst171, hle172, hc173⟩ := Step.frz hst163
    have hm174 := RefT.lift hm164 hle172
    have hrd175 := OwnL.freeze ho166 hle172 hc173
    have hst176 := (hst171.front 1 rfl rfl)
    refine One_callS (i := 7) [c] [one b1 (.cells #[(int a.what), (int a.x), (int a.y), (int a.nm)] 35 (0, 0))] hst176 rfl rfl rfl (Want.plain rfl) (x_call (vs := #[(ptr p 0), (int (Int.tmod a.y 3)), v157]) rfl rfl (by kernel_rfl) ent_49) (MakeR_spec (v := v157) (Int.tmod a.y 3) (someL a.x) (hst176.sats.take 1 rfl) hm174 hrd175 (by have h_ := someL_len a.x; omega) hmx) (fun v177 w178 R179 L180 hp181 hle182 hst183 => ?_)
    obtain ⟨c184, rfl, rfl, htr185⟩ := hp181
    refine ⟨(fun _ => ⟨(Le.trans hle162 (Le.trans hle172 (Le.trans hle182 hst183.rle'))), hst183.g 1⟩), ?_⟩
    refine LP (int ((s.make (Int.tmod a.y 3) (someL a.x)).1)) 8 rfl rfl rfl (fun u187 => (by kernel_rfl)) ⟨(Le.trans hle162 (Le.trans hle172 (Le.trans hle182 hst183.rle'))), hst183.g 1⟩ ?_
    refine LP (int ((s.make (Int.tmod a.y 3) (someL a.x)).2.1)) 9 rfl rfl rfl (fun u190 => (by kernel_rfl)) ⟨(Le.trans hle162 (Le.trans hle172 (Le.trans hle182 hst183.rle'))), hst183.g 1⟩ ?_
    refine LP (int ((s.make (Int.tmod a.y 3) (someL a.x)).1)) 10 rfl rfl rfl (fun u193 => rfl) ⟨(Le.trans hle162 (Le.trans hle172 (Le.trans hle182 hst183.rle'))), hst183.g 1⟩ ?_
    refine LP (int ((s.make (Int.tmod a.y 3) (someL a.x)).2.1)) 11 rfl rfl rfl (fun u196 => rfl) ⟨(Le.trans hle162 (Le.trans hle172 (Le.trans hle182 hst183.rle'))), hst183.g 1⟩ ?_
    refine LA_done (by decide +kernel) ?_
    refine W_ret ?_
    refine ⟨_, _, res_run (rs := [.tmp 4, .tmp 5]) (vs := [(int ((s.make (Int.tmod a.y 3) (someL a.x)).1)), (int ((s.make (Int.tmod a.y 3) (someL a.x)).2.1))]) Tryz.results18 (.cons (.tmp rfl) (.cons (.tmp rfl) .nil)) rfl, ?_⟩
    have he := act_make (s := s) (a := a) (n := s.nodes.length) (ne_of_beq_false c104) (ne_of_beq_false c117) (eq_of_beq c130)
    rw [he]
    exact ⟨_, _, _, rfl, (hst183).keepN 1 rfl, _, rfl, rfl, htr185⟩
   ·
    have q198 := ne_of_beq_false c130
    refine W_cond_false (by show Value.bool _ = _; exact congrArg Value.bool c130) ?_
    refine W_skip ?_
    refine W_seq ?_
    refine W_region_lit ?_
    refine Lq (ptr p 0) rfl rfl rfl rfl ?_
    refine Lq (int ((((kN ((s.nodes.length + 1 : Nat) : Int) a.x) : Nat) : Int) - 1 + and1 a.y)) rfl rfl rfl rfl ?_
    refine Lq (ptr b1 3) rfl rfl rfl (by kernel_rfl) ?_
    refine Lq (int a.nm) rfl rfl rfl (x_load rfl rfl (run_loadVar_one ti_3 (hst56.b 0) rfl)) ?_
    refine L_callG hst56 (v := (.string (nameOf a.nm))) rfl rfl rfl (x_call (vs := #[(int a.nm)]) rfl rfl (by kernel_rfl) ent_31) (Name_spec a.nm) (fun w199 hst200 => ?_)
    have hst201 := (hst200.front 1 rfl rfl)
    refine L_callS [c] [one b1 (.cells #[(int a.what), (int a.x), (int a.y), (int a.nm)] 35 (0, 0))] hst201 rfl rfl rfl (x_call (vs := #[(ptr p 0), (int ((((kN ((s.nodes.length + 1 : Nat) : Int) a.x) : Nat) : Int) - 1 + and1 a.y)), (.string (nameOf a.nm))]) rfl rfl (by kernel_rfl) ent_50) (AddR_spec ((((kN ((s.nodes.length + 1 : Nat) : Int) a.x) : Nat) : Int) - 1 + and1 a.y) (nameOf a.nm) (hst201.sats.take 1 rfl) htree hmx hnx hco.ali) (fun v202 w203 R204 L205 hp206 hle207 hst208 => ?_)
    obtain ⟨c209, rfl, rfl, htr210⟩ := hp206
    refine Lq (int ((s.add ((((kN ((s.nodes.length + 1 : Nat) : Int) a.x) : Nat) : Int) - 1 + and1 a.y) (nameOf a.nm)).1)) rfl rfl rfl (by kernel_rfl) ?_
    refine Lq (int ((s.add ((((kN ((s.nodes.length + 1 : Nat) : Int) a.x) : Nat) : Int) - 1 + and1 a.y) (nameOf a.nm)).2.1)) rfl rfl rfl (by kernel_rfl) ?_
    refine Lq (int ((s.add ((((kN ((s.nodes.length + 1 : Nat) : Int) a.x) : Nat) : Int) - 1 + and1 a.y) (nameOf a.nm)).1)) rfl rfl rfl rfl ?_
    refine Lq (int ((s.add ((((kN ((s.nodes.length + 1 : Nat) : Int) a.x) : Nat) : Int) - 1 + and1 a.y) (nameOf a.nm)).2.1)) rfl rfl rfl rfl ?_
    refine L_nil ?_
    refine W_ret ?_
    refine ⟨_, _, res_run (rs := [.tmp 4, .tmp 5]) (vs := [(int ((s.add ((((kN ((s.nodes.length + 1 : Nat) : Int) a.x) : Nat) : Int) - 1 + and1 a.y) (nameOf a.nm)).1)), (int ((s.add ((((kN ((s.nodes.length + 1 : Nat) : Int) a.x) : Nat) : Int) - 1 + and1 a.y) (nameOf a.nm)).2.1))]) Tryz.results18 (.cons (.tmp rfl) (.cons (.tmp rfl) .nil)) rfl, ?_⟩
    have he := act_add (s := s) (a := a) (n := s.nodes.length) (ne_of_beq_false c104) (ne_of_beq_false c117) (ne_of_beq_false c130)
    rw [he]
    exact ⟨_, _, _, rfl, (hst208).keepN 1 rfl, _, rfl, rfl, htr210⟩
end Go.Fx.YtjpdhfhiimbpgaaGreatDoor
set_option linter.unusedSimpArgs false
set_option linter.unusedVariables false
namespace Go.Fx.YtjpdhfhiimbpgaaGreatDoor
open Go Go.Fx Go.Proofs
set_option maxRecDepth 20000
theorem ent_13 : Ent Tryz.prog 13 := fun _ _ => by kernel_rfl
theorem ent_15 : Ent Tryz.prog 15 := fun _ _ => by kernel_rfl
theorem ent_17 : Ent Tryz.prog 17 := fun _ _ => by kernel_rfl
theorem ent_18 : Ent Tryz.prog 18 := fun _ _ => by kernel_rfl
set_option maxHeartbeats 2000000 in
theorem Plays_spec {w : World} {R : Hp} {v : Value} (n : Int) (acts : List Ac) (hs : Sats w R []) (hv : RdS tyAc R v acts) :
    Calls Tryz.prog 3 #[int n, v] w (Comes' w R [] fun v' R' L' => v' = .bool true ∧ L' = []) := by
 have hst := Step.refl hs
 refine calls_of_W (n := 82) Tryz.func3 rfl Tryz.ntmps3 (Nat.le_of_ble_eq_true rfl) ?_
 refine W_seq ?_
 refine W_region_lit ?_
 refine Lq (.bool false) rfl rfl rfl rfl ?_
 refine L_nil ?_
 refine W_seq ?_
 refine W_region_lit ?_
 refine L_callG hst (v := (.bool true)) rfl rfl rfl (x_call (vs := #[]) rfl rfl (by kernel_rfl) ent_10) sanity_spec (fun w1 hst2 => ?_)
 refine Lq (.bool true) rfl rfl rfl rfl ?_
 refine L_nil ?_
 refine W_seq ?_
 refine W_region_lit ?_
 refine Lq (int n) rfl rfl rfl rfl ?_
 have hst3 := hst2
 refine L_callS [] [] hst3 rfl rfl rfl (x_call (vs := #[(int n)]) rfl rfl (by kernel_rfl) ent_12) (Classes_spec n (hst3.sats.take 0 rfl)) (fun v4 w5 R6 L7 hp8 hle9 hst10 => ?_)
 obtain ⟨rfl, hrd11⟩ := hp8
 have hcl12 : (clsOf n).length = 1 + kN 3 n := clsOf_len _
 have hcl13 := kN3 n
 have hfs : ∀ x ∈ clsOf n, x.fields.length ≤ 64 := fun x hx => Nat.le_trans (clsOf_mem hx).1 (by decide)
 obtain ⟨a14, cap15, e16, hc17⟩ := hrd11.shape
 subst e16
 have hst18 := hst10
 refine L_callS [] [] hst18 rfl rfl rfl (x_call (vs := #[(.slice a14 ((clsOf n).length) cap15)]) rfl rfl (by kernel_rfl) ent_11) (New_spec (v := (.slice a14 ((clsOf n).length) cap15)) (hst18.sats.take 0 rfl) (RdS.mono hrd11 (Le.refl _)) (by omega) (fun x_ hx_ => Nat.le_trans (clsOf_mem hx_).1 (by decide))) (fun v19 w20 R21 L22 hp23 hle24 hst25 => ?_)
 obtain ⟨p26, c27, rfl, rfl, htr28⟩ := hp23
 refine Lq (int n) rfl rfl rfl rfl ?_
 have hst29 := hst25
 refine L_callS [] [c27] hst29 rfl rfl rfl (x_call (vs := #[(int n)]) rfl rfl (by kernel_rfl) ent_12) (Classes_spec n (hst29.sats.take 0 rfl)) (fun v30 w31 R32 L33 hp34 hle35 hst36 => ?_)
 have hm37 := Tree.lift htr28 hle35
 obtain ⟨rfl, hrd38⟩ := hp34
 have hcl39 : (clsOf n).length = 1 + kN 3 n := clsOf_len _
 have hcl40 := kN3 n
 have hfs : ∀ x ∈ clsOf n, x.fields.length ≤ 64 := fun x hx => Nat.le_trans (clsOf_mem hx).1 (by decide)
 obtain ⟨a41, cap42, e43, hc44⟩ := hrd38.shape
 subst e43
 have hst45 := hst36
 refine L_callS [] [c27] hst45 rfl rfl rfl (x_call (vs := #[(.slice a41 ((clsOf n).length) cap42)]) rfl rfl (by kernel_rfl) ent_13) (NewR_spec (v := (.slice a41 ((clsOf n).length) cap42)) (hst45.sats.take 0 rfl) (RdS.mono hrd38 (Le.refl _)) (by omega) (fun x_ hx_ => Nat.le_trans (clsOf_mem hx_).1 (by decide))) (fun v46 w47 R48 L49 hp50 hle51 hst52 => ?_)
 have hm53 := Tree.lift hm37 hle51
 obtain ⟨p54, c55, rfl, rfl, htr56⟩ := hp50
 refine Lq (ptr p26 0) rfl rfl rfl rfl ?_
 refine Lq (ptr p54 0) rfl rfl rfl rfl ?_
 refine L_nil ?_
 refine W_seq ?_
 refine W_seq ?_
 have htr57 : Tree R48 p26 (playK n acts 0) c27 := hm53
 have htr58 : RefT R48 p54 (playK n acts 0) c55 := htr56
 refine W_region_lit ?_
 refine Lq (ptr p26 0) rfl rfl rfl rfl ?_
 refine Lq (.bool false) rfl rfl rfl (by kernel_rfl) ?_
 refine Lq (.bool false) rfl rfl rfl rfl ?_
 refine L_guard rfl rfl rfl rfl rfl ?_
 refine Lq (ptr p26 0) rfl rfl rfl rfl ?_
 refine L_guard rfl rfl rfl rfl rfl ?_
 refine L_callG hst52 (v := (.string (txt (playK n acts 0)))) rfl rfl rfl (x_call (vs := #[(ptr p26 0)]) rfl rfl (by kernel_rfl) ent_14) (Text_spec (Tree.viewM htr57 (hst52.g 1) hst52.rle' (List.ne_nil_of_length_pos (playK_pos n acts 0)) ((playK_bd n acts 0).nice (by omega) (playK_core n acts 0).roots3))) (fun w59 hst60 => ?_)
 refine L_guard rfl rfl rfl rfl rfl ?_
 refine Lq (ptr p54 0) rfl rfl rfl rfl ?_
 refine L_guard rfl rfl rfl rfl rfl ?_
 refine L_callG hst60 (v := (.string (txt (playK n acts 0)))) rfl rfl rfl (x_call (vs := #[(ptr p54 0)]) rfl rfl (by kernel_rfl) ent_15) (TextR_spec (RefT.view htr58 (hst60.g 0) hst60.rle') (playK_wf n acts 0) ((playK_bd n acts 0).nice (by omega) (playK_core n acts 0).roots3) (Le.refl _)) (fun w61 hst62 => ?_)
 refine L_guard rfl rfl rfl rfl rfl ?_
 refine Lq (.bool (!(decide ((txt (playK n acts 0)) = (txt (playK n acts 0)))))) rfl rfl rfl (x_neqD rfl rfl rfl) ?_
 refine Lq (.bool (!(decide ((txt (playK n acts 0)) = (txt (playK n acts 0)))))) rfl rfl rfl rfl ?_
 refine L_nil ?_
 have c63 : (decide ((txt (playK n acts 0)) = (txt (playK n acts 0)))) = true := (decide_eq_true rfl)
 have q64 := of_decide_eq_true c63
 refine W_cond_false (by show Value.bool _ = _; exact congrArg Value.bool (by rw [c63]; rfl)) ?_
 refine W_skip ?_
 refine W_seq ?_
 refine W_seq ?_
 refine W_region_lit ?_
 refine Lq (int 0) rfl rfl rfl rfl ?_
 refine L_nil ?_
 refine W_block ?_
 refine W_loop (I := fun σ w_ m_ => ∃ (σ0 : Fr) (R_ : Hp) (k_ : Nat) (cT : Hp) (cU : Hp), σ = upd (upd (upd (upd (upd (upd (upd (upd (upd (upd (upd (upd (upd (upd (upd (upd (upd (upd (upd (upd (upd (upd σ0 0 (int n)) 1 v) 5 (.bool true)) 6 (ptr p26 0)) 7 (ptr p54 0)) 8 (int (k_ : Int))) 13 (.bool true)) 14 (int n)) 15 (.slice a14 ((clsOf n).length) cap15)) 16 (ptr p26 0)) 17 (int n)) 18 (.slice a41 ((clsOf n).length) cap42)) 19 (ptr p54 0)) 20 (ptr p26 0)) 21 (.bool false)) 22 (.bool false)) 23 (ptr p26 0)) 24 (.string (txt (playK n acts 0)))) 25 (ptr p54 0)) 26 (.string (txt (playK n acts 0)))) 27 (.bool (!(decide ((txt (playK n acts 0)) = (txt (playK n acts 0))))))) 28 (.bool (!(decide ((txt (playK n acts 0)) = (txt (playK n acts 0)))))) ∧ mks (σ0 0) = [] ∧ Step w R [] w_ R_ [cT, cU] ∧ Le R48 R_ ∧ Tree R_ p26 (playK n acts k_) cT ∧ RefT R_ p54 (playK n acts k_) cU ∧ k_ ≤ acts.length ∧ k_ ≤ 60 ∧ m_ = 60 - k_) (m := 60 - 0) ?_ ?_
 ·
  exact ⟨_, _, 0, c27, c55, (upd_of (upd_of (upd_of (upd_of (upd_of (upd_of (upd_of (upd_of (upd_of (upd_of (upd_of (upd_of (upd_of (upd_of (upd_of (upd_of (upd_of (upd_of (upd_of (upd_of (upd_of (upd_of rfl rfl) rfl) rfl) rfl) rfl) rfl) rfl) rfl) rfl) rfl) rfl) rfl) rfl) rfl) rfl) rfl) rfl) rfl) rfl) rfl) rfl) rfl), rfl, (hst62.front 1 rfl rfl), Le.refl _, htr57, htr58, (by omega), (by omega), rfl⟩
 ·
  rintro m78 σ_ w67 ⟨s73, R74, k_75, cT76, cU77, rfl, hmk65, hst66, hle68, hi69, hi70, hf71, hf72, rfl⟩
  refine W_seq ?_
  refine W_seq ?_
  refine W_region_lit ?_
  refine Lq (int (k_75 : Int)) rfl rfl rfl rfl ?_
  refine Lq v rfl rfl rfl rfl ?_
  obtain ⟨a79, cap80, e81, hc82⟩ := hv.shape
  subst e81
  refine Lq (int (acts.length : Int)) rfl rfl rfl (x_len_slice rfl sl_22 rfl) ?_
  refine Lq (.bool (decide ((k_75 : Int) < (acts.length : Int)))) rfl rfl rfl (by kernel_rfl) ?_
  refine Lq (.bool (decide ((k_75 : Int) < (acts.length : Int)))) rfl rfl rfl rfl ?_
  rcases Bool.eq_false_or_eq_true (decide ((k_75 : Int) < (acts.length : Int))) with c83 | c83
  ·
   have q84 := of_decide_eq_true c83
   refine L_guard rfl rfl rfl rfl c83 ?_
   refine Lq (int (k_75 : Int)) rfl rfl rfl rfl ?_
   refine L_guard rfl rfl rfl rfl c83 ?_
   refine Lq (.bool (decide ((k_75 : Int) < 60))) rfl rfl rfl (by kernel_rfl) ?_
   refine Lq (.bool (decide ((k_75 : Int) < 60))) rfl rfl rfl (x_pick rfl rfl (by rw [c83]; rfl)) ?_
   refine L_nil ?_
   rcases Bool.eq_false_or_eq_true (decide ((k_75 : Int) < 60)) with c85 | c85
   ·
    have q86 := of_decide_eq_true c85
    refine W_cond_true (by show Value.bool _ = _; exact congrArg Value.bool c85) ?_
    refine W_skip ?_
    refine W_seq ?_
    refine W_block ?_
    refine W_seq ?_
    have hpl := playK_len n acts k_75
    refine W_region_draw [] (fun w => Le R74 (hp w)) hmix (by decide +kernel) (fun _ _ h => h) ?_
    have hst88 := hst66.draws (w67.drawn + 1)
    generalize draws w67 (w67.drawn + 1) = w87 at hst88 ⊢
    refine LP (ptr p26 0) 0 rfl rfl rfl (fun u90 => rfl) hst88.rle' ?_
    refine LP (.slice a79 acts.length cap80) 1 rfl rfl rfl (fun u93 => rfl) hst88.rle' ?_
    refine LP (int (k_75 : Int)) 2 rfl rfl rfl (fun u96 => rfl) hst88.rle' ?_
    obtain ⟨b101, off102, cap103, cs104, T105, fz106, e107, hc108, hb109, he110⟩ := hv.open (by omega)
    cases e107
    obtain ⟨cl111, hs112, hr113⟩ := he110.at k_75 (by omega)
    have hx114 := tyAc_open hr113
    subst hx114
    refine LP (ptr b101 (off102 + k_75 * 4)) 3 rfl rfl rfl (fun u99 => (x_indexAddr' rfl sl_22 ti_35 rfl rfl (by omega))) hst88.rle' ?_
    refine LT (.agg #[(int ((acts[k_75]'(by omega)).what)), (int ((acts[k_75]'(by omega)).x)), (int ((acts[k_75]'(by omega)).y)), (int ((acts[k_75]'(by omega)).nm))]) 4 rfl rfl rfl (fun u116 hF117 => (x_load rfl rfl (run_loadVar_agg ti_35 ((Le.trans hle9 (Le.trans hle24 (Le.trans hle35 (Le.trans hle51 (Le.trans hle68 hF117))))) _ _ hb109) hs112 rfl))) hst88.rle' ?_
    refine LP (ptr p54 0) 5 rfl rfl rfl (fun u119 => rfl) hst88.rle' ?_
    refine LA_all [6] (by decide +kernel) (by simp) ?_
    intro i_ hi_
    simp only [List.mem_cons, List.not_mem_nil, or_false] at hi_
    subst hi_
    refine One_call (i := 6) rfl rfl rfl (Want.plain rfl) (x_call (vs := #[(ptr p54 0)]) rfl rfl (by kernel_rfl) ent_17) (by have h_ := (CountR_spec (RefT.view hi70 (hst88.g 1) hst88.rle') (Le.refl _)); rw [nds_shs] at h_; exact h_) ?_
    rintro e126 w124 ⟨rfl, hw127⟩
    have hst125 := hst88.grown hw127
    refine ⟨_, rfl, (fun _ => hst125.rle'), ?_⟩
    refine LA_all [7] (by decide +kernel) (by simp) ?_
    intro i_ hi_
    simp only [List.mem_cons, List.not_mem_nil, or_false] at hi_
    subst hi_
    have hst131 := hst125
    refine One_callS (i := 7) [cT76] [cU77] hst131 rfl rfl rfl (Want.plain rfl) (x_call (vs := #[(ptr p26 0), (.agg #[(int ((acts[k_75]'(by omega)).what)), (int ((acts[k_75]'(by omega)).x)), (int ((acts[k_75]'(by omega)).y)), (int ((acts[k_75]'(by omega)).nm))]), (int (((playK n acts k_75).nodes.length : Nat) : Int))]) rfl rfl (by kernel_rfl) ent_16) (do_spec (acts[k_75]'(by omega)) ((playK n acts k_75).nodes.length) (hst131.sats.take 1 rfl) hi69 (by omega) (by omega)) (fun v132 w133 R134 L135 hp136 hle137 hst138 => ?_)
    have hm139 := RefT.lift hi70 hle137
    obtain ⟨c140, rfl, rfl, htr141⟩ := hp136
    refine ⟨(fun _ => (Le.trans hle137 hst138.rle')), ?_⟩
    refine LP (.tuple #[(int (((playK n acts k_75).act (acts[k_75]'(by omega)) ((playK n acts k_75).nodes.length)).1)), (int (((playK n acts k_75).act (acts[k_75]'(by omega)) ((playK n acts k_75).nodes.length)).2.1))]) 8 rfl rfl rfl (fun u143 => rfl) (Le.trans hle137 hst138.rle') ?_
    refine LP (int (((playK n acts k_75).act (acts[k_75]'(by omega)) ((playK n acts k_75).nodes.length)).1)) 9 rfl rfl rfl (fun u146 => (by kernel_rfl)) (Le.trans hle137 hst138.rle') ?_
    refine LP (int (((playK n acts k_75).act (acts[k_75]'(by omega)) ((playK n acts k_75).nodes.length)).2.1)) 10 rfl rfl rfl (fun u149 => (by kernel_rfl)) (Le.trans hle137 hst138.rle') ?_
    refine LP (int (((playK n acts k_75).act (acts[k_75]'(by omega)) ((playK n acts k_75).nodes.length)).1)) 11 rfl rfl rfl (fun u152 => rfl) (Le.trans hle137 hst138.rle') ?_
    refine LP (int (((playK n acts k_75).act (acts[k_75]'(by omega)) ((playK n acts k_75).nodes.length)).2.1)) 12 rfl rfl rfl (fun u155 => rfl) (Le.trans hle137 hst138.rle') ?_
    refine LA_done (by decide +kernel) ?_
    refine W_seq ?_
    refine W_region_lit ?_
    refine Lq (ptr p54 0) rfl rfl rfl rfl ?_
    refine Lq (.slice (some ⟨b101, off102, none⟩) acts.length cap80) rfl rfl rfl rfl ?_
    refine Lq (int (k_75 : Int)) rfl rfl rfl rfl ?_
    obtain ⟨cl157, hs158, hr159⟩ := he110.at k_75 (by omega)
    have hx160 := tyAc_open hr159
    subst hx160
    refine Lq (ptr b101 (off102 + k_75 * 4)) rfl rfl rfl (x_indexAddr' rfl sl_22 ti_35 rfl rfl (by omega)) ?_
    refine Lq (.agg #[(int ((acts[k_75]'(by omega)).what)), (int ((acts[k_75]'(by omega)).x)), (int ((acts[k_75]'(by omega)).y)), (int ((acts[k_75]'(by omega)).nm))]) rfl rfl rfl (x_load rfl rfl (run_loadVar_agg ti_35 ((Le.trans hle9 (Le.trans hle24 (Le.trans hle35 (Le.trans hle51 (Le.trans hle68 (Le.trans hle137 hst138.rle')))))) _ _ hb109) hs158 rfl)) ?_
    have hst161 := (hst138.front 1 rfl rfl)
    refine L_callS [cU77] [c140] hst161 rfl rfl rfl (x_call (vs := #[(ptr p54 0), (.agg #[(int ((acts[k_75]'(by omega)).what)), (int ((acts[k_75]'(by omega)).x)), (int ((acts[k_75]'(by omega)).y)), (int ((acts[k_75]'(by omega)).nm))])]) rfl rfl (by kernel_rfl) ent_18) (DoR_spec (n := n) (acts[k_75]'(by omega)) (hst161.sats.take 1 rfl) hm139 (by omega) ((playK_bd n acts k_75).next9 (by omega)) (playK_core n acts k_75)) (fun v162 w163 R164 L165 hp166 hle167 hst168 => ?_)
    have hm169 := Tree.lift htr141 hle167
    obtain ⟨c170, rfl, rfl, htr171⟩ := hp166
    refine Lq (.tuple #[(int (((playK n acts k_75).act (acts[k_75]'(by omega)) (playK n acts k_75).nodes.length).1)), (int (((playK n acts k_75).act (acts[k_75]'(by omega)) (playK n acts k_75).nodes.length).2.1))]) rfl rfl rfl rfl ?_
    refine Lq (int (((playK n acts k_75).act (acts[k_75]'(by omega)) (playK n acts k_75).nodes.length).1)) rfl rfl rfl (by kernel_rfl) ?_
    refine Lq (int (((playK n acts k_75).act (acts[k_75]'(by omega)) (playK n acts k_75).nodes.length).2.1)) rfl rfl rfl (by kernel_rfl) ?_
    refine Lq (int (((playK n acts k_75).act (acts[k_75]'(by omega)) (playK n acts k_75).nodes.length).1)) rfl rfl rfl rfl ?_
    refine Lq (int (((playK n acts k_75).act (acts[k_75]'(by omega)) (playK n acts k_75).nodes.length).2.1)) rfl rfl rfl rfl ?_
    refine L_nil ?_
    refine W_seq ?_
    rw [← playK_succ (n := n) (acts := acts) (k := k_75) (by omega)] at hm169
    rw [← playK_succ (n := n) (acts := acts) (k := k_75) (by omega)] at htr171
    refine W_region_lit ?_
    refine Lq (int (((playK n acts k_75).act (acts[k_75]'(by omega)) ((playK n acts k_75).nodes.length)).1)) rfl rfl rfl rfl ?_
    refine Lq (int (((playK n acts k_75).act (acts[k_75]'(by omega)) (playK n acts k_75).nodes.length).1)) rfl rfl rfl rfl ?_
    refine Lq (.bool ((((playK n acts k_75).act (acts[k_75]'(by omega)) ((playK n acts k_75).nodes.length)).1) != (((playK n acts k_75).act (acts[k_75]'(by omega)) (playK n acts k_75).nodes.length).1))) rfl rfl rfl (by kernel_rfl) ?_
    refine Lq (.bool ((((playK n acts k_75).act (acts[k_75]'(by omega)) ((playK n acts k_75).nodes.length)).1) != (((playK n acts k_75).act (acts[k_75]'(by omega)) (playK n acts k_75).nodes.length).1))) rfl rfl rfl rfl ?_
    have c172 : ((((playK n acts k_75).act (acts[k_75]'(by omega)) ((playK n acts k_75).nodes.length)).1) != (((playK n acts k_75).act (acts[k_75]'(by omega)) (playK n acts k_75).nodes.length).1)) = false := (bneF rfl)
    refine L_guard rfl rfl rfl rfl c172 ?_
    refine Lq (int (((playK n acts k_75).act (acts[k_75]'(by omega)) ((playK n acts k_75).nodes.length)).2.1)) rfl rfl rfl rfl ?_
    refine L_guard rfl rfl rfl rfl c172 ?_
    refine Lq (int (((playK n acts k_75).act (acts[k_75]'(by omega)) (playK n acts k_75).nodes.length).2.1)) rfl rfl rfl rfl ?_
    refine L_guard rfl rfl rfl rfl c172 ?_
    refine Lq (.bool ((((playK n acts k_75).act (acts[k_75]'(by omega)) ((playK n acts k_75).nodes.length)).2.1) != (((playK n acts k_75).act (acts[k_75]'(by omega)) (playK n acts k_75).nodes.length).2.1))) rfl rfl rfl (by kernel_rfl) ?_
    refine Lq (.bool ((((playK n acts k_75).act (acts[k_75]'(by omega)) ((playK n acts k_75).nodes.length)).2.1) != (((playK n acts k_75).act (acts[k_75]'(by omega)) (playK n acts k_75).nodes.length).2.1))) rfl rfl rfl (x_pick rfl rfl (by rw [c172]; rfl)) ?_
    refine Lq (.bool ((((playK n acts k_75).act (acts[k_75]'(by omega)) ((playK n acts k_75).nodes.length)).2.1) != (((playK n acts k_75).act (acts[k_75]'(by omega)) (playK n acts k_75).nodes.length).2.1))) rfl rfl rfl rfl ?_
    have c173 : ((((playK n acts k_75).act (acts[k_75]'(by omega)) ((playK n acts k_75).nodes.length)).2.1) != (((playK n acts k_75).act (acts[k_75]'(by omega)) (playK n acts k_75).nodes.length).2.1)) = false := (bneF rfl)
    refine L_guard rfl rfl rfl rfl c173 ?_
    refine Lq (ptr p26 0) rfl rfl rfl rfl ?_
    refine L_guard rfl rfl rfl rfl c173 ?_
    refine L_callG hst168 (v := (.string (txt (playK n acts (k_75 + 1))))) rfl rfl rfl (x_call (vs := #[(ptr p26 0)]) rfl rfl (by kernel_rfl) ent_14) (Text_spec (Tree.viewM hm169 (hst168.g 1) hst168.rle' (List.ne_nil_of_length_pos (playK_pos n acts (k_75 + 1))) ((playK_bd n acts (k_75 + 1)).nice (by omega) (playK_core n acts (k_75 + 1)).roots3))) (fun w174 hst175 => ?_)
    refine L_guard rfl rfl rfl rfl c173 ?_
    refine Lq (ptr p54 0) rfl rfl rfl rfl ?_
    refine L_guard rfl rfl rfl rfl c173 ?_
    refine L_callG hst175 (v := (.string (txt (playK n acts (k_75 + 1))))) rfl rfl rfl (x_call (vs := #[(ptr p54 0)]) rfl rfl (by kernel_rfl) ent_15) (TextR_spec (RefT.view htr171 (hst175.g 0) hst175.rle') (playK_wf n acts (k_75 + 1)) ((playK_bd n acts (k_75 + 1)).nice (by omega) (playK_core n acts (k_75 + 1)).roots3) (Le.refl _)) (fun w176 hst177 => ?_)
    refine L_guard rfl rfl rfl rfl c173 ?_
    refine Lq (.bool (!(decide ((txt (playK n acts (k_75 + 1))) = (txt (playK n acts (k_75 + 1))))))) rfl rfl rfl (x_neqD rfl rfl rfl) ?_
    refine Lq (.bool (!(decide ((txt (playK n acts (k_75 + 1))) = (txt (playK n acts (k_75 + 1))))))) rfl rfl rfl (x_pick rfl rfl (by rw [c173]; rfl)) ?_
    refine Lq (.bool (!(decide ((txt (playK n acts (k_75 + 1))) = (txt (playK n acts (k_75 + 1))))))) rfl rfl rfl rfl ?_
    have c178 : (decide ((txt (playK n acts (k_75 + 1))) = (txt (playK n acts (k_75 + 1))))) = true := (decide_eq_true rfl)
    have q179 := of_decide_eq_true c178
    refine L_guard rfl rfl rfl rfl (by rw [c178]; rfl) ?_
    refine Lq (ptr p26 0) rfl rfl rfl rfl ?_
    refine L_guard rfl rfl rfl rfl (by rw [c178]; rfl) ?_
    refine L_callG hst177 (v := (int ((((playK n acts (k_75 + 1)).nodes).length : Nat) : Int))) rfl rfl rfl (x_call (vs := #[(ptr p26 0)]) rfl rfl (by kernel_rfl) ent_19) (Count_spec (Tree.view hm169 (hst177.g 1) hst177.rle') (Le.refl _)) (fun w180 hst181 => ?_)
    refine L_guard rfl rfl rfl rfl (by rw [c178]; rfl) ?_
    refine Lq (ptr p54 0) rfl rfl rfl rfl ?_
    refine L_guard rfl rfl rfl rfl (by rw [c178]; rfl) ?_
    refine L_callG hst181 (v := (int (((playK n acts (k_75 + 1)).nodes.length : Nat) : Int))) rfl rfl rfl (x_call (vs := #[(ptr p54 0)]) rfl rfl (by kernel_rfl) ent_17) (by have h_ := (CountR_spec (RefT.view htr171 (hst181.g 0) hst181.rle') (Le.refl _)); rw [nds_shs] at h_; exact h_) (fun w182 hst183 => ?_)
    refine L_guard rfl rfl rfl rfl (by rw [c178]; rfl) ?_
    refine Lq (.bool (((((playK n acts (k_75 + 1)).nodes).length : Nat) : Int) != (((playK n acts (k_75 + 1)).nodes.length : Nat) : Int))) rfl rfl rfl (by kernel_rfl) ?_
    refine Lq (.bool (((((playK n acts (k_75 + 1)).nodes).length : Nat) : Int) != (((playK n acts (k_75 + 1)).nodes.length : Nat) : Int))) rfl rfl rfl (x_pick rfl rfl (by rw [c178]; rfl)) ?_
    refine L_nil ?_
    have c184 : (((((playK n acts (k_75 + 1)).nodes).length : Nat) : Int) != (((playK n acts (k_75 + 1)).nodes.length : Nat) : Int)) = false := (bneF rfl)
    refine W_cond_false (by show Value.bool _ = _; exact congrArg Value.bool c184) ?_
    refine W_skip ?_
    refine W_region_lit ?_
    refine Lq (int (k_75 : Int)) rfl rfl rfl rfl ?_
    refine Lq (int ((k_75 + 1 : Nat) : Int)) rfl rfl rfl (x_add_nat rfl rfl rfl (by omega)) ?_
    refine Lq (int ((k_75 + 1 : Nat) : Int)) rfl rfl rfl rfl ?_
    refine L_nil ?_
    refine ⟨60 - (k_75 + 1), by first | omega | (simp only [List.length_append, List.length_cons, List.length_nil]; omega), ?_⟩
    exact ⟨_, _, (k_75 + 1), c140, c170, (upd_of (upd_of (upd_of (upd_of (upd_of (upd_of (upd_of (upd_of (upd_of (upd_of (upd_of (upd_of (upd_of (upd_of (upd_of (upd_of (upd_of (upd_of (upd_of (upd_of (upd_of (upd_of rfl rfl) rfl) rfl) rfl) rfl) rfl) rfl) rfl) rfl) rfl) rfl) rfl) rfl) rfl) rfl) rfl) rfl) rfl) rfl) rfl) rfl) rfl), hmk65, (hst183.front 1 rfl rfl), (Le.trans hle68 (Le.trans hle137 hle167)), hm169, htr171, (by omega), (by omega), rfl⟩
   ·
    have q185 := of_decide_eq_false c85
    refine W_cond_false (by show Value.bool _ = _; exact congrArg Value.bool c85) ?_
    refine W_exit ?_
    refine W_seq ?_
    refine W_region_lit ?_
    refine Lq (.bool true) rfl rfl rfl rfl ?_
    refine Lq (.bool true) rfl rfl rfl rfl ?_
    refine L_nil ?_
    refine W_ret ?_
    refine ⟨_, _, res_run (rs := [.tmp 4]) (vs := [(.bool true)]) Tryz.results3 (.cons (.tmp rfl) .nil) hmk65, ?_⟩
    exact ⟨_, _, _, rfl, (hst66).keepN 0 rfl, rfl, rfl⟩
  ·
   have q186 := of_decide_eq_false c83
   refine L_unwanted rfl rfl rfl rfl (by rw [c83]; try rfl) rfl rfl ?_
   refine L_unwanted rfl rfl rfl rfl (by rw [c83]; try rfl) rfl rfl ?_
   refine Lq (.bool false) rfl rfl rfl (x_pick rfl rfl (by rw [c83]; rfl)) ?_
   refine L_nil ?_
   refine W_cond_false (by show Value.bool _ = _; exact congrArg Value.bool rfl) ?_
   refine W_exit ?_
   refine W_seq ?_
   refine W_region_lit ?_
   refine Lq (.bool true) rfl rfl rfl rfl ?_
   refine Lq (.bool true) rfl rfl rfl rfl ?_
   refine L_nil ?_
   refine W_ret ?_
   refine ⟨_, _, res_run (rs := [.tmp 4]) (vs := [(.bool true)]) Tryz.results3 (.cons (.tmp rfl) .nil) hmk65, ?_⟩
   exact ⟨_, _, _, rfl, (hst66).keepN 0 rfl, rfl, rfl⟩
end Go.Fx.YtjpdhfhiimbpgaaGreatDoor
