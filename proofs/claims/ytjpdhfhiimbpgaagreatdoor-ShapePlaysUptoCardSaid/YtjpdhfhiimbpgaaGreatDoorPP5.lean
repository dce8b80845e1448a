/-
  Sq16, Sq17, Sp22, Sp23, Sp24, Sp25, Sq18, Sp26, Sp27, put together.
-/
import Derived.Test.YtjpdhfhiimbpgaaGreatDoorPP4
set_option linter.unusedSimpArgs false
set_option linter.unusedVariables false
namespace Go.Fx.YtjpdhfhiimbpgaaGreatDoor
open Go Go.Fx Go.Proofs
set_option maxRecDepth 20000
theorem ent_34 : Ent Tryz.prog 34 := fun _ _ => by kernel_rfl
theorem ent_37 : Ent Tryz.prog 37 := fun _ _ => by kernel_rfl
set_option maxHeartbeats 1000000 in
theorem MergeR_spec {w : World} {R c : Hp} {p : Nat} {s : TS} (a b : Int) (hs : Sats w R [c]) (htree : RefT R p s c) :
    Calls Tryz.prog 47 #[ptr p 0, int a, int b] w (Comes' w R [c] fun v' R' L' => ∃ c', v' = int (s.merge a b).1 ∧ L' = [c'] ∧ RefT R' p ((s.merge a b).2) c') := by
 obtain ⟨xs, vL, vR, cL, cX, cR, hce, hd1, hd2, hd3, hL, hX, hRs, hag, hwf, hS, hrl⟩ := htree
 have hst1 : Step w R [c] w R [uni (refB p vL vR) (tri cL cX cR)] := by have h0 := Step.refl hs; rw [hce] at h0 ⊢; exact h0
 have hst := RefT.opened hst1 hd1 hd2 hd3
 clear hst1 hce hd1 hd2 hd3
 have hlen := hS.len
 have hrv := hwf.root
 have hxl := hag.len
 refine calls_of_W (n := 75) Tryz.func47 rfl Tryz.ntmps47 (Nat.le_of_ble_eq_true rfl) ?_
 refine W_seq ?_
 refine W_region_lit ?_
 refine Lq (int 0) rfl rfl rfl rfl ?_
 refine L_nil ?_
 refine W_seq ?_
 refine W_seq ?_
 rcases Bool.eq_false_or_eq_true (thereL s.nodes a) with c1 | c1
 ·
  have q2 := thereL_iff.1 c1
  obtain ⟨an, rfl⟩ : ∃ n : Nat, a = (n : Int) := ⟨a.toNat, by omega⟩
  rcases Bool.eq_false_or_eq_true (thereL s.nodes b) with c3 | c3
  ·
   have q4 := thereL_iff.1 c3
   obtain ⟨bn, rfl⟩ : ∃ n : Nat, b = (n : Int) := ⟨b.toNat, by omega⟩
   refine W_region_draw [] (fun w => Le R (hp w) ∧ Le (one p (.cells #[vL, vR] 72 (0, 0))) (hp w) ∧ Le cL (hp w) ∧ Le cX (hp w) ∧ Le cR (hp w)) hmix (by decide +kernel) (fun _ _ h => h) ?_
   have hst6 := hst.draws (w.drawn + 1)
   generalize draws w (w.drawn + 1) = w5 at hst6 ⊢
   refine LP (ptr p 0) 0 rfl rfl rfl (fun u8 => rfl) hst6.a4 ?_
   refine LP (int (an : Int)) 1 rfl rfl rfl (fun u11 => rfl) hst6.a4 ?_
   refine LA_all [2] (by decide +kernel) (by simp) ?_
   intro i_ hi_
   simp only [List.mem_cons, List.not_mem_nil, or_false] at hi_
   subst hi_
   have hne17 := nds_xs hag.1
   have hv16 : RefV (hp w5) p (List.map Sn.sh xs) s.roots := ⟨_, _, (hst6.g 0), RdS.shape (v := vL) (OwnL.freeze hL hst6.rle' (hst6.g 1)) (LnX.read hX hst6.rle' (hst6.g 2)), OwnL.freeze (v := vR) hRs hst6.rle' (hst6.g 3), by rw [hne17]; exact hS, by rw [hne17]; exact hrv, hrl⟩
   refine One_call (i := 2) rfl rfl rfl (Want.plain rfl) (x_call (vs := #[(ptr p 0), (int (an : Int))]) rfl rfl (by kernel_rfl) ent_62) (by have h_ := (thereR_spec (an : Int) hv16 (Le.refl _)); rw [hne17] at h_; exact h_) ?_
   rintro e20 w18 ⟨rfl, hw21⟩
   have hst19 := hst6.grown hw21
   refine ⟨_, rfl, (fun _ => hst19.a4), ?_⟩
   refine LP (.bool (!(thereL s.nodes (an : Int)))) 3 rfl rfl rfl (fun u23 => rfl) hst19.a4 ?_
   refine LP (.bool (!(thereL s.nodes (an : Int)))) 4 rfl rfl rfl (fun u26 => rfl) hst19.a4 ?_
   refine LP (ptr p 0) 5 rfl rfl rfl (fun u29 => rfl) hst19.a4 ?_ (hw := (Want.of rfl rfl rfl rfl (by rw [c1]; rfl)))
   refine LP (int (bn : Int)) 6 rfl rfl rfl (fun u32 => rfl) hst19.a4 ?_ (hw := (Want.of rfl rfl rfl rfl (by rw [c1]; rfl)))
   refine LA_all [7] (by decide +kernel) (by simp) ?_
   intro i_ hi_
   simp only [List.mem_cons, List.not_mem_nil, or_false] at hi_
   subst hi_
   have hne38 := nds_xs hag.1
   have hv37 : RefV (hp w18) p (List.map Sn.sh xs) s.roots := ⟨_, _, (hst19.g 0), RdS.shape (v := vL) (OwnL.freeze hL hst19.rle' (hst19.g 1)) (LnX.read hX hst19.rle' (hst19.g 2)), OwnL.freeze (v := vR) hRs hst19.rle' (hst19.g 3), by rw [hne38]; exact hS, by rw [hne38]; exact hrv, hrl⟩
   refine One_call (i := 7) rfl rfl rfl (Want.of rfl rfl rfl rfl (by rw [c1]; rfl)) (x_call (vs := #[(ptr p 0), (int (bn : Int))]) rfl rfl (by kernel_rfl) ent_62) (by have h_ := (thereR_spec (bn : Int) hv37 (Le.refl _)); rw [hne38] at h_; exact h_) ?_
   rintro e41 w39 ⟨rfl, hw42⟩
   have hst40 := hst19.grown hw42
   refine ⟨_, rfl, (fun _ => hst40.a4), ?_⟩
   refine LP (.bool (!(thereL s.nodes (bn : Int)))) 8 rfl rfl rfl (fun u44 => rfl) hst40.a4 ?_ (hw := (Want.of rfl rfl rfl rfl (by rw [c1]; rfl)))
   refine LP (.bool (!(thereL s.nodes (bn : Int)))) 9 rfl rfl rfl (fun u47 => (x_pick rfl rfl (by rw [c1]; rfl))) hst40.a4 ?_
   refine LP (.bool (!(thereL s.nodes (bn : Int)))) 10 rfl rfl rfl (fun u50 => rfl) hst40.a4 ?_
   refine LP (ptr p 0) 11 rfl rfl rfl (fun u53 => rfl) hst40.a4 ?_ (hw := (Want.of rfl rfl rfl rfl (by rw [c3]; rfl)))
   refine LP (ptr p 0) 12 rfl rfl rfl (fun u56 => rfl) hst40.a4 ?_ (hw := (Want.of rfl rfl rfl rfl (by rw [c3]; rfl)))
   refine LP (ptr p 0) 13 rfl rfl rfl (fun u59 => (by kernel_rfl)) hst40.a4 ?_ (hw := (Want.of rfl rfl rfl rfl (by rw [c3]; rfl)))
   refine LT vL 14 rfl rfl rfl (fun u62 hF63 => (x_load rfl rfl (run_loadVar_one ti_70 (hF63.2.1 _ _ (one_self _ _)) rfl))) hst40.a4 ?_ (hw := (Want.of rfl rfl rfl rfl (by rw [c3]; rfl)))
   refine LP (int (an : Int)) 15 rfl rfl rfl (fun u65 => rfl) hst40.a4 ?_ (hw := (Want.of rfl rfl rfl rfl (by rw [c3]; rfl)))
   obtain ⟨a70, cap71, e72, hc73⟩ := hL.value
   subst e72
   obtain ⟨b74, cap75, N76, e77, hc78, hrow79, hback80⟩ := OwnL.row hL (by omega)
   obtain ⟨rfl, hl81, rfl⟩ := Value.slice.inj e77
   try rw [← hl81] at hback80
   obtain ⟨cl82, cs83, hr84, hcb85, hsg86⟩ := Row.at hrow79 an (by omega)
   obtain ⟨x87, hx88⟩ : ∃ x_, x_ = (xs[an]'(by omega)) := ⟨_, rfl⟩
   rw [← hx88] at hr84
   have hnd89 := hag.at (by omega) hx88
   have hb90 : x87.nd.names.length ≤ 1000000 := by rw [← hnd89]; exact hS.names _ _
   obtain ⟨vn91, rfl, hvn92, a93, n94, cap95, e96⟩ := tySn_open hr84
   refine LP (ptr b74 (0 + an * 4)) 16 rfl rfl rfl (fun u68 => (x_indexAddr' rfl sl_70 ti_75 rfl rfl (by omega))) hst40.a4 ?_ (hw := (Want.of rfl rfl rfl rfl (by rw [c3]; rfl)))
   refine LP (ptr b74 (0 + an * 4)) 17 rfl rfl rfl (fun u98 => (by kernel_rfl)) hst40.a4 ?_ (hw := (Want.of rfl rfl rfl rfl (by rw [c3]; rfl)))
   refine LT (int x87.nd.cls) 18 rfl rfl rfl (fun u101 hF102 => (x_load rfl rfl (run_loadVar_one ti_3 (hF102.2.2.1 _ _ hcb85) (seg_get (j := 0) hsg86 rfl)))) hst40.a4 ?_ (hw := (Want.of rfl rfl rfl rfl (by rw [c3]; rfl)))
   refine LP (ptr p 0) 19 rfl rfl rfl (fun u104 => rfl) hst40.a4 ?_ (hw := (Want.of rfl rfl rfl rfl (by rw [c3]; rfl)))
   refine LP (ptr p 0) 20 rfl rfl rfl (fun u107 => rfl) hst40.a4 ?_ (hw := (Want.of rfl rfl rfl rfl (by rw [c3]; rfl)))
   refine LP (ptr p 0) 21 rfl rfl rfl (fun u110 => (by kernel_rfl)) hst40.a4 ?_ (hw := (Want.of rfl rfl rfl rfl (by rw [c3]; rfl)))
   refine LT (.slice (some ⟨b74, 0, none⟩) xs.length cap71) 22 rfl rfl rfl (fun u113 hF114 => (x_load rfl rfl (run_loadVar_one ti_70 (hF114.2.1 _ _ (one_self _ _)) rfl))) hst40.a4 ?_ (hw := (Want.of rfl rfl rfl rfl (by rw [c3]; rfl)))
   refine LP (int (bn : Int)) 23 rfl rfl rfl (fun u116 => rfl) hst40.a4 ?_ (hw := (Want.of rfl rfl rfl rfl (by rw [c3]; rfl)))
   obtain ⟨cl121, cs122, hr123, hcb124, hsg125⟩ := Row.at hrow79 bn (by omega)
   obtain ⟨x126, hx127⟩ : ∃ x_, x_ = (xs[bn]'(by omega)) := ⟨_, rfl⟩
   rw [← hx127] at hr123
   have hnd128 := hag.at (by omega) hx127
   have hb129 : x126.nd.names.length ≤ 1000000 := by rw [← hnd128]; exact hS.names _ _
   obtain ⟨vn130, rfl, hvn131, a132, n133, cap134, e135⟩ := tySn_open hr123
   refine LP (ptr b74 (0 + bn * 4)) 24 rfl rfl rfl (fun u119 => (x_indexAddr' rfl sl_70 ti_75 rfl rfl (by omega))) hst40.a4 ?_ (hw := (Want.of rfl rfl rfl rfl (by rw [c3]; rfl)))
   refine LP (ptr b74 (0 + bn * 4)) 25 rfl rfl rfl (fun u137 => (by kernel_rfl)) hst40.a4 ?_ (hw := (Want.of rfl rfl rfl rfl (by rw [c3]; rfl)))
   refine LT (int x126.nd.cls) 26 rfl rfl rfl (fun u140 hF141 => (x_load rfl rfl (run_loadVar_one ti_3 (hF141.2.2.1 _ _ hcb124) (seg_get (j := 0) hsg125 rfl)))) hst40.a4 ?_ (hw := (Want.of rfl rfl rfl rfl (by rw [c3]; rfl)))
   refine LP (.bool (x87.nd.cls != x126.nd.cls)) 27 rfl rfl rfl (fun u143 => (by kernel_rfl)) hst40.a4 ?_ (hw := (Want.of rfl rfl rfl rfl (by rw [c3]; rfl)))
   refine LP (.bool (x87.nd.cls != x126.nd.cls)) 28 rfl rfl rfl (fun u146 => (x_pick rfl rfl (by rw [c3]; rfl))) hst40.a4 ?_
   refine LP (.bool (x87.nd.cls != x126.nd.cls)) 29 rfl rfl rfl (fun u149 => rfl) hst40.a4 ?_
   rcases Bool.eq_false_or_eq_true (x87.nd.cls != x126.nd.cls) with c152 | c152
   ·
    have q153 : ¬ x87.nd.cls = x126.nd.cls := by simpa using c152
    refine LV 30 rfl rfl rfl hst40.a4 ?_ (hw := (Want.of rfl rfl rfl rfl (by rw [c152]; rfl)))
    refine LV 31 rfl rfl rfl hst40.a4 ?_ (hw := (Want.of rfl rfl rfl rfl (by rw [c152]; rfl)))
    refine LV 32 rfl rfl rfl hst40.a4 ?_ (hw := (Want.of rfl rfl rfl rfl (by rw [c152]; rfl)))
    refine LV 33 rfl rfl rfl hst40.a4 ?_ (hw := (Want.of rfl rfl rfl rfl (by rw [c152]; rfl)))
    refine LV 34 rfl rfl rfl hst40.a4 ?_ (hw := (Want.of rfl rfl rfl rfl (by rw [c152]; rfl)))
    refine LV 35 rfl rfl rfl hst40.a4 ?_ (hw := (Want.of rfl rfl rfl rfl (by rw [c152]; rfl)))
    refine LV 36 rfl rfl rfl hst40.a4 ?_ (hw := (Want.of rfl rfl rfl rfl (by rw [c152]; rfl)))
    refine LV 37 rfl rfl rfl hst40.a4 ?_ (hw := (Want.of rfl rfl rfl rfl (by rw [c152]; rfl)))
    refine LV 38 rfl rfl rfl hst40.a4 ?_ (hw := (Want.of rfl rfl rfl rfl (by rw [c152]; rfl)))
    refine LV 39 rfl rfl rfl hst40.a4 ?_ (hw := (Want.of rfl rfl rfl rfl (by rw [c152]; rfl)))
    refine LV 40 rfl rfl rfl hst40.a4 ?_ (hw := (Want.of rfl rfl rfl rfl (by rw [c152]; rfl)))
    refine LV 41 rfl rfl rfl hst40.a4 ?_ (hw := (Want.of rfl rfl rfl rfl (by rw [c152]; rfl)))
    refine LV 42 rfl rfl rfl hst40.a4 ?_ (hw := (Want.of rfl rfl rfl rfl (by rw [c152]; rfl)))
    refine LV 43 rfl rfl rfl hst40.a4 ?_ (hw := (Want.of rfl rfl rfl rfl (by rw [c152]; rfl)))
    refine LV 44 rfl rfl rfl hst40.a4 ?_ (hw := (Want.of rfl rfl rfl rfl (by rw [c152]; rfl)))
    refine LV 45 rfl rfl rfl hst40.a4 ?_ (hw := (Want.of rfl rfl rfl rfl (by rw [c152]; rfl)))
    refine LV 46 rfl rfl rfl hst40.a4 ?_ (hw := (Want.of rfl rfl rfl rfl (by rw [c152]; rfl)))
    refine LV 47 rfl rfl rfl hst40.a4 ?_ (hw := (Want.of rfl rfl rfl rfl (by rw [c152]; rfl)))
    refine LP (.bool true) 48 rfl rfl rfl (fun u173 => (x_pick rfl rfl (by rw [c152]; rfl))) hst40.a4 ?_
    refine LA_done (by decide +kernel) ?_
    refine W_cond_true (by show Value.bool _ = _; exact congrArg Value.bool rfl) ?_
    refine W_seq ?_
    refine W_region_lit ?_
    refine Lq (int 1) rfl rfl rfl rfl ?_
    refine L_nil ?_
    refine W_ret ?_
    refine ⟨_, _, res_run (rs := [.tmp 6]) (vs := [(int 1)]) Tryz.results47 (.cons (.tmp rfl) .nil) rfl, ?_⟩
    have he := merge_diff (s := s) (a := an) (b := bn) (by omega) (by omega) (by rw [hnd89, hnd128]; unfold sameN; exact decide_eq_false (fun q_ => (show ¬ _ = _ by simpa using c152) q_.1))
    rw [he]
    obtain ⟨c', hst', htree'⟩ := RefT.close (s := s) ((((hst40.front 3 rfl rfl).front 3 rfl rfl).front 3 rfl rfl).front 3 rfl rfl) (hback80 R xs cL (by first | rfl | (simp only [List.length_set]; done) | (simp only [List.length_set]; omega) | omega) hrow79) hX hRs hag hwf hS hrl
    exact ⟨_, _, _, rfl, hst'.keepN 1 rfl, c', rfl, rfl, htree'⟩
   ·
    have q175 : x87.nd.cls = x126.nd.cls := by simpa using c152
    refine LP (ptr p 0) 30 rfl rfl rfl (fun u177 => rfl) hst40.a4 ?_ (hw := (Want.of rfl rfl rfl rfl (by rw [c152]; rfl)))
    refine LP (ptr p 0) 31 rfl rfl rfl (fun u180 => rfl) hst40.a4 ?_ (hw := (Want.of rfl rfl rfl rfl (by rw [c152]; rfl)))
    refine LP (ptr p 0) 32 rfl rfl rfl (fun u183 => (by kernel_rfl)) hst40.a4 ?_ (hw := (Want.of rfl rfl rfl rfl (by rw [c152]; rfl)))
    refine LT (.slice (some ⟨b74, 0, none⟩) xs.length cap71) 33 rfl rfl rfl (fun u186 hF187 => (x_load rfl rfl (run_loadVar_one ti_70 (hF187.2.1 _ _ (one_self _ _)) rfl))) hst40.a4 ?_ (hw := (Want.of rfl rfl rfl rfl (by rw [c152]; rfl)))
    refine LP (int (an : Int)) 34 rfl rfl rfl (fun u189 => rfl) hst40.a4 ?_ (hw := (Want.of rfl rfl rfl rfl (by rw [c152]; rfl)))
    obtain ⟨cl194, cs195, hr196, hcb197, hsg198⟩ := Row.at hrow79 an (by omega)
    rw [← hx88] at hr196
    obtain ⟨vn199, rfl, hvn200, a201, n202, cap203, e204⟩ := tySn_open hr196
    refine LP (ptr b74 (0 + an * 4)) 35 rfl rfl rfl (fun u192 => (x_indexAddr' rfl sl_70 ti_75 rfl rfl (by omega))) hst40.a4 ?_ (hw := (Want.of rfl rfl rfl rfl (by rw [c152]; rfl)))
    refine LP (ptr b74 (0 + an * 4 + 2)) 36 rfl rfl rfl (fun u206 => (by kernel_rfl)) hst40.a4 ?_ (hw := (Want.of rfl rfl rfl rfl (by rw [c152]; rfl)))
    refine LT vn199 37 rfl rfl rfl (fun u209 hF210 => (x_load rfl rfl (run_loadVar_one ti_42 (hF210.2.2.1 _ _ hcb197) (seg_get (j := 2) hsg198 rfl)))) hst40.a4 ?_ (hw := (Want.of rfl rfl rfl rfl (by rw [c152]; rfl)))
    refine LP (ptr p 0) 38 rfl rfl rfl (fun u212 => rfl) hst40.a4 ?_ (hw := (Want.of rfl rfl rfl rfl (by rw [c152]; rfl)))
    refine LP (ptr p 0) 39 rfl rfl rfl (fun u215 => rfl) hst40.a4 ?_ (hw := (Want.of rfl rfl rfl rfl (by rw [c152]; rfl)))
    refine LP (ptr p 0) 40 rfl rfl rfl (fun u218 => (by kernel_rfl)) hst40.a4 ?_ (hw := (Want.of rfl rfl rfl rfl (by rw [c152]; rfl)))
    refine LT (.slice (some ⟨b74, 0, none⟩) xs.length cap71) 41 rfl rfl rfl (fun u221 hF222 => (x_load rfl rfl (run_loadVar_one ti_70 (hF222.2.1 _ _ (one_self _ _)) rfl))) hst40.a4 ?_ (hw := (Want.of rfl rfl rfl rfl (by rw [c152]; rfl)))
    refine LP (int (bn : Int)) 42 rfl rfl rfl (fun u224 => rfl) hst40.a4 ?_ (hw := (Want.of rfl rfl rfl rfl (by rw [c152]; rfl)))
    obtain ⟨cl229, cs230, hr231, hcb232, hsg233⟩ := Row.at hrow79 bn (by omega)
    rw [← hx127] at hr231
    obtain ⟨vn234, rfl, hvn235, a236, n237, cap238, e239⟩ := tySn_open hr231
    refine LP (ptr b74 (0 + bn * 4)) 43 rfl rfl rfl (fun u227 => (x_indexAddr' rfl sl_70 ti_75 rfl rfl (by omega))) hst40.a4 ?_ (hw := (Want.of rfl rfl rfl rfl (by rw [c152]; rfl)))
    refine LP (ptr b74 (0 + bn * 4 + 2)) 44 rfl rfl rfl (fun u241 => (by kernel_rfl)) hst40.a4 ?_ (hw := (Want.of rfl rfl rfl rfl (by rw [c152]; rfl)))
    refine LT vn234 45 rfl rfl rfl (fun u244 hF245 => (x_load rfl rfl (run_loadVar_one ti_42 (hF245.2.2.1 _ _ hcb232) (seg_get (j := 2) hsg233 rfl)))) hst40.a4 ?_ (hw := (Want.of rfl rfl rfl rfl (by rw [c152]; rfl)))
    refine LA_all [46] (by decide +kernel) (by simp) ?_
    intro i_ hi_
    simp only [List.mem_cons, List.not_mem_nil, or_false] at hi_
    subst hi_
    obtain ⟨a249, cap250, e251, hc252⟩ := hvn200.shape
    subst e251
    obtain ⟨a253, cap254, e255, hc256⟩ := hvn235.shape
    subst e255
    refine One_call (i := 46) rfl rfl rfl (Want.of rfl rfl rfl rfl (by rw [c152]; rfl)) (x_call (vs := #[(.slice a249 x87.nd.names.length cap250), (.slice a253 x126.nd.names.length cap254)]) rfl rfl (by kernel_rfl) ent_23) (EqualR_spec (Le.refl _) (RdS.mono hvn200 hst40.rle') (RdS.mono hvn235 hst40.rle') (by first | omega | assumption | (simp only [List.length_append, List.length_cons, List.length_nil]; omega)) (by first | omega | assumption | (simp only [List.length_append, List.length_cons, List.length_nil]; omega))) ?_
    rintro e259 w257 ⟨rfl, hw260⟩
    have hst258 := hst40.grown hw260
    refine ⟨_, rfl, (fun _ => hst258.a4), ?_⟩
    refine LP (.bool (!(decide (x87.nd.names = x126.nd.names)))) 47 rfl rfl rfl (fun u262 => rfl) hst258.a4 ?_ (hw := (Want.of rfl rfl rfl rfl (by rw [c152]; rfl)))
    refine LP (.bool (!(decide (x87.nd.names = x126.nd.names)))) 48 rfl rfl rfl (fun u265 => (x_pick rfl rfl (by rw [c152]; rfl))) hst258.a4 ?_
    refine LA_done (by decide +kernel) ?_
    rcases Bool.eq_false_or_eq_true (decide (x87.nd.names = x126.nd.names)) with c267 | c267
    ·
     have q268 := of_decide_eq_true c267
     refine W_cond_false (by show Value.bool _ = _; exact congrArg Value.bool (by rw [c267]; rfl)) ?_
     refine W_skip ?_
     refine W_seq ?_
     refine W_region_lit ?_
     refine Lq (ptr p 0) rfl rfl rfl rfl ?_
     refine Lq (int (an : Int)) rfl rfl rfl rfl ?_
     have hne270 := nds_xs hag.1
     have hv269 : RefV (hp w257) p (List.map Sn.sh xs) s.roots := ⟨_, _, (hst258.g 0), RdS.shape (v := (.slice (some ⟨b74, 0, none⟩) xs.length cap71)) (OwnL.freeze (hback80 R xs cL (by first | rfl | (simp only [List.length_set]; done) | (simp only [List.length_set]; omega) | omega) hrow79) hst258.rle' (hst258.g 1)) (LnX.read hX hst258.rle' (hst258.g 2)), OwnL.freeze (v := vR) hRs hst258.rle' (hst258.g 3), by rw [hne270]; exact hS, by rw [hne270]; exact hrv, hrl⟩
     have hcl271 : cn s.nodes an < s.nodes.length := Cans.lt hS.can (by omega)
     have hq272 := canonN hS.can (k := an) (by omega)
     refine L_callG hst258 (v := (int (((cn s.nodes an) : Nat) : Int))) rfl rfl rfl (x_call (vs := #[(ptr p 0), (int (an : Int))]) rfl rfl (by kernel_rfl) ent_35) (by have h_ := (by have h_ := (CanonR_spec (an : Int) hv269 (Le.refl _)); rw [hne270] at h_; exact h_); rw [hq272] at h_; exact h_) (fun w273 hst274 => ?_)
     refine Lq (int (((cn s.nodes an) : Nat) : Int)) rfl rfl rfl rfl ?_
     refine L_nil ?_
     refine W_seq ?_
     refine W_region_lit ?_
     refine Lq (ptr p 0) rfl rfl rfl rfl ?_
     refine Lq (int (bn : Int)) rfl rfl rfl rfl ?_
     have hne276 := nds_xs hag.1
     have hv275 : RefV (hp w273) p (List.map Sn.sh xs) s.roots := ⟨_, _, (hst274.g 0), RdS.shape (v := (.slice (some ⟨b74, 0, none⟩) xs.length cap71)) (OwnL.freeze (hback80 R xs cL (by first | rfl | (simp only [List.length_set]; done) | (simp only [List.length_set]; omega) | omega) hrow79) hst274.rle' (hst274.g 1)) (LnX.read hX hst274.rle' (hst274.g 2)), OwnL.freeze (v := vR) hRs hst274.rle' (hst274.g 3), by rw [hne276]; exact hS, by rw [hne276]; exact hrv, hrl⟩
     have hcl277 : cn s.nodes bn < s.nodes.length := Cans.lt hS.can (by omega)
     have hq278 := canonN hS.can (k := bn) (by omega)
     refine L_callG hst274 (v := (int (((cn s.nodes bn) : Nat) : Int))) rfl rfl rfl (x_call (vs := #[(ptr p 0), (int (bn : Int))]) rfl rfl (by kernel_rfl) ent_35) (by have h_ := (by have h_ := (CanonR_spec (bn : Int) hv275 (Le.refl _)); rw [hne276] at h_; exact h_); rw [hq278] at h_; exact h_) (fun w279 hst280 => ?_)
     refine Lq (int (((cn s.nodes bn) : Nat) : Int)) rfl rfl rfl rfl ?_
     refine L_nil ?_
     refine W_seq ?_
     refine W_seq ?_
     refine W_region_lit ?_
     refine Lq (int (((cn s.nodes an) : Nat) : Int)) rfl rfl rfl rfl ?_
     refine Lq (int (((cn s.nodes bn) : Nat) : Int)) rfl rfl rfl rfl ?_
     refine Lq (.bool ((((cn s.nodes an) : Nat) : Int) != (((cn s.nodes bn) : Nat) : Int))) rfl rfl rfl (by kernel_rfl) ?_
     refine L_nil ?_
     rcases Bool.eq_false_or_eq_true ((((cn s.nodes an) : Nat) : Int) != (((cn s.nodes bn) : Nat) : Int)) with c281 | c281
     ·
      have q282 : ¬ (((cn s.nodes an) : Nat) : Int) = (((cn s.nodes bn) : Nat) : Int) := by simpa using c281
      refine W_cond_true (by show Value.bool _ = _; exact congrArg Value.bool c281) ?_
      refine W_region_lit ?_
      refine Lq (ptr p 0) rfl rfl rfl rfl ?_
      refine Lq (ptr p 0) rfl rfl rfl rfl ?_
      refine Lq (ptr p 0) rfl rfl rfl (by kernel_rfl) ?_
      refine Lq (.slice (some ⟨b74, 0, none⟩) xs.length cap71) rfl rfl rfl (x_load rfl rfl (run_loadVar_one ti_70 (hst280.b 0) rfl)) ?_
      refine Lq (int (((cn s.nodes bn) : Nat) : Int)) rfl rfl rfl rfl ?_
      refine Lq (int (((cn s.nodes an) : Nat) : Int)) rfl rfl rfl rfl ?_
      obtain ⟨cl283, cs284, hr285, hcb286, hsg287⟩ := Row.at hrow79 (cn s.nodes bn) (by omega)
      obtain ⟨x288, hx289⟩ : ∃ x_, x_ = (xs[(cn s.nodes bn)]'(by omega)) := ⟨_, rfl⟩
      rw [← hx289] at hr285
      have hnd290 := hag.at (by omega) hx289
      have hb291 : x288.nd.names.length ≤ 1000000 := by rw [← hnd290]; exact hS.names _ _
      obtain ⟨vn292, rfl, hvn293, a294, n295, cap296, e297⟩ := tySn_open hr285
      refine Lq (ptr b74 (0 + (cn s.nodes bn) * 4)) rfl rfl rfl (x_indexAddr' rfl sl_70 ti_75 rfl rfl (by omega)) ?_
      refine Lq (ptr b74 (0 + (cn s.nodes bn) * 4 + 1)) rfl rfl rfl (by kernel_rfl) ?_
      obtain ⟨c298, w299, hr300, hrow301, hst302⟩ := Row.storeG (P := Tryz.prog) (v := (int (((cn s.nodes an) : Nat) : Int))) (y := (Sn.mk { x288.nd with ali := (((cn s.nodes an) : Nat) : Int) } x288.lks x288.v)) hrow79 (hst280.front 1 rfl rfl) ti_3 (cn s.nodes bn) (by omega) 1 (by decide) rfl rfl (fun c1 h1 => by rw [← hx289] at h1; exact tySn_ali _ h1)
      refine L_skip rfl rfl (x_store rfl rfl rfl hr300) ?_
      refine L_nil ?_
      refine W_seq ?_
      refine W_region_lit ?_
      refine Lq (int 0) rfl rfl rfl rfl ?_
      refine L_nil ?_
      refine W_ret ?_
      refine ⟨_, _, res_run (rs := [.tmp 6]) (vs := [(int 0)]) Tryz.results47 (.cons (.tmp rfl) .nil) rfl, ?_⟩
      have he := merge_yes (s := s) (a := an) (b := bn) (by omega) (by omega) (by rw [hnd89, hnd128]; unfold sameN; exact decide_eq_true ⟨by simpa using c152, of_decide_eq_true c267⟩)
      rw [if_neg (by omega)] at he
      have hwf2 := hwf.setAli (a := an) (b := bn) (by omega) (by omega) (by omega)
      have hS2 := hS.setAli (a := an) (b := bn) (by omega) (by omega) (by omega)
      rw [setAli_eq (by omega)] at he hwf2 hS2
      rw [he]
      obtain ⟨c', hst', htree'⟩ := RefT.close (s := { s with nodes := s.nodes.set (cn s.nodes bn) { s.nodes[cn s.nodes bn]'(by omega) with ali := (cn s.nodes an : Int) } }) ((((hst302.front 3 rfl rfl).front 3 rfl rfl).front 2 rfl rfl).front 3 rfl rfl) (hback80 R (List.set xs (cn s.nodes bn) (Sn.mk { x288.nd with ali := (((cn s.nodes an) : Nat) : Int) } x288.lks x288.v)) c298 (by first | rfl | (simp only [List.length_set]; done) | (simp only [List.length_set]; omega) | omega) hrow301) (hX.same (by omega) (by rw [hx289]) (by rw [hx289])) hRs (hag.setAli (by omega) _ (by rw [hx289])) hwf2 hS2 hrl
      exact ⟨_, _, _, rfl, hst'.keepN 1 rfl, c', rfl, rfl, htree'⟩
     ·
      have q303 : (((cn s.nodes an) : Nat) : Int) = (((cn s.nodes bn) : Nat) : Int) := by simpa using c281
      refine W_cond_false (by show Value.bool _ = _; exact congrArg Value.bool c281) ?_
      refine W_skip ?_
      refine W_seq ?_
      refine W_region_lit ?_
      refine Lq (int 0) rfl rfl rfl rfl ?_
      refine L_nil ?_
      refine W_ret ?_
      refine ⟨_, _, res_run (rs := [.tmp 6]) (vs := [(int 0)]) Tryz.results47 (.cons (.tmp rfl) .nil) rfl, ?_⟩
      have he := merge_yes (s := s) (a := an) (b := bn) (by omega) (by omega) (by rw [hnd89, hnd128]; unfold sameN; exact decide_eq_true ⟨by simpa using c152, of_decide_eq_true c267⟩)
      rw [if_pos (by omega)] at he
      rw [he]
      obtain ⟨c', hst', htree'⟩ := RefT.close (s := s) ((((hst280.front 3 rfl rfl).front 3 rfl rfl).front 3 rfl rfl).front 3 rfl rfl) (hback80 R xs cL (by first | rfl | (simp only [List.length_set]; done) | (simp only [List.length_set]; omega) | omega) hrow79) hX hRs hag hwf hS hrl
      exact ⟨_, _, _, rfl, hst'.keepN 1 rfl, c', rfl, rfl, htree'⟩
    ·
     have q304 := of_decide_eq_false c267
     refine W_cond_true (by show Value.bool _ = _; exact congrArg Value.bool (by rw [c267]; rfl)) ?_
     refine W_seq ?_
     refine W_region_lit ?_
     refine Lq (int 1) rfl rfl rfl rfl ?_
     refine L_nil ?_
     refine W_ret ?_
     refine ⟨_, _, res_run (rs := [.tmp 6]) (vs := [(int 1)]) Tryz.results47 (.cons (.tmp rfl) .nil) rfl, ?_⟩
     have he := merge_diff (s := s) (a := an) (b := bn) (by omega) (by omega) (by rw [hnd89, hnd128]; unfold sameN; exact decide_eq_false (fun q_ => (of_decide_eq_false c267) q_.2))
     rw [he]
     obtain ⟨c', hst', htree'⟩ := RefT.close (s := s) ((((hst258.front 3 rfl rfl).front 3 rfl rfl).front 3 rfl rfl).front 3 rfl rfl) (hback80 R xs cL (by first | rfl | (simp only [List.length_set]; done) | (simp only [List.length_set]; omega) | omega) hrow79) hX hRs hag hwf hS hrl
     exact ⟨_, _, _, rfl, hst'.keepN 1 rfl, c', rfl, rfl, htree'⟩
  ·
   have q305 := thereL_not.1 c3
   refine W_region_draw [] (fun w => Le R (hp w) ∧ Le (one p (.cells #[vL, vR] 72 (0, 0))) (hp w) ∧ Le cL (hp w) ∧ Le cX (hp w) ∧ Le cR (hp w)) hmix (by decide +kernel) (fun _ _ h => h) ?_
   have hst307 := hst.draws (w.drawn + 1)
   generalize draws w (w.drawn + 1) = w306 at hst307 ⊢
   refine LP (ptr p 0) 0 rfl rfl rfl (fun u309 => rfl) hst307.a4 ?_
   refine LP (int (an : Int)) 1 rfl rfl rfl (fun u312 => rfl) hst307.a4 ?_
   refine LA_all [2] (by decide +kernel) (by simp) ?_
   intro i_ hi_
   simp only [List.mem_cons, List.not_mem_nil, or_false] at hi_
   subst hi_
   have hne318 := nds_xs hag.1
   have hv317 : RefV (hp w306) p (List.map Sn.sh xs) s.roots := ⟨_, _, (hst307.g 0), RdS.shape (v := vL) (OwnL.freeze hL hst307.rle' (hst307.g 1)) (LnX.read hX hst307.rle' (hst307.g 2)), OwnL.freeze (v := vR) hRs hst307.rle' (hst307.g 3), by rw [hne318]; exact hS, by rw [hne318]; exact hrv, hrl⟩
   refine One_call (i := 2) rfl rfl rfl (Want.plain rfl) (x_call (vs := #[(ptr p 0), (int (an : Int))]) rfl rfl (by kernel_rfl) ent_62) (by have h_ := (thereR_spec (an : Int) hv317 (Le.refl _)); rw [hne318] at h_; exact h_) ?_
   rintro e321 w319 ⟨rfl, hw322⟩
   have hst320 := hst307.grown hw322
   refine ⟨_, rfl, (fun _ => hst320.a4), ?_⟩
   refine LP (.bool (!(thereL s.nodes (an : Int)))) 3 rfl rfl rfl (fun u324 => rfl) hst320.a4 ?_
   refine LP (.bool (!(thereL s.nodes (an : Int)))) 4 rfl rfl rfl (fun u327 => rfl) hst320.a4 ?_
   refine LP (ptr p 0) 5 rfl rfl rfl (fun u330 => rfl) hst320.a4 ?_ (hw := (Want.of rfl rfl rfl rfl (by rw [c1]; rfl)))
   refine LP (int b) 6 rfl rfl rfl (fun u333 => rfl) hst320.a4 ?_ (hw := (Want.of rfl rfl rfl rfl (by rw [c1]; rfl)))
   refine LA_all [7] (by decide +kernel) (by simp) ?_
   intro i_ hi_
   simp only [List.mem_cons, List.not_mem_nil, or_false] at hi_
   subst hi_
   have hne339 := nds_xs hag.1
   have hv338 : RefV (hp w319) p (List.map Sn.sh xs) s.roots := ⟨_, _, (hst320.g 0), RdS.shape (v := vL) (OwnL.freeze hL hst320.rle' (hst320.g 1)) (LnX.read hX hst320.rle' (hst320.g 2)), OwnL.freeze (v := vR) hRs hst320.rle' (hst320.g 3), by rw [hne339]; exact hS, by rw [hne339]; exact hrv, hrl⟩
   refine One_call (i := 7) rfl rfl rfl (Want.of rfl rfl rfl rfl (by rw [c1]; rfl)) (x_call (vs := #[(ptr p 0), (int b)]) rfl rfl (by kernel_rfl) ent_62) (by have h_ := (thereR_spec b hv338 (Le.refl _)); rw [hne339] at h_; exact h_) ?_
   rintro e342 w340 ⟨rfl, hw343⟩
   have hst341 := hst320.grown hw343
   refine ⟨_, rfl, (fun _ => hst341.a4), ?_⟩
   refine LP (.bool (!(thereL s.nodes b))) 8 rfl rfl rfl (fun u345 => rfl) hst341.a4 ?_ (hw := (Want.of rfl rfl rfl rfl (by rw [c1]; rfl)))
   refine LP (.bool (!(thereL s.nodes b))) 9 rfl rfl rfl (fun u348 => (x_pick rfl rfl (by rw [c1]; rfl))) hst341.a4 ?_
   refine LP (.bool (!(thereL s.nodes b))) 10 rfl rfl rfl (fun u351 => rfl) hst341.a4 ?_
   refine LV 11 rfl rfl rfl hst341.a4 ?_ (hw := (Want.of rfl rfl rfl rfl (by rw [c3]; rfl)))
   refine LV 12 rfl rfl rfl hst341.a4 ?_ (hw := (Want.of rfl rfl rfl rfl (by rw [c3]; rfl)))
   refine LV 13 rfl rfl rfl hst341.a4 ?_ (hw := (Want.of rfl rfl rfl rfl (by rw [c3]; rfl)))
   refine LV 14 rfl rfl rfl hst341.a4 ?_ (hw := (Want.of rfl rfl rfl rfl (by rw [c3]; rfl)))
   refine LV 15 rfl rfl rfl hst341.a4 ?_ (hw := (Want.of rfl rfl rfl rfl (by rw [c3]; rfl)))
   refine LV 16 rfl rfl rfl hst341.a4 ?_ (hw := (Want.of rfl rfl rfl rfl (by rw [c3]; rfl)))
   refine LV 17 rfl rfl rfl hst341.a4 ?_ (hw := (Want.of rfl rfl rfl rfl (by rw [c3]; rfl)))
   refine LV 18 rfl rfl rfl hst341.a4 ?_ (hw := (Want.of rfl rfl rfl rfl (by rw [c3]; rfl)))
   refine LV 19 rfl rfl rfl hst341.a4 ?_ (hw := (Want.of rfl rfl rfl rfl (by rw [c3]; rfl)))
   refine LV 20 rfl rfl rfl hst341.a4 ?_ (hw := (Want.of rfl rfl rfl rfl (by rw [c3]; rfl)))
   refine LV 21 rfl rfl rfl hst341.a4 ?_ (hw := (Want.of rfl rfl rfl rfl (by rw [c3]; rfl)))
   refine LV 22 rfl rfl rfl hst341.a4 ?_ (hw := (Want.of rfl rfl rfl rfl (by rw [c3]; rfl)))
   refine LV 23 rfl rfl rfl hst341.a4 ?_ (hw := (Want.of rfl rfl rfl rfl (by rw [c3]; rfl)))
   refine LV 24 rfl rfl rfl hst341.a4 ?_ (hw := (Want.of rfl rfl rfl rfl (by rw [c3]; rfl)))
   refine LV 25 rfl rfl rfl hst341.a4 ?_ (hw := (Want.of rfl rfl rfl rfl (by rw [c3]; rfl)))
   refine LV 26 rfl rfl rfl hst341.a4 ?_ (hw := (Want.of rfl rfl rfl rfl (by rw [c3]; rfl)))
   refine LV 27 rfl rfl rfl hst341.a4 ?_ (hw := (Want.of rfl rfl rfl rfl (by rw [c3]; rfl)))
   refine LP (.bool true) 28 rfl rfl rfl (fun u371 => (x_pick rfl rfl (by rw [c3]; rfl))) hst341.a4 ?_
   refine LP (.bool true) 29 rfl rfl rfl (fun u374 => rfl) hst341.a4 ?_
   refine LV 30 rfl rfl rfl hst341.a4 ?_ (hw := (Want.of rfl rfl rfl rfl rfl))
   refine LV 31 rfl rfl rfl hst341.a4 ?_ (hw := (Want.of rfl rfl rfl rfl rfl))
   refine LV 32 rfl rfl rfl hst341.a4 ?_ (hw := (Want.of rfl rfl rfl rfl rfl))
   refine LV 33 rfl rfl rfl hst341.a4 ?_ (hw := (Want.of rfl rfl rfl rfl rfl))
   refine LV 34 rfl rfl rfl hst341.a4 ?_ (hw := (Want.of rfl rfl rfl rfl rfl))
   refine LV 35 rfl rfl rfl hst341.a4 ?_ (hw := (Want.of rfl rfl rfl rfl rfl))
   refine LV 36 rfl rfl rfl hst341.a4 ?_ (hw := (Want.of rfl rfl rfl rfl rfl))
   refine LV 37 rfl rfl rfl hst341.a4 ?_ (hw := (Want.of rfl rfl rfl rfl rfl))
   refine LV 38 rfl rfl rfl hst341.a4 ?_ (hw := (Want.of rfl rfl rfl rfl rfl))
   refine LV 39 rfl rfl rfl hst341.a4 ?_ (hw := (Want.of rfl rfl rfl rfl rfl))
   refine LV 40 rfl rfl rfl hst341.a4 ?_ (hw := (Want.of rfl rfl rfl rfl rfl))
   refine LV 41 rfl rfl rfl hst341.a4 ?_ (hw := (Want.of rfl rfl rfl rfl rfl))
   refine LV 42 rfl rfl rfl hst341.a4 ?_ (hw := (Want.of rfl rfl rfl rfl rfl))
   refine LV 43 rfl rfl rfl hst341.a4 ?_ (hw := (Want.of rfl rfl rfl rfl rfl))
   refine LV 44 rfl rfl rfl hst341.a4 ?_ (hw := (Want.of rfl rfl rfl rfl rfl))
   refine LV 45 rfl rfl rfl hst341.a4 ?_ (hw := (Want.of rfl rfl rfl rfl rfl))
   refine LV 46 rfl rfl rfl hst341.a4 ?_ (hw := (Want.of rfl rfl rfl rfl rfl))
   refine LV 47 rfl rfl rfl hst341.a4 ?_ (hw := (Want.of rfl rfl rfl rfl rfl))
   refine LP (.bool true) 48 rfl rfl rfl (fun u395 => rfl) hst341.a4 ?_
   refine LA_done (by decide +kernel) ?_
   refine W_cond_true (by show Value.bool _ = _; exact congrArg Value.bool rfl) ?_
   refine W_seq ?_
   refine W_region_lit ?_
   refine Lq (int 1) rfl rfl rfl rfl ?_
   refine L_nil ?_
   refine W_ret ?_
   refine ⟨_, _, res_run (rs := [.tmp 6]) (vs := [(int 1)]) Tryz.results47 (.cons (.tmp rfl) .nil) rfl, ?_⟩
   have he := merge_no (s := s) (a := (an : Int)) (b := b) (fun h_ => by rw [c3] at h_; exact absurd h_.2.1 (by decide))
   rw [he]
   obtain ⟨c', hst', htree'⟩ := RefT.close (s := s) ((((hst341.front 3 rfl rfl).front 3 rfl rfl).front 3 rfl rfl).front 3 rfl rfl) hL hX hRs hag hwf hS hrl
   exact ⟨_, _, _, rfl, hst'.keepN 1 rfl, c', rfl, rfl, htree'⟩
 ·
  have q397 := thereL_not.1 c1
  refine W_region_draw [] (fun w => Le R (hp w) ∧ Le (one p (.cells #[vL, vR] 72 (0, 0))) (hp w) ∧ Le cL (hp w) ∧ Le cX (hp w) ∧ Le cR (hp w)) hmix (by decide +kernel) (fun _ _ h => h) ?_
  have hst399 := hst.draws (w.drawn + 1)
  generalize draws w (w.drawn + 1) = w398 at hst399 ⊢
  refine LP (ptr p 0) 0 rfl rfl rfl (fun u401 => rfl) hst399.a4 ?_
  refine LP (int a) 1 rfl rfl rfl (fun u404 => rfl) hst399.a4 ?_
  refine LA_all [2] (by decide +kernel) (by simp) ?_
  intro i_ hi_
  simp only [List.mem_cons, List.not_mem_nil, or_false] at hi_
  subst hi_
  have hne410 := nds_xs hag.1
  have hv409 : RefV (hp w398) p (List.map Sn.sh xs) s.roots := ⟨_, _, (hst399.g 0), RdS.shape (v := vL) (OwnL.freeze hL hst399.rle' (hst399.g 1)) (LnX.read hX hst399.rle' (hst399.g 2)), OwnL.freeze (v := vR) hRs hst399.rle' (hst399.g 3), by rw [hne410]; exact hS, by rw [hne410]; exact hrv, hrl⟩
  refine One_call (i := 2) rfl rfl rfl (Want.plain rfl) (x_call (vs := #[(ptr p 0), (int a)]) rfl rfl (by kernel_rfl) ent_62) (by have h_ := (thereR_spec a hv409 (Le.refl _)); rw [hne410] at h_; exact h_) ?_
  rintro e413 w411 ⟨rfl, hw414⟩
  have hst412 := hst399.grown hw414
  refine ⟨_, rfl, (fun _ => hst412.a4), ?_⟩
  refine LP (.bool (!(thereL s.nodes a))) 3 rfl rfl rfl (fun u416 => rfl) hst412.a4 ?_
  refine LP (.bool (!(thereL s.nodes a))) 4 rfl rfl rfl (fun u419 => rfl) hst412.a4 ?_
  refine LV 5 rfl rfl rfl hst412.a4 ?_ (hw := (Want.of rfl rfl rfl rfl (by rw [c1]; rfl)))
  refine LV 6 rfl rfl rfl hst412.a4 ?_ (hw := (Want.of rfl rfl rfl rfl (by rw [c1]; rfl)))
  refine LV 7 rfl rfl rfl hst412.a4 ?_ (hw := (Want.of rfl rfl rfl rfl (by rw [c1]; rfl)))
  refine LV 8 rfl rfl rfl hst412.a4 ?_ (hw := (Want.of rfl rfl rfl rfl (by rw [c1]; rfl)))
  refine LP (.bool true) 9 rfl rfl rfl (fun u426 => (x_pick rfl rfl (by rw [c1]; rfl))) hst412.a4 ?_
  refine LP (.bool true) 10 rfl rfl rfl (fun u429 => rfl) hst412.a4 ?_
  refine LV 11 rfl rfl rfl hst412.a4 ?_ (hw := (Want.of rfl rfl rfl rfl rfl))
  refine LV 12 rfl rfl rfl hst412.a4 ?_ (hw := (Want.of rfl rfl rfl rfl rfl))
  refine LV 13 rfl rfl rfl hst412.a4 ?_ (hw := (Want.of rfl rfl rfl rfl rfl))
  refine LV 14 rfl rfl rfl hst412.a4 ?_ (hw := (Want.of rfl rfl rfl rfl rfl))
  refine LV 15 rfl rfl rfl hst412.a4 ?_ (hw := (Want.of rfl rfl rfl rfl rfl))
  refine LV 16 rfl rfl rfl hst412.a4 ?_ (hw := (Want.of rfl rfl rfl rfl rfl))
  refine LV 17 rfl rfl rfl hst412.a4 ?_ (hw := (Want.of rfl rfl rfl rfl rfl))
  refine LV 18 rfl rfl rfl hst412.a4 ?_ (hw := (Want.of rfl rfl rfl rfl rfl))
  refine LV 19 rfl rfl rfl hst412.a4 ?_ (hw := (Want.of rfl rfl rfl rfl rfl))
  refine LV 20 rfl rfl rfl hst412.a4 ?_ (hw := (Want.of rfl rfl rfl rfl rfl))
  refine LV 21 rfl rfl rfl hst412.a4 ?_ (hw := (Want.of rfl rfl rfl rfl rfl))
  refine LV 22 rfl rfl rfl hst412.a4 ?_ (hw := (Want.of rfl rfl rfl rfl rfl))
  refine LV 23 rfl rfl rfl hst412.a4 ?_ (hw := (Want.of rfl rfl rfl rfl rfl))
  refine LV 24 rfl rfl rfl hst412.a4 ?_ (hw := (Want.of rfl rfl rfl rfl rfl))
  refine LV 25 rfl rfl rfl hst412.a4 ?_ (hw := (Want.of rfl rfl rfl rfl rfl))
  refine LV 26 rfl rfl rfl hst412.a4 ?_ (hw := (Want.of rfl rfl rfl rfl rfl))
  refine LV 27 rfl rfl rfl hst412.a4 ?_ (hw := (Want.of rfl rfl rfl rfl rfl))
  refine LP (.bool true) 28 rfl rfl rfl (fun u449 => rfl) hst412.a4 ?_
  refine LP (.bool true) 29 rfl rfl rfl (fun u452 => rfl) hst412.a4 ?_
  refine LV 30 rfl rfl rfl hst412.a4 ?_ (hw := (Want.of rfl rfl rfl rfl rfl))
  refine LV 31 rfl rfl rfl hst412.a4 ?_ (hw := (Want.of rfl rfl rfl rfl rfl))
  refine LV 32 rfl rfl rfl hst412.a4 ?_ (hw := (Want.of rfl rfl rfl rfl rfl))
  refine LV 33 rfl rfl rfl hst412.a4 ?_ (hw := (Want.of rfl rfl rfl rfl rfl))
  refine LV 34 rfl rfl rfl hst412.a4 ?_ (hw := (Want.of rfl rfl rfl rfl rfl))
  refine LV 35 rfl rfl rfl hst412.a4 ?_ (hw := (Want.of rfl rfl rfl rfl rfl))
  refine LV 36 rfl rfl rfl hst412.a4 ?_ (hw := (Want.of rfl rfl rfl rfl rfl))
  refine LV 37 rfl rfl rfl hst412.a4 ?_ (hw := (Want.of rfl rfl rfl rfl rfl))
  refine LV 38 rfl rfl rfl hst412.a4 ?_ (hw := (Want.of rfl rfl rfl rfl rfl))
  refine LV 39 rfl rfl rfl hst412.a4 ?_ (hw := (Want.of rfl rfl rfl rfl rfl))
  refine LV 40 rfl rfl rfl hst412.a4 ?_ (hw := (Want.of rfl rfl rfl rfl rfl))
  refine LV 41 rfl rfl rfl hst412.a4 ?_ (hw := (Want.of rfl rfl rfl rfl rfl))
  refine LV 42 rfl rfl rfl hst412.a4 ?_ (hw := (Want.of rfl rfl rfl rfl rfl))
  refine LV 43 rfl rfl rfl hst412.a4 ?_ (hw := (Want.of rfl rfl rfl rfl rfl))
  refine LV 44 rfl rfl rfl hst412.a4 ?_ (hw := (Want.of rfl rfl rfl rfl rfl))
  refine LV 45 rfl rfl rfl hst412.a4 ?_ (hw := (Want.of rfl rfl rfl rfl rfl))
  refine LV 46 rfl rfl rfl hst412.a4 ?_ (hw := (Want.of rfl rfl rfl rfl rfl))
  refine LV 47 rfl rfl rfl hst412.a4 ?_ (hw := (Want.of rfl rfl rfl rfl rfl))
  refine LP (.bool true) 48 rfl rfl rfl (fun u473 => rfl) hst412.a4 ?_
  refine LA_done (by decide +kernel) ?_
  refine W_cond_true (by show Value.bool _ = _; exact congrArg Value.bool rfl) ?_
  refine W_seq ?_
  refine W_region_lit ?_
  refine Lq (int 1) rfl rfl rfl rfl ?_
  refine L_nil ?_
  refine W_ret ?_
  refine ⟨_, _, res_run (rs := [.tmp 6]) (vs := [(int 1)]) Tryz.results47 (.cons (.tmp rfl) .nil) rfl, ?_⟩
  have he := merge_no (s := s) (a := a) (b := b) (fun h_ => by rw [c1] at h_; exact absurd h_.1 (by decide))
  rw [he]
  obtain ⟨c', hst', htree'⟩ := RefT.close (s := s) ((((hst412.front 3 rfl rfl).front 3 rfl rfl).front 3 rfl rfl).front 3 rfl rfl) hL hX hRs hag hwf hS hrl
  exact ⟨_, _, _, rfl, hst'.keepN 1 rfl, c', rfl, rfl, htree'⟩
set_option maxHeartbeats 1000000 in
theorem MakeR_spec {w : World} {R c : Hp} {p : Nat} {s : TS} {v : Value} (cls : Int) (names : List Str) (hs : Sats w R [c]) (htree : RefT R p s c) (hv : RdS Ty.str R v names) (hl : names.length ≤ 2000000) (hmx : s.nodes.length ≤ 900000) :
    Calls Tryz.prog 49 #[ptr p 0, int cls, v] w (Comes' w R [c] fun v' R' L' => ∃ c', v' = .tuple #[int (s.make cls names).1, int (s.make cls names).2.1] ∧ L' = [c'] ∧ RefT R' p ((s.make cls names).2.2) c') := by
 obtain ⟨xs, vL, vR, cL, cX, cR, hce, hd1, hd2, hd3, hL, hX, hRs, hag, hwf, hS, hrl⟩ := htree
 have hst1 : Step w R [c] w R [uni (refB p vL vR) (tri cL cX cR)] := by have h0 := Step.refl hs; rw [hce] at h0 ⊢; exact h0
 have hst := RefT.opened hst1 hd1 hd2 hd3
 clear hst1 hce hd1 hd2 hd3
 have hlen := hS.len
 have hrv := hwf.root
 have hxl := hag.len
 refine calls_of_W (n := 103) Tryz.func49 rfl Tryz.ntmps49 (Nat.le_of_ble_eq_true rfl) ?_
 refine W_seq ?_
 refine W_region_lit ?_
 refine Lq (int 0) rfl rfl rfl rfl ?_
 refine Lq (int 0) rfl rfl rfl rfl ?_
 refine L_nil ?_
 refine W_seq ?_
 refine W_seq ?_
 refine W_region_lit ?_
 refine Lq (int cls) rfl rfl rfl rfl ?_
 refine Lq (.bool (decide (cls < 0))) rfl rfl rfl (by kernel_rfl) ?_
 refine Lq (.bool (decide (cls < 0))) rfl rfl rfl rfl ?_
 rcases Bool.eq_false_or_eq_true (decide (cls < 0)) with c1 | c1
 ·
  have q2 := of_decide_eq_true c1
  refine L_unwanted rfl rfl rfl rfl (by rw [c1]; try rfl) rfl rfl ?_
  refine L_unwanted rfl rfl rfl rfl (by rw [c1]; try rfl) rfl rfl ?_
  refine L_unwanted rfl rfl rfl rfl (by rw [c1]; try rfl) rfl rfl ?_
  refine L_unwanted rfl rfl rfl rfl (by rw [c1]; try rfl) rfl rfl ?_
  refine L_unwanted rfl rfl rfl rfl (by rw [c1]; try rfl) rfl rfl ?_
  refine L_unwanted rfl rfl rfl rfl (by rw [c1]; try rfl) rfl rfl ?_
  refine L_unwanted rfl rfl rfl rfl (by rw [c1]; try rfl) rfl rfl ?_
  refine Lq (.bool true) rfl rfl rfl (x_pick rfl rfl (by rw [c1]; rfl)) ?_
  refine Lq (.bool true) rfl rfl rfl rfl ?_
  refine L_unwanted rfl rfl rfl rfl rfl rfl rfl ?_
  refine L_unwanted rfl rfl rfl rfl rfl rfl rfl ?_
  refine L_unwanted rfl rfl rfl rfl rfl rfl rfl ?_
  refine Lq (.bool true) rfl rfl rfl rfl ?_
  refine L_nil ?_
  refine W_cond_true (by show Value.bool _ = _; exact congrArg Value.bool rfl) ?_
  refine W_seq ?_
  refine W_region_lit ?_
  refine Lq (int 0) rfl rfl rfl rfl ?_
  refine Lq (int 1) rfl rfl rfl rfl ?_
  refine L_nil ?_
  refine W_ret ?_
  refine ⟨_, _, res_run (rs := [.tmp 6, .tmp 7]) (vs := [(int 0), (int 1)]) Tryz.results49 (.cons (.tmp rfl) (.cons (.tmp rfl) .nil)) rfl, ?_⟩
  have he := make_arg (s := s) (cls := cls) (names := names) (by first | exact .inl (by omega) | exact .inr (.inl (by omega)) | exact .inr (.inr (.inl (by omega))))
  rw [he]
  obtain ⟨c', hst', htree'⟩ := RefT.close (s := s) ((((hst.front 3 rfl rfl).front 3 rfl rfl).front 3 rfl rfl).front 3 rfl rfl) hL hX hRs hag hwf hS hrl
  exact ⟨_, _, _, rfl, hst'.keepN 1 rfl, c', rfl, rfl, htree'⟩
 ·
  have q3 := of_decide_eq_false c1
  refine L_guard rfl rfl rfl rfl c1 ?_
  refine Lq (int cls) rfl rfl rfl rfl ?_
  refine L_guard rfl rfl rfl rfl c1 ?_
  refine Lq (ptr p 0) rfl rfl rfl rfl ?_
  refine L_guard rfl rfl rfl rfl c1 ?_
  refine Lq (ptr p 0) rfl rfl rfl rfl ?_
  refine L_guard rfl rfl rfl rfl c1 ?_
  refine Lq (ptr p 1) rfl rfl rfl (by kernel_rfl) ?_
  refine L_guard rfl rfl rfl rfl c1 ?_
  refine Lq vR rfl rfl rfl (x_load rfl rfl (run_loadVar_one ti_62 (hst.b 0) rfl)) ?_
  refine L_guard rfl rfl rfl rfl c1 ?_
  obtain ⟨a4, cap5, e6, hc7⟩ := hRs.value
  subst e6
  refine Lq (int (s.roots.length : Int)) rfl rfl rfl (x_len_slice rfl sl_62 rfl) ?_
  refine L_guard rfl rfl rfl rfl c1 ?_
  refine Lq (.bool (decide (cls ≥ (s.roots.length : Int)))) rfl rfl rfl (by kernel_rfl) ?_
  refine Lq (.bool (decide (cls ≥ (s.roots.length : Int)))) rfl rfl rfl (x_pick rfl rfl (by rw [c1]; rfl)) ?_
  refine Lq (.bool (decide (cls ≥ (s.roots.length : Int)))) rfl rfl rfl rfl ?_
  rcases Bool.eq_false_or_eq_true (decide (cls ≥ (s.roots.length : Int))) with c8 | c8
  ·
   have q9 := of_decide_eq_true c8
   refine L_unwanted rfl rfl rfl rfl (by rw [c8]; try rfl) rfl rfl ?_
   refine L_unwanted rfl rfl rfl rfl (by rw [c8]; try rfl) rfl rfl ?_
   refine L_unwanted rfl rfl rfl rfl (by rw [c8]; try rfl) rfl rfl ?_
   refine Lq (.bool true) rfl rfl rfl (x_pick rfl rfl (by rw [c8]; rfl)) ?_
   refine L_nil ?_
   refine W_cond_true (by show Value.bool _ = _; exact congrArg Value.bool rfl) ?_
   refine W_seq ?_
   refine W_region_lit ?_
   refine Lq (int 0) rfl rfl rfl rfl ?_
   refine Lq (int 1) rfl rfl rfl rfl ?_
   refine L_nil ?_
   refine W_ret ?_
   refine ⟨_, _, res_run (rs := [.tmp 6, .tmp 7]) (vs := [(int 0), (int 1)]) Tryz.results49 (.cons (.tmp rfl) (.cons (.tmp rfl) .nil)) rfl, ?_⟩
   have he := make_arg (s := s) (cls := cls) (names := names) (by first | exact .inl (by omega) | exact .inr (.inl (by omega)) | exact .inr (.inr (.inl (by omega))))
   rw [he]
   obtain ⟨c', hst', htree'⟩ := RefT.close (s := s) ((((hst.front 3 rfl rfl).front 3 rfl rfl).front 3 rfl rfl).front 3 rfl rfl) hL hX hRs hag hwf hS hrl
   exact ⟨_, _, _, rfl, hst'.keepN 1 rfl, c', rfl, rfl, htree'⟩
  ·
   have q10 := of_decide_eq_false c8
   refine L_guard rfl rfl rfl rfl c8 ?_
   refine Lq v rfl rfl rfl rfl ?_
   refine L_guard rfl rfl rfl rfl c8 ?_
   obtain ⟨a11, cap12, e13, hc14⟩ := hv.shape
   subst e13
   refine Lq (int (names.length : Int)) rfl rfl rfl (x_len_slice rfl sl_42 rfl) ?_
   refine L_guard rfl rfl rfl rfl c8 ?_
   refine Lq (.bool (decide ((names.length : Int) > 64))) rfl rfl rfl (by kernel_rfl) ?_
   refine Lq (.bool (decide ((names.length : Int) > 64))) rfl rfl rfl (x_pick rfl rfl (by rw [c8]; rfl)) ?_
   refine L_nil ?_
   rcases Bool.eq_false_or_eq_true (decide ((names.length : Int) > 64)) with c15 | c15
   ·
    have q16 := of_decide_eq_true c15
    refine W_cond_true (by show Value.bool _ = _; exact congrArg Value.bool c15) ?_
    refine W_seq ?_
    refine W_region_lit ?_
    refine Lq (int 0) rfl rfl rfl rfl ?_
    refine Lq (int 1) rfl rfl rfl rfl ?_
    refine L_nil ?_
    refine W_ret ?_
    refine ⟨_, _, res_run (rs := [.tmp 6, .tmp 7]) (vs := [(int 0), (int 1)]) Tryz.results49 (.cons (.tmp rfl) (.cons (.tmp rfl) .nil)) rfl, ?_⟩
    have he := make_arg (s := s) (cls := cls) (names := names) (by first | exact .inl (by omega) | exact .inr (.inl (by omega)) | exact .inr (.inr (.inl (by omega))))
    rw [he]
    obtain ⟨c', hst', htree'⟩ := RefT.close (s := s) ((((hst.front 3 rfl rfl).front 3 rfl rfl).front 3 rfl rfl).front 3 rfl rfl) hL hX hRs hag hwf hS hrl
    exact ⟨_, _, _, rfl, hst'.keepN 1 rfl, c', rfl, rfl, htree'⟩
   ·
    have q17 := of_decide_eq_false c15
    refine W_cond_false (by show Value.bool _ = _; exact congrArg Value.bool c15) ?_
    refine W_skip ?_
    refine W_seq ?_
    refine W_seq ?_
    refine W_region_lit ?_
    refine Lq (int 0) rfl rfl rfl rfl ?_
    refine L_nil ?_
    refine W_block ?_
    refine W_loop (I := fun σ w_ m_ => ∃ (σ0 : Fr) (i_ : Nat), σ = upd (upd (upd (upd (upd (upd (upd (upd (upd (upd (upd (upd (upd (upd (upd (upd (upd (upd (upd (upd σ0 0 (ptr p 0)) 1 (int cls)) 2 (.slice a11 names.length cap12)) 8 (int (i_ : Int))) 13 (int cls)) 14 (.bool (decide (cls < 0)))) 15 (.bool (decide (cls < 0)))) 16 (int cls)) 17 (ptr p 0)) 18 (ptr p 0)) 19 (ptr p 1)) 20 (.slice a4 s.roots.length cap5)) 21 (int (s.roots.length : Int))) 22 (.bool (decide (cls ≥ (s.roots.length : Int))))) 23 (.bool (decide (cls ≥ (s.roots.length : Int))))) 24 (.bool (decide (cls ≥ (s.roots.length : Int))))) 25 (.slice a11 names.length cap12)) 26 (int (names.length : Int))) 27 (.bool (decide ((names.length : Int) > 64)))) 28 (.bool (decide ((names.length : Int) > 64))) ∧ mks (σ0 0) = [] ∧ Step w R [c] w_ R [one p (.cells #[vL, (.slice a4 s.roots.length cap5)] 72 (0, 0)), cL, cX, cR] ∧ i_ ≤ names.length ∧ okP names i_ = true ∧ m_ = names.length - i_) (m := names.length - 0) ?_ ?_
    ·
     exact ⟨_, 0, (upd_of (upd_of (upd_of (upd_of (upd_of (upd_of (upd_of (upd_of (upd_of (upd_of (upd_of (upd_of (upd_of (upd_of (upd_of (upd_of (upd_of (upd_of (upd_of (upd_of rfl rfl) rfl) rfl) rfl) rfl) rfl) rfl) rfl) rfl) rfl) rfl) rfl) rfl) rfl) rfl) rfl) rfl) rfl) rfl) rfl), rfl, ((((hst.front 3 rfl rfl).front 3 rfl rfl).front 3 rfl rfl).front 3 rfl rfl), (by omega), (okP_start (by omega)), rfl⟩
    ·
     rintro m26 σ_ w20 ⟨s24, i_25, rfl, hmk18, hst19, hf22, hf23, rfl⟩
     refine W_seq ?_
     refine W_seq ?_
     refine W_region_lit ?_
     refine Lq (int (i_25 : Int)) rfl rfl rfl rfl ?_
     refine Lq (.slice a11 names.length cap12) rfl rfl rfl rfl ?_
     refine Lq (int (names.length : Int)) rfl rfl rfl (x_len_slice rfl sl_42 rfl) ?_
     refine Lq (.bool (decide ((i_25 : Int) < (names.length : Int)))) rfl rfl rfl (by kernel_rfl) ?_
     refine L_nil ?_
     rcases Bool.eq_false_or_eq_true (decide ((i_25 : Int) < (names.length : Int))) with c27 | c27
     ·
      have q28 := of_decide_eq_true c27
      refine W_cond_true (by show Value.bool _ = _; exact congrArg Value.bool c27) ?_
      refine W_skip ?_
      refine W_seq ?_
      refine W_block ?_
      refine W_seq ?_
      refine W_seq ?_
      refine W_region_lit ?_
      refine Lq (int 0) rfl rfl rfl rfl ?_
      refine L_nil ?_
      refine W_block ?_
      refine W_loop (I := fun σ w_ m_ => ∃ (σ0 : Fr) (j_ : Nat), σ = upd (upd (upd (upd (upd (upd (upd (upd (upd (upd (upd (upd (upd (upd (upd (upd (upd (upd (upd (upd (upd (upd (upd (upd (upd σ0 0 (ptr p 0)) 1 (int cls)) 2 (.slice a11 names.length cap12)) 8 (int (i_25 : Int))) 9 (int (j_ : Int))) 13 (int cls)) 14 (.bool (decide (cls < 0)))) 15 (.bool (decide (cls < 0)))) 16 (int cls)) 17 (ptr p 0)) 18 (ptr p 0)) 19 (ptr p 1)) 20 (.slice a4 s.roots.length cap5)) 21 (int (s.roots.length : Int))) 22 (.bool (decide (cls ≥ (s.roots.length : Int))))) 23 (.bool (decide (cls ≥ (s.roots.length : Int))))) 24 (.bool (decide (cls ≥ (s.roots.length : Int))))) 25 (.slice a11 names.length cap12)) 26 (int (names.length : Int))) 27 (.bool (decide ((names.length : Int) > 64)))) 28 (.bool (decide ((names.length : Int) > 64)))) 29 (int (i_25 : Int))) 30 (.slice a11 names.length cap12)) 31 (int (names.length : Int))) 32 (.bool (decide ((i_25 : Int) < (names.length : Int)))) ∧ mks (σ0 0) = [] ∧ Step w R [c] w_ R [one p (.cells #[vL, (.slice a4 s.roots.length cap5)] 72 (0, 0)), cL, cX, cR] ∧ j_ ≤ i_25 ∧ (∀ i (hi : i < names.length), i < j_ → ¬ names[i] = (names[i_25]'(by omega))) ∧ m_ = i_25 - j_) (m := i_25 - 0) ?_ ?_
      ·
       exact ⟨_, 0, (upd_of (upd_of (upd_of (upd_of (upd_of (upd_of (upd_of (upd_of (upd_of (upd_of (upd_of (upd_of (upd_of (upd_of (upd_of (upd_of (upd_of (upd_of (upd_of (upd_of (upd_of (upd_of (upd_of (upd_of (upd_of rfl rfl) rfl) rfl) rfl) rfl) rfl) rfl) rfl) rfl) rfl) rfl) rfl) rfl) rfl) rfl) rfl) rfl) rfl) rfl) rfl) rfl) rfl) rfl) rfl) rfl), hmk18, ((((hst19.front 3 rfl rfl).front 3 rfl rfl).front 3 rfl rfl).front 3 rfl rfl), (by omega), (fun i hi h => absurd h (by omega)), rfl⟩
      ·
       rintro m37 σ_ w31 ⟨s35, j_36, rfl, hmk29, hst30, hf33, hf34, rfl⟩
       refine W_seq ?_
       refine W_seq ?_
       refine W_region_lit ?_
       refine Lq (int (j_36 : Int)) rfl rfl rfl rfl ?_
       refine Lq (int (i_25 : Int)) rfl rfl rfl rfl ?_
       refine Lq (.bool (decide ((j_36 : Int) < (i_25 : Int)))) rfl rfl rfl (by kernel_rfl) ?_
       refine L_nil ?_
       rcases Bool.eq_false_or_eq_true (decide ((j_36 : Int) < (i_25 : Int))) with c38 | c38
       ·
        have q39 := of_decide_eq_true c38
        refine W_cond_true (by show Value.bool _ = _; exact congrArg Value.bool c38) ?_
        refine W_skip ?_
        refine W_seq ?_
        refine W_block ?_
        refine W_seq ?_
        refine W_region_draw [] (fun w => Le R (hp w)) hmix (by decide +kernel) (fun _ _ h => h) ?_
        have hst41 := hst30.draws (w31.drawn + 1)
        generalize draws w31 (w31.drawn + 1) = w40 at hst41 ⊢
        refine LP (.slice a11 names.length cap12) 0 rfl rfl rfl (fun u43 => rfl) hst41.rle' ?_
        refine LP (int (j_36 : Int)) 1 rfl rfl rfl (fun u46 => rfl) hst41.rle' ?_
        obtain ⟨b51, off52, cap53, cs54, T55, fz56, e57, hc58, hb59, he60⟩ := hv.open (by omega)
        cases e57
        obtain ⟨cl61, hs62, hr63⟩ := he60.at j_36 (by omega)
        have hx64 : cl61 = [.string (names[j_36]'(by omega))] := hr63
        subst hx64
        refine LP (ptr b51 (off52 + j_36 * 1)) 2 rfl rfl rfl (fun u49 => (x_indexAddr' rfl sl_42 ti_9 rfl rfl (by omega))) hst41.rle' ?_
        refine LT (.string (names[j_36]'(by omega))) 3 rfl rfl rfl (fun u66 hF67 => (x_load rfl rfl (run_loadVar_one ti_9 (hF67 _ _ hb59) (seg_get (j := 0) hs62 rfl)))) hst41.rle' ?_
        refine LP (.slice (some ⟨b51, off52, none⟩) names.length cap12) 4 rfl rfl rfl (fun u69 => rfl) hst41.rle' ?_
        refine LP (int (i_25 : Int)) 5 rfl rfl rfl (fun u72 => rfl) hst41.rle' ?_
        obtain ⟨cl77, hs78, hr79⟩ := he60.at i_25 (by omega)
        have hx80 : cl77 = [.string (names[i_25]'(by omega))] := hr79
        subst hx80
        refine LP (ptr b51 (off52 + i_25 * 1)) 6 rfl rfl rfl (fun u75 => (x_indexAddr' rfl sl_42 ti_9 rfl rfl (by omega))) hst41.rle' ?_
        refine LT (.string (names[i_25]'(by omega))) 7 rfl rfl rfl (fun u82 hF83 => (x_load rfl rfl (run_loadVar_one ti_9 (hF83 _ _ hb59) (seg_get (j := 0) hs78 rfl)))) hst41.rle' ?_
        refine LP (.bool (decide ((names[j_36]'(by omega)) = (names[i_25]'(by omega))))) 8 rfl rfl rfl (fun u85 => (x_eqlD rfl rfl rfl)) hst41.rle' ?_
        refine LA_done (by decide +kernel) ?_
        rcases Bool.eq_false_or_eq_true (decide ((names[j_36]'(by omega)) = (names[i_25]'(by omega)))) with c87 | c87
        ·
         have q88 := of_decide_eq_true c87
         refine W_cond_true (by show Value.bool _ = _; exact congrArg Value.bool c87) ?_
         refine W_seq ?_
         refine W_region_lit ?_
         refine Lq (int 0) rfl rfl rfl rfl ?_
         refine Lq (int 1) rfl rfl rfl rfl ?_
         refine L_nil ?_
         refine W_ret ?_
         refine ⟨_, _, res_run (rs := [.tmp 6, .tmp 7]) (vs := [(int 0), (int 1)]) Tryz.results49 (.cons (.tmp rfl) (.cons (.tmp rfl) .nil)) hmk29, ?_⟩
         have he := make_arg (s := s) (cls := cls) (names := names) (.inr (.inr (.inr (.inl (dup_arg (j := j_36) (i := i_25) (by omega) (by omega) (of_decide_eq_true c87))))))
         rw [he]
         obtain ⟨c', hst', htree'⟩ := RefT.close (s := s) ((((hst41.front 3 rfl rfl).front 3 rfl rfl).front 3 rfl rfl).front 3 rfl rfl) hL hX hRs hag hwf hS hrl
         exact ⟨_, _, _, rfl, hst'.keepN 1 rfl, c', rfl, rfl, htree'⟩
        ·
         have q89 := of_decide_eq_false c87
         refine W_cond_false (by show Value.bool _ = _; exact congrArg Value.bool c87) ?_
         refine W_skip ?_
         refine W_region_lit ?_
         refine Lq (int (j_36 : Int)) rfl rfl rfl rfl ?_
         refine Lq (int ((j_36 + 1 : Nat) : Int)) rfl rfl rfl (x_add_nat rfl rfl rfl (by omega)) ?_
         refine Lq (int ((j_36 + 1 : Nat) : Int)) rfl rfl rfl rfl ?_
         refine L_nil ?_
         refine ⟨i_25 - (j_36 + 1), by first | omega | (simp only [List.length_append, List.length_cons, List.length_nil]; omega), ?_⟩
         exact ⟨_, (j_36 + 1), (upd_of (upd_of (upd_of (upd_of (upd_of (upd_of (upd_of (upd_of (upd_of (upd_of (upd_of (upd_of (upd_of (upd_of (upd_of (upd_of (upd_of (upd_of (upd_of (upd_of (upd_of (upd_of (upd_of (upd_of (upd_of rfl rfl) rfl) rfl) rfl) rfl) rfl) rfl) rfl) rfl) rfl) rfl) rfl) rfl) rfl) rfl) rfl) rfl) rfl) rfl) rfl) rfl) rfl) rfl) rfl) rfl), hmk29, ((((hst41.front 3 rfl rfl).front 3 rfl rfl).front 3 rfl rfl).front 3 rfl rfl), (by omega), (dupS (hj := by omega) hf34 (of_decide_eq_false c87)), rfl⟩
       ·
        have q90 := of_decide_eq_false c38
        refine W_cond_false (by show Value.bool _ = _; exact congrArg Value.bool c38) ?_
        refine W_exit ?_
        refine W_seq ?_
        refine W_region_lit ?_
        refine Lq (.slice a11 names.length cap12) rfl rfl rfl rfl ?_
        refine Lq (int (i_25 : Int)) rfl rfl rfl rfl ?_
        obtain ⟨b91, off92, cap93, cs94, T95, fz96, e97, hc98, hb99, he100⟩ := hv.open (by omega)
        cases e97
        obtain ⟨cl101, hs102, hr103⟩ := he100.at i_25 (by omega)
        have hx104 : cl101 = [.string (names[i_25]'(by omega))] := hr103
        subst hx104
        refine Lq (ptr b91 (off92 + i_25 * 1)) rfl rfl rfl (x_indexAddr' rfl sl_42 ti_9 rfl rfl (by omega)) ?_
        refine Lq (.string (names[i_25]'(by omega))) rfl rfl rfl (x_load rfl rfl (run_loadVar_one ti_9 (hst30.rle' _ _ hb99) (seg_get (j := 0) hs102 rfl))) ?_
        refine Lq (.bool (decide ((names[i_25]'(by omega)) = ⟨#[]⟩))) rfl rfl rfl (x_eqlD rfl rfl rfl) ?_
        refine L_nil ?_
        rcases Bool.eq_false_or_eq_true (decide ((names[i_25]'(by omega)) = ⟨#[]⟩)) with c105 | c105
        ·
         have q106 := of_decide_eq_true c105
         refine W_cond_true (by show Value.bool _ = _; exact congrArg Value.bool c105) ?_
         refine W_seq ?_
         refine W_region_lit ?_
         refine Lq (int 0) rfl rfl rfl rfl ?_
         refine Lq (int 1) rfl rfl rfl rfl ?_
         refine L_nil ?_
         refine W_ret ?_
         refine ⟨_, _, res_run (rs := [.tmp 6, .tmp 7]) (vs := [(int 0), (int 1)]) Tryz.results49 (.cons (.tmp rfl) (.cons (.tmp rfl) .nil)) hmk29, ?_⟩
         have he := make_arg (s := s) (cls := cls) (names := names) (.inr (.inr (.inr (.inr (by have e_ : eStr = names[i_25]'(by omega) := (of_decide_eq_true c105).symm; rw [e_]; exact List.getElem_mem _)))))
         rw [he]
         obtain ⟨c', hst', htree'⟩ := RefT.close (s := s) ((((hst30.front 3 rfl rfl).front 3 rfl rfl).front 3 rfl rfl).front 3 rfl rfl) hL hX hRs hag hwf hS hrl
         exact ⟨_, _, _, rfl, hst'.keepN 1 rfl, c', rfl, rfl, htree'⟩
        ·
         have q107 := of_decide_eq_false c105
         refine W_cond_false (by show Value.bool _ = _; exact congrArg Value.bool c105) ?_
         refine W_skip ?_
         refine W_region_lit ?_
         refine Lq (int (i_25 : Int)) rfl rfl rfl rfl ?_
         refine Lq (int ((i_25 + 1 : Nat) : Int)) rfl rfl rfl (x_add_nat rfl rfl rfl (by omega)) ?_
         refine Lq (int ((i_25 + 1 : Nat) : Int)) rfl rfl rfl rfl ?_
         refine L_nil ?_
         refine ⟨names.length - (i_25 + 1), by first | omega | (simp only [List.length_append, List.length_cons, List.length_nil]; omega), ?_⟩
         exact ⟨_, (i_25 + 1), (upd_of (upd_of (upd_of (upd_of (upd_of (upd_of (upd_of (upd_of (upd_of (upd_of (upd_of (upd_of (upd_of (upd_of (upd_of (upd_of (upd_of (upd_of (upd_of (upd_of rfl rfl) rfl) rfl) rfl) rfl) rfl) rfl) rfl) rfl) rfl) rfl) rfl) rfl) rfl) rfl) rfl) rfl) rfl) rfl) rfl), hmk29, ((((hst30.front 3 rfl rfl).front 3 rfl rfl).front 3 rfl rfl).front 3 rfl rfl), (by omega), (okP_next (by omega) hf23 (Nat.le_refl _) (fun j_ hj_ h1_ h2_ h3_ => hf34 j_ hj_ (by omega)) (of_decide_eq_false c105)), rfl⟩
     ·
      have q108 := of_decide_eq_false c27
      refine W_cond_false (by show Value.bool _ = _; exact congrArg Value.bool c27) ?_
      refine W_exit ?_
      refine W_seq ?_
      refine W_region_lit ?_
      refine Lq (ptr p 0) rfl rfl rfl rfl ?_
      refine Lq (int cls) rfl rfl rfl rfl ?_
      have hne110 := nds_xs hag.1
      have hv109 : RefV (hp w20) p (List.map Sn.sh xs) s.roots := ⟨_, _, (hst19.g 0), RdS.shape (v := vL) (OwnL.freeze hL hst19.rle' (hst19.g 1)) (LnX.read hX hst19.rle' (hst19.g 2)), OwnL.freeze (v := (.slice a4 s.roots.length cap5)) hRs hst19.rle' (hst19.g 3), by rw [hne110]; exact hS, by rw [hne110]; exact hrv, hrl⟩
      refine L_callG hst19 (v := (int (rootL s.nodes s.roots cls))) rfl rfl rfl (x_call (vs := #[(ptr p 0), (int cls)]) rfl rfl (by kernel_rfl) ent_37) (by have h_ := (RootR_spec cls hv109 (Le.refl _)); rw [hne110] at h_; exact h_) (fun w111 hst112 => ?_)
      refine Lq (int (rootL s.nodes s.roots cls)) rfl rfl rfl rfl ?_
      refine L_nil ?_
      refine W_seq ?_
      refine W_seq ?_
      obtain ⟨kn, rfl⟩ : ∃ n : Nat, cls = (n : Int) := ⟨cls.toNat, by omega⟩
      obtain ⟨rn, hr1, hr2⟩ := rootL_nat hS.can hrv (k := kn) (by omega)
      rw [hr1]
      obtain ⟨ok1, ok2, ok3⟩ := (okP_all (names := names) (k := i_25) (by omega)).1 hf23
      refine W_region_lit ?_
      refine Lq (ptr p 0) rfl rfl rfl rfl ?_
      refine Lq (ptr p 0) rfl rfl rfl rfl ?_
      refine Lq (ptr p 0) rfl rfl rfl (by kernel_rfl) ?_
      refine Lq vL rfl rfl rfl (x_load rfl rfl (run_loadVar_one ti_70 (hst112.b 0) rfl)) ?_
      refine Lq (int (rn : Int)) rfl rfl rfl rfl ?_
      obtain ⟨a113, cap114, e115, hc116⟩ := hL.value
      subst e115
      obtain ⟨b117, cap118, N119, e120, hc121, hrow122, hback123⟩ := OwnL.row hL (by omega)
      obtain ⟨rfl, hl124, rfl⟩ := Value.slice.inj e120
      try rw [← hl124] at hback123
      obtain ⟨cl125, cs126, hr127, hcb128, hsg129⟩ := Row.at hrow122 rn (by omega)
      obtain ⟨x130, hx131⟩ : ∃ x_, x_ = (xs[rn]'(by omega)) := ⟨_, rfl⟩
      rw [← hx131] at hr127
      have hnd132 := hag.at (by omega) hx131
      have hb133 : x130.nd.names.length ≤ 1000000 := by rw [← hnd132]; exact hS.names _ _
      obtain ⟨vn134, rfl, hvn135, a136, n137, cap138, e139⟩ := tySn_open hr127
      refine Lq (ptr b117 (0 + rn * 4)) rfl rfl rfl (x_indexAddr' rfl sl_70 ti_75 rfl rfl (by omega)) ?_
      refine Lq (ptr b117 (0 + rn * 4 + 2)) rfl rfl rfl (by kernel_rfl) ?_
      refine Lq vn134 rfl rfl rfl (x_load rfl rfl (run_loadVar_one ti_42 ((hst112.g 1) _ _ hcb128) (seg_get (j := 2) hsg129 rfl))) ?_
      refine Lq (.slice a11 names.length cap12) rfl rfl rfl rfl ?_
      obtain ⟨a140, cap141, e142, hc143⟩ := hvn135.shape
      subst e142
      refine L_callG hst112 (v := (.bool (decide (x130.nd.names = names)))) rfl rfl rfl (x_call (vs := #[(.slice a140 x130.nd.names.length cap141), (.slice a11 names.length cap12)]) rfl rfl (by kernel_rfl) ent_23) (EqualR_spec (Le.refl _) (RdS.mono hvn135 hst112.rle') (RdS.mono hv hst112.rle') (by first | omega | assumption | (simp only [List.length_append, List.length_cons, List.length_nil]; omega)) (by first | omega | assumption | (simp only [List.length_append, List.length_cons, List.length_nil]; omega))) (fun w144 hst145 => ?_)
      refine L_nil ?_
      rcases Bool.eq_false_or_eq_true (decide (x130.nd.names = names)) with c146 | c146
      ·
       have q147 := of_decide_eq_true c146
       refine W_cond_true (by show Value.bool _ = _; exact congrArg Value.bool c146) ?_
       refine W_seq ?_
       refine W_region_lit ?_
       refine Lq (int (rn : Int)) rfl rfl rfl rfl ?_
       refine Lq (int (rn : Int)) rfl rfl rfl rfl ?_
       refine Lq (int 0) rfl rfl rfl rfl ?_
       refine L_nil ?_
       refine W_ret ?_
       refine ⟨_, _, res_run (rs := [.tmp 6, .tmp 7]) (vs := [(int (rn : Int)), (int 0)]) Tryz.results49 (.cons (.tmp rfl) (.cons (.tmp rfl) .nil)) hmk18, ?_⟩
       have hmk : Makes s kn rn names x130.nd := ⟨by omega, by omega, ok3, ok2, hr1, hr2, hnd132⟩
       have he := hmk.same (of_decide_eq_true c146)
       rw [he]
       obtain ⟨c', hst', htree'⟩ := RefT.close (s := s) ((((hst145.front 3 rfl rfl).front 3 rfl rfl).front 3 rfl rfl).front 3 rfl rfl) (hback123 R xs cL (by first | rfl | (simp only [List.length_set]; done) | (simp only [List.length_set]; omega) | omega) hrow122) hX hRs hag hwf hS hrl
       exact ⟨_, _, _, rfl, hst'.keepN 1 rfl, c', rfl, rfl, htree'⟩
      ·
       have q148 := of_decide_eq_false c146
       refine W_cond_false (by show Value.bool _ = _; exact congrArg Value.bool c146) ?_
       refine W_skip ?_
       refine W_seq ?_
       refine W_region_lit ?_
       refine Lq (ptr p 0) rfl rfl rfl rfl ?_
       refine Lq (int (kn : Int)) rfl rfl rfl rfl ?_
       refine Lq (.slice a11 names.length cap12) rfl rfl rfl rfl ?_
       have hne150 := nds_xs hag.1
       have hv149 : RefV (hp w144) p (List.map Sn.sh xs) s.roots := ⟨_, _, (hst145.g 0), RdS.shape (v := (.slice (some ⟨b117, 0, none⟩) xs.length cap114)) (OwnL.freeze (hback123 R xs cL (by first | rfl | (simp only [List.length_set]; done) | (simp only [List.length_set]; omega) | omega) hrow122) hst145.rle' (hst145.g 1)) (LnX.read hX hst145.rle' (hst145.g 2)), OwnL.freeze (v := (.slice a4 s.roots.length cap5)) hRs hst145.rle' (hst145.g 3), by rw [hne150]; exact hS, by rw [hne150]; exact hrv, hrl⟩
       refine L_callG hst145 (v := (.tuple #[(int ((findL s.nodes (kn : Int) names).1)), (.bool ((findL s.nodes (kn : Int) names).2))])) rfl rfl rfl (x_call (vs := #[(ptr p 0), (int (kn : Int)), (.slice a11 names.length cap12)]) rfl rfl (by kernel_rfl) ent_34) (by have h_ := (FindR_spec (kn : Int) names (RdS.mono hv hst145.rle') (by first | omega | decide | assumption) hv149 (Le.refl _)); rw [hne150] at h_; exact h_) (fun w151 hst152 => ?_)
       refine Lq (.tuple #[(int ((findL s.nodes (kn : Int) names).1)), (.bool ((findL s.nodes (kn : Int) names).2))]) rfl rfl rfl rfl ?_
       refine Lq (int ((findL s.nodes (kn : Int) names).1)) rfl rfl rfl (by kernel_rfl) ?_
       refine Lq (.bool ((findL s.nodes (kn : Int) names).2)) rfl rfl rfl (by kernel_rfl) ?_
       refine Lq (int ((findL s.nodes (kn : Int) names).1)) rfl rfl rfl rfl ?_
       refine Lq (.bool ((findL s.nodes (kn : Int) names).2)) rfl rfl rfl rfl ?_
       refine L_nil ?_
       refine W_seq ?_
       refine W_seq ?_
       refine W_region_lit ?_
       refine Lq (.bool ((findL s.nodes (kn : Int) names).2)) rfl rfl rfl rfl ?_
       refine L_nil ?_
       rcases Bool.eq_false_or_eq_true ((findL s.nodes (kn : Int) names).2) with c153 | c153
       ·
        refine W_cond_true (by show Value.bool _ = _; exact congrArg Value.bool c153) ?_
        refine W_seq ?_
        refine W_region_lit ?_
        refine Lq (int ((findL s.nodes (kn : Int) names).1)) rfl rfl rfl rfl ?_
        refine Lq (int ((findL s.nodes (kn : Int) names).1)) rfl rfl rfl rfl ?_
        refine Lq (int 0) rfl rfl rfl rfl ?_
        refine L_nil ?_
        refine W_ret ?_
        refine ⟨_, _, res_run (rs := [.tmp 6, .tmp 7]) (vs := [(int ((findL s.nodes (kn : Int) names).1)), (int 0)]) Tryz.results49 (.cons (.tmp rfl) (.cons (.tmp rfl) .nil)) hmk18, ?_⟩
        have hmk : Makes s kn rn names x130.nd := ⟨by omega, by omega, ok3, ok2, hr1, hr2, hnd132⟩
        have he := hmk.found (of_decide_eq_false c146) c153
        rw [he]
        obtain ⟨c', hst', htree'⟩ := RefT.close (s := s) ((((hst152.front 3 rfl rfl).front 3 rfl rfl).front 3 rfl rfl).front 3 rfl rfl) (hback123 R xs cL (by first | rfl | (simp only [List.length_set]; done) | (simp only [List.length_set]; omega) | omega) hrow122) hX hRs hag hwf hS hrl
        exact ⟨_, _, _, rfl, hst'.keepN 1 rfl, c', rfl, rfl, htree'⟩
       ·
        refine W_cond_false (by show Value.bool _ = _; exact congrArg Value.bool c153) ?_
        refine W_skip ?_
        refine W_seq ?_
        refine W_seq ?_
        refine W_region_lit ?_
        refine Lq (ptr p 0) rfl rfl rfl rfl ?_
        refine Lq (ptr p 0) rfl rfl rfl rfl ?_
        refine Lq (ptr p 0) rfl rfl rfl (by kernel_rfl) ?_
        refine Lq (.slice (some ⟨b117, 0, none⟩) xs.length cap114) rfl rfl rfl (x_load rfl rfl (run_loadVar_one ti_70 (hst152.b 0) rfl)) ?_
        refine Lq (int (xs.length : Int)) rfl rfl rfl (x_len_slice rfl sl_70 rfl) ?_
        refine Lq (.bool (decide ((xs.length : Int) ≥ 200))) rfl rfl rfl (by kernel_rfl) ?_
        refine L_nil ?_
        rcases Bool.eq_false_or_eq_true (decide ((xs.length : Int) ≥ 200)) with c154 | c154
        ·
         have q155 := of_decide_eq_true c154
         refine W_cond_true (by show Value.bool _ = _; exact congrArg Value.bool c154) ?_
         refine W_seq ?_
         refine W_region_lit ?_
         refine Lq (int 0) rfl rfl rfl rfl ?_
         refine Lq (int 2) rfl rfl rfl rfl ?_
         refine L_nil ?_
         refine W_ret ?_
         refine ⟨_, _, res_run (rs := [.tmp 6, .tmp 7]) (vs := [(int 0), (int 2)]) Tryz.results49 (.cons (.tmp rfl) (.cons (.tmp rfl) .nil)) hmk18, ?_⟩
         have hmk : Makes s kn rn names x130.nd := ⟨by omega, by omega, ok3, ok2, hr1, hr2, hnd132⟩
         have he := hmk.full (of_decide_eq_false c146) c153 (by omega)
         rw [he]
         obtain ⟨c', hst', htree'⟩ := RefT.close (s := s) ((((hst152.front 3 rfl rfl).front 3 rfl rfl).front 3 rfl rfl).front 3 rfl rfl) (hback123 R xs cL (by first | rfl | (simp only [List.length_set]; done) | (simp only [List.length_set]; omega) | omega) hrow122) hX hRs hag hwf hS hrl
         exact ⟨_, _, _, rfl, hst'.keepN 1 rfl, c', rfl, rfl, htree'⟩
        ·
         have q156 := of_decide_eq_false c154
         refine W_cond_false (by show Value.bool _ = _; exact congrArg Value.bool c154) ?_
         refine W_skip ?_
         refine W_seq ?_
         have ho157 := (hback123 R xs cL (by first | rfl | (simp only [List.length_set]; done) | (simp only [List.length_set]; omega) | omega) hrow122)
         refine W_region_draw [14] (fun w => Le R (hp w) ∧ Le (one p (.cells #[(.slice (some ⟨b117, 0, none⟩) xs.length cap114), (.slice a4 s.roots.length cap5)] 72 (0, 0))) (hp w)) hmix (by decide +kernel) (fun _ _ h => h) ?_
         have hst159 := hst152.draws (w151.drawn + 1)
         generalize draws w151 (w151.drawn + 1) = w158 at hst159 ⊢
         refine LP (ptr p 0) 0 rfl rfl rfl (fun u161 => rfl) ⟨hst159.rle', hst159.g 0⟩ ?_
         refine LP (ptr p 0) 1 rfl rfl rfl (fun u164 => rfl) ⟨hst159.rle', hst159.g 0⟩ ?_
         refine LP (ptr p 0) 2 rfl rfl rfl (fun u167 => rfl) ⟨hst159.rle', hst159.g 0⟩ ?_
         refine LP (ptr p 0) 3 rfl rfl rfl (fun u170 => (by kernel_rfl)) ⟨hst159.rle', hst159.g 0⟩ ?_
         refine LT (.slice (some ⟨b117, 0, none⟩) xs.length cap114) 4 rfl rfl rfl (fun u173 hF174 => (x_load rfl rfl (run_loadVar_one ti_70 (hF174.2 _ _ (one_self _ _)) rfl))) ⟨hst159.rle', hst159.g 0⟩ ?_
         refine LP (int (kn : Int)) 5 rfl rfl rfl (fun u176 => rfl) ⟨hst159.rle', hst159.g 0⟩ ?_
         refine LP (.slice a11 names.length cap12) 7 rfl rfl rfl (fun u181 => rfl) ⟨hst159.rle', hst159.g 0⟩ ?_
         refine LA_all [6] (by decide +kernel) (by simp) ?_
         intro i_ hi_
         simp only [List.mem_cons, List.not_mem_nil, or_false] at hi_
         subst hi_
         refine One_new hst159 (i := 6) (v := fun b => .slice (some ⟨b, 0, none⟩) 0 0) (ob := .cells #[] 9 (0, 0)) rfl rfl rfl (Want.plain rfl) (by kernel_rfl) (fun b186 w187 hst188 => ?_)
         refine ⟨(fun _ => ⟨hst188.rle', hst188.g 1⟩), ?_⟩
         refine LA_all [8] (by decide +kernel) (by simp) ?_
         intro i_ hi_
         simp only [List.mem_cons, List.not_mem_nil, or_false] at hi_
         subst hi_
         have ho192 : OwnL Ty.str 9 R (.slice (some ⟨b186, 0, none⟩) 0 0) ([] : List Str) (one b186 (.cells #[] 9 (0, 0))) := OwnL.lit (cs := []) Encs.nil rfl (by decide)
         obtain ⟨v193, c194, w195, hr196, ho197, hst198⟩ := run_appendM (P := Tryz.prog) (tt := 42) sl_42 ti_9 rfl ho192 hst188 (RdS.mono hv (Le.refl _)) hst188.rle' (by simp only [List.length_append, List.length_cons, List.length_nil]; omega) (by simp only [List.length_append, List.length_cons, List.length_nil, maxLen]; omega)
         refine One_val (i := 8) (v := v193) rfl rfl rfl (Want.plain rfl) (x_append rfl rfl rfl hr196) (fun _ => ⟨hst198.rle', hst198.g 1⟩) ?_
         obtain ⟨R199, hst200, hle201, hc202⟩ := Step.frz hst198
         have hm203 := OwnL.mono ho157 hle201
         have hm204 := LnX.mono hX hle201
         have hm205 := OwnL.mono hRs hle201
         have hrd206 := OwnL.freeze ho197 hle201 hc202
         have hxs207 : (([] : List Str) ++ names).length = names.length := by simp
         obtain ⟨a211, cap212, e213, hc214⟩ := hrd206.shape
         subst e213
         refine LP (.agg #[(int (kn : Int)), (int (-1)), (.slice a211 ((([] : List Str) ++ names).length) cap212), (.slice none 0 0)]) 9 rfl rfl rfl (fun u209 => (by kernel_rfl)) ⟨(Le.trans hle201 hst200.rle'), hst200.g 0⟩ ?_
         refine LA_all [10] (by decide +kernel) (by simp) ?_
         intro i_ hi_
         simp only [List.mem_cons, List.not_mem_nil, or_false] at hi_
         subst hi_
         refine One_new hst200 (i := 10) (v := fun b => .slice (some ⟨b, 0, none⟩) 1 1) (ob := .cells #[(int (kn : Int)), (int (-1)), (.slice a211 ((([] : List Str) ++ names).length) cap212), (.slice none 0 0)] 75 (0, 0)) rfl rfl rfl (Want.plain rfl) (by kernel_rfl) (fun b218 w219 hst220 => ?_)
         refine ⟨(fun _ => ⟨(Le.trans hle201 hst220.rle'), hst220.g 1⟩), ?_⟩
         refine LA_all [11] (by decide +kernel) (by simp) ?_
         intro i_ hi_
         simp only [List.mem_cons, List.not_mem_nil, or_false] at hi_
         subst hi_
         refine One_append (j := 11) hst220 (t := 70) (e := 75) (ys := [Sn.mk (Nd.mk (kn : Int) (-1) (([] : List Str) ++ names)) [] (.slice none 0 0)]) (src := [(int (kn : Int)), (int (-1)), (.slice a211 ((([] : List Str) ++ names).length) cap212), (.slice none 0 0)]) 2 rfl rfl rfl (Want.plain rfl) rfl rfl rfl sl_70 ti_75 rfl rfl rfl hm203 (src_own (hst220.b 0)) (sn_mk (RdS.mono hrd206 (Le.refl _))) rfl (by first | omega | (simp only [List.length_append, List.length_cons, List.length_nil]; omega)) (by first | (simp only [maxLen]; omega) | (simp only [List.length_append, List.length_cons, List.length_nil, maxLen]; omega)) (fun v224 c225 w226 ho227 hst228 => ?_)
         refine ⟨(fun _ => ⟨(Le.trans hle201 hst228.rle'), hst228.g 2⟩), ?_⟩
         refine LP (ptr p 0) 12 rfl rfl rfl (fun u230 => rfl) ⟨(Le.trans hle201 hst228.rle'), hst228.g 2⟩ ?_
         refine LP (ptr p 0) 13 rfl rfl rfl (fun u233 => (by kernel_rfl)) ⟨(Le.trans hle201 hst228.rle'), hst228.g 2⟩ ?_
         refine LA_all [14] (by decide +kernel) (by simp) ?_
         intro i_ hi_
         simp only [List.mem_cons, List.not_mem_nil, or_false] at hi_
         subst hi_
         obtain ⟨a236, cap237, e238, hc239⟩ := ho227.value
         subst e238
         obtain ⟨w240, hr242, hst241⟩ := run_storeW (P := Tryz.prog) (b := p) (off := 0) (v := (.slice a236 ((xs ++ [Sn.mk (Nd.mk (kn : Int) (-1) (([] : List Str) ++ names)) [] (.slice none 0 0)]).length) cap237)) hst228 2 ti_70 rfl rfl rfl rfl rfl rfl
         change Step _ _ _ _ _ [c225, one b218 (.cells #[(int (kn : Int)), (int (-1)), (.slice a211 ((([] : List Str) ++ names).length) cap212), (.slice none 0 0)] 75 (0, 0)), one p (.cells #[(.slice a236 ((xs ++ [Sn.mk (Nd.mk (kn : Int) (-1) (([] : List Str) ++ names)) [] (.slice none 0 0)]).length) cap237), (.slice a4 s.roots.length cap5)] 72 (0, 0)), cX, cR] at hst241
         refine One_skip (i := 14) rfl rfl (Want.plain rfl) (x_store rfl rfl rfl hr242) (fun h => absurd h (by decide +kernel)) ?_
         refine LA_done (by decide +kernel) ?_
         refine W_seq ?_
         have hln : (xs ++ [Sn.mk (Nd.mk (kn : Int) (-1) (([] : List Str) ++ names)) [] (.slice none 0 0)]).length = s.nodes.length + 1 := by simp [hxl]
         refine W_region_lit ?_
         refine Lq (ptr p 0) rfl rfl rfl rfl ?_
         refine Lq (ptr p 0) rfl rfl rfl rfl ?_
         refine Lq (ptr p 0) rfl rfl rfl (by kernel_rfl) ?_
         refine Lq (.slice a236 ((xs ++ [Sn.mk (Nd.mk (kn : Int) (-1) (([] : List Str) ++ names)) [] (.slice none 0 0)]).length) cap237) rfl rfl rfl (x_load rfl rfl (run_loadVar_one ti_70 (hst241.b 2) rfl)) ?_
         refine Lq (int (((xs ++ [Sn.mk (Nd.mk (kn : Int) (-1) (([] : List Str) ++ names)) [] (.slice none 0 0)]).length : Nat) : Int)) rfl rfl rfl (x_len_slice rfl sl_70 rfl) ?_
         refine Lq (int ((((xs ++ [Sn.mk (Nd.mk (kn : Int) (-1) (([] : List Str) ++ names)) [] (.slice none 0 0)]).length : Nat) : Int) - 1)) rfl rfl rfl (x_sub rfl rfl rfl (by constructor <;> omega)) ?_
         refine Lq (int ((((xs ++ [Sn.mk (Nd.mk (kn : Int) (-1) (([] : List Str) ++ names)) [] (.slice none 0 0)]).length : Nat) : Int) - 1)) rfl rfl rfl rfl ?_
         refine Lq (int 0) rfl rfl rfl rfl ?_
         refine L_nil ?_
         refine W_ret ?_
         refine ⟨_, _, res_run (rs := [.tmp 6, .tmp 7]) (vs := [(int ((((xs ++ [Sn.mk (Nd.mk (kn : Int) (-1) (([] : List Str) ++ names)) [] (.slice none 0 0)]).length : Nat) : Int) - 1)), (int 0)]) Tryz.results49 (.cons (.tmp rfl) (.cons (.tmp rfl) .nil)) hmk18, ?_⟩
         have hmk : Makes s kn rn names x130.nd := ⟨by omega, by omega, ok3, ok2, hr1, hr2, hnd132⟩
         have he := hmk.made (of_decide_eq_false c146) c153 (by omega)
         rw [he]
         obtain ⟨c', hst', htree'⟩ := RefT.close (s := s.addN (kn : Int) names) ((((hst241.front 4 rfl rfl).front 4 rfl rfl).front 2 rfl rfl).front 4 rfl rfl) ho227 (hm204.app (y := ⟨⟨(kn : Int), -1, names⟩, [], .slice none 0 0⟩) rfl rfl) hm205 (hag.addN hwf _ _) (hwf.addN _ _) (hS.app (by omega) (by show names.length ≤ _; omega) rfl) hrl
         exact ⟨_, _, _, rfl, hst'.keepN 1 rfl, c', (by rw [show ((((xs ++ [Sn.mk (Nd.mk (kn : Int) (-1) (([] : List Str) ++ names)) [] (.slice none 0 0)]).length : Nat) : Int) - 1) = (s.nodes.length : Int) by rw [hln]; omega]; rfl), rfl, htree'⟩
end Go.Fx.YtjpdhfhiimbpgaaGreatDoor
set_option linter.unusedSimpArgs false
set_option linter.unusedVariables false
namespace Go.Fx.YtjpdhfhiimbpgaaGreatDoor
open Go Go.Fx Go.Proofs
set_option maxRecDepth 20000
set_option maxHeartbeats 1000000 in
theorem NewR_spec {w : World} {R : Hp} {v : Value} {cs : List Cls} (hs : Sats w R []) (hv : RdS tyCls R v cs) (hcs : cs.length ≤ 12) (hfs : ∀ x ∈ cs, x.fields.length ≤ 64) :
    Calls Tryz.prog 13 #[v] w (Comes' w R [] fun v' R' L' => ∃ p c, v' = ptr p 0 ∧ L' = [c] ∧ RefT R' p (newTS cs) c) := by
 have hst := Step.refl hs
 refine calls_of_W (n := 54) Tryz.func13 rfl Tryz.ntmps13 (Nat.le_of_ble_eq_true rfl) ?_
 refine W_seq ?_
 refine W_region_lit ?_
 refine Lq (.pointer none) rfl rfl rfl rfl ?_
 refine L_nil ?_
 refine W_seq ?_
 refine W_region_lit ?_
 refine Lq (.agg #[(.slice none 0 0), (.slice none 0 0)]) rfl rfl rfl (by kernel_rfl) ?_
 refine L_new hst (v := fun b => ptr b 0) (ob := .cells #[(.slice none 0 0), (.slice none 0 0)] 72 (0, 0)) rfl rfl rfl (by kernel_rfl) (fun b1 w2 hst3 => ?_)
 refine Lq (ptr b1 0) rfl rfl rfl rfl ?_
 refine L_nil ?_
 refine W_seq ?_
 refine W_seq ?_
 have ho4 : OwnL tySn 75 R (.slice none 0 0) (snsOf cs 0) non := OwnL.empty _ _ _
 have hst5 := hst3.nothing
 have ho6 : OwnL Ty.int 3 R (.slice none 0 0) (rootsOf 0) non := OwnL.empty _ _ _
 have hst7 := hst5.nothing
 refine W_region_lit ?_
 refine Lq (int 0) rfl rfl rfl rfl ?_
 refine L_nil ?_
 refine W_block ?_
 refine W_loop (I := fun σ w_ m_ => ∃ (σ0 : Fr) (R_ : Hp) (k_ : Nat) (vL : Value) (vR : Value) (cL : Hp) (cR : Hp), σ = upd (upd (upd (upd (upd (upd σ0 0 v) 2 (.pointer none)) 3 (ptr b1 0)) 4 (int (k_ : Int))) 5 (.agg #[(.slice none 0 0), (.slice none 0 0)])) 6 (ptr b1 0) ∧ mks (σ0 0) = [] ∧ Step w R [] w_ R_ [one b1 (.cells #[vL, vR] 72 (0, 0)), cL, cR] ∧ Le R R_ ∧ OwnL tySn 75 R_ vL (snsOf cs k_) cL ∧ OwnL Ty.int 3 R_ vR (rootsOf k_) cR ∧ k_ ≤ cs.length ∧ m_ = cs.length - k_) (m := cs.length - 0) ?_ ?_
 ·
  exact ⟨_, _, 0, (.slice none 0 0), (.slice none 0 0), non, non, (upd_of (upd_of (upd_of (upd_of (upd_of (upd_of rfl rfl) rfl) rfl) rfl) rfl) rfl), rfl, ((hst7.front 1 rfl rfl).front 2 rfl rfl), Le.refl _, ho4, ho6, (by omega), rfl⟩
 ·
  rintro m22 σ_ w10 ⟨s15, R16, k_17, vL18, vR19, cL20, cR21, rfl, hmk8, hst9, hle11, hi12, hi13, hf14, rfl⟩
  have hsl := snsOf_len cs k_17
  have hrl := rootsOf_len k_17
  refine W_seq ?_
  refine W_seq ?_
  refine W_region_lit ?_
  refine Lq (int (k_17 : Int)) rfl rfl rfl rfl ?_
  refine Lq v rfl rfl rfl rfl ?_
  obtain ⟨a23, cap24, e25, hc26⟩ := hv.shape
  subst e25
  refine Lq (int (cs.length : Int)) rfl rfl rfl (x_len_slice rfl sl_26 rfl) ?_
  refine Lq (.bool (decide ((k_17 : Int) < (cs.length : Int)))) rfl rfl rfl (by kernel_rfl) ?_
  refine Lq (.bool (decide ((k_17 : Int) < (cs.length : Int)))) rfl rfl rfl rfl ?_
  rcases Bool.eq_false_or_eq_true (decide ((k_17 : Int) < (cs.length : Int))) with c27 | c27
  ·
   have q28 := of_decide_eq_true c27
   refine L_guard rfl rfl rfl rfl c27 ?_
   refine Lq (int (k_17 : Int)) rfl rfl rfl rfl ?_
   refine L_guard rfl rfl rfl rfl c27 ?_
   refine Lq (.bool (decide ((k_17 : Int) < 12))) rfl rfl rfl (by kernel_rfl) ?_
   refine Lq (.bool (decide ((k_17 : Int) < 12))) rfl rfl rfl (x_pick rfl rfl (by rw [c27]; rfl)) ?_
   refine L_nil ?_
   rcases Bool.eq_false_or_eq_true (decide ((k_17 : Int) < 12)) with c29 | c29
   ·
    have q30 := of_decide_eq_true c29
    refine W_cond_true (by show Value.bool _ = _; exact congrArg Value.bool c29) ?_
    refine W_skip ?_
    refine W_seq ?_
    refine W_block ?_
    refine W_seq ?_
    refine W_region_draw [26] (fun w => Le R16 (hp w) ∧ Le (one b1 (.cells #[vL18, vR19] 72 (0, 0))) (hp w)) hmix (by decide +kernel) (fun _ _ h => h) ?_
    have hst32 := hst9.draws (w10.drawn + 1)
    generalize draws w10 (w10.drawn + 1) = w31 at hst32 ⊢
    refine LP (ptr b1 0) 0 rfl rfl rfl (fun u34 => rfl) ⟨hst32.rle', hst32.g 0⟩ ?_
    refine LP (ptr b1 0) 1 rfl rfl rfl (fun u37 => rfl) ⟨hst32.rle', hst32.g 0⟩ ?_
    refine LP (ptr b1 0) 2 rfl rfl rfl (fun u40 => rfl) ⟨hst32.rle', hst32.g 0⟩ ?_
    refine LP (ptr b1 0) 3 rfl rfl rfl (fun u43 => (by kernel_rfl)) ⟨hst32.rle', hst32.g 0⟩ ?_
    refine LT vL18 4 rfl rfl rfl (fun u46 hF47 => (x_load rfl rfl (run_loadVar_one ti_70 (hF47.2 _ _ (one_self _ _)) rfl))) ⟨hst32.rle', hst32.g 0⟩ ?_
    refine LP (int (k_17 : Int)) 5 rfl rfl rfl (fun u49 => rfl) ⟨hst32.rle', hst32.g 0⟩ ?_
    refine LP (.slice a23 cs.length cap24) 7 rfl rfl rfl (fun u54 => rfl) ⟨hst32.rle', hst32.g 0⟩ ?_
    refine LP (int (k_17 : Int)) 8 rfl rfl rfl (fun u59 => rfl) ⟨hst32.rle', hst32.g 0⟩ ?_
    obtain ⟨b66, off67, cap68, cs69, T70, fz71, e72, hc73, hb74, he75⟩ := hv.open (by omega)
    cases e72
    obtain ⟨cl76, hs77, hr78⟩ := he75.at k_17 (by omega)
    obtain ⟨x79, hx80⟩ : ∃ x_, x_ = (cs[k_17]'(by omega)) := ⟨_, rfl⟩
    rw [← hx80] at hr78
    have hx80b : x79.fields.length ≤ 64 := by rw [hx80]; exact hfs _ (List.getElem_mem _)
    obtain ⟨vn81, rfl, hvn82⟩ := tyCls_open hr78
    refine LP (ptr b66 (off67 + k_17 * 3)) 9 rfl rfl rfl (fun u64 => (x_indexAddr' rfl sl_26 ti_48 rfl rfl (by omega))) ⟨hst32.rle', hst32.g 0⟩ ?_
    refine LP (ptr b66 (off67 + k_17 * 3 + 1)) 10 rfl rfl rfl (fun u86 => (by kernel_rfl)) ⟨hst32.rle', hst32.g 0⟩ ?_
    refine LT vn81 11 rfl rfl rfl (fun u91 hF92 => (x_load rfl rfl (run_loadVar_one ti_42 ((Le.trans hle11 hF92.1) _ _ hb74) (seg_get (j := 1) hs77 rfl)))) ⟨hst32.rle', hst32.g 0⟩ ?_
    refine LP (.slice (some ⟨b66, off67, none⟩) cs.length cap24) 12 rfl rfl rfl (fun u96 => rfl) ⟨hst32.rle', hst32.g 0⟩ ?_
    refine LP (int (k_17 : Int)) 13 rfl rfl rfl (fun u101 => rfl) ⟨hst32.rle', hst32.g 0⟩ ?_
    obtain ⟨cl108, hs109, hr110⟩ := he75.at k_17 (by omega)
    rw [← hx80] at hr110
    obtain ⟨vn111, rfl, hvn112⟩ := tyCls_open hr110
    refine LP (ptr b66 (off67 + k_17 * 3)) 14 rfl rfl rfl (fun u106 => (x_indexAddr' rfl sl_26 ti_48 rfl rfl (by omega))) ⟨hst32.rle', hst32.g 0⟩ ?_
    refine LP (ptr b66 (off67 + k_17 * 3 + 1)) 15 rfl rfl rfl (fun u116 => (by kernel_rfl)) ⟨hst32.rle', hst32.g 0⟩ ?_
    refine LT vn111 16 rfl rfl rfl (fun u121 hF122 => (x_load rfl rfl (run_loadVar_one ti_42 ((Le.trans hle11 hF122.1) _ _ hb74) (seg_get (j := 1) hs109 rfl)))) ⟨hst32.rle', hst32.g 0⟩ ?_
    obtain ⟨a128, cap129, e130, hc131⟩ := hvn112.shape
    subst e130
    refine LT (int (x79.fields.length : Int)) 17 rfl rfl rfl (fun u126 hF127 => (x_len_slice rfl sl_42 rfl)) ⟨hst32.rle', hst32.g 0⟩ ?_
    refine LT (int (x79.fields.length : Int)) 18 rfl rfl rfl (fun u135 hF136 => (x_min_short rfl rfl rfl (by omega))) ⟨hst32.rle', hst32.g 0⟩ ?_
    obtain ⟨a142, cap143, e144, hc145⟩ := hvn82.shape
    subst e144
    refine LT (.slice a142 x79.fields.length cap143) 19 rfl rfl rfl (fun u140 hF141 => (x_slice sl_42 rfl rfl (run_sliceHi sl_42 ti_9 (by omega)))) ⟨hst32.rle', hst32.g 0⟩ ?_
    refine LA_all [6] (by decide +kernel) (by simp) ?_
    intro i_ hi_
    simp only [List.mem_cons, List.not_mem_nil, or_false] at hi_
    subst hi_
    refine One_new hst32 (i := 6) (v := fun b => .slice (some ⟨b, 0, none⟩) 0 0) (ob := .cells #[] 9 (0, 0)) rfl rfl rfl (Want.plain rfl) (by kernel_rfl) (fun b149 w150 hst151 => ?_)
    refine ⟨(fun _ => ⟨hst151.rle', hst151.g 1⟩), ?_⟩
    refine LA_all [20] (by decide +kernel) (by simp) ?_
    intro i_ hi_
    simp only [List.mem_cons, List.not_mem_nil, or_false] at hi_
    subst hi_
    have ho155 : OwnL Ty.str 9 R16 (.slice (some ⟨b149, 0, none⟩) 0 0) ([] : List Str) (one b149 (.cells #[] 9 (0, 0))) := OwnL.lit (cs := []) Encs.nil rfl (by decide)
    obtain ⟨v156, c157, w158, hr159, ho160, hst161⟩ := run_appendM (P := Tryz.prog) (tt := 42) sl_42 ti_9 rfl ho155 hst151 (RdS.mono hvn82 hle11) hst151.rle' (by simp only [List.length_append, List.length_cons, List.length_nil]; omega) (by simp only [List.length_append, List.length_cons, List.length_nil, maxLen]; omega)
    refine One_val (i := 20) (v := v156) rfl rfl rfl (Want.plain rfl) (x_append rfl rfl rfl hr159) (fun _ => ⟨hst161.rle', hst161.g 1⟩) ?_
    obtain ⟨R162, hst163, hle164, hc165⟩ := Step.frz hst161
    have hm166 := OwnL.mono hi12 hle164
    have hm167 := OwnL.mono hi13 hle164
    have hrd168 := OwnL.freeze ho160 hle164 hc165
    have hxs169 : (([] : List Str) ++ x79.fields).length = x79.fields.length := by simp
    obtain ⟨a173, cap174, e175, hc176⟩ := hrd168.shape
    subst e175
    refine LP (.agg #[(int (k_17 : Int)), (int (-1)), (.slice a173 ((([] : List Str) ++ x79.fields).length) cap174), (.slice none 0 0)]) 21 rfl rfl rfl (fun u171 => (by kernel_rfl)) ⟨(Le.trans hle164 hst163.rle'), hst163.g 0⟩ ?_
    refine LA_all [22] (by decide +kernel) (by simp) ?_
    intro i_ hi_
    simp only [List.mem_cons, List.not_mem_nil, or_false] at hi_
    subst hi_
    refine One_new hst163 (i := 22) (v := fun b => .slice (some ⟨b, 0, none⟩) 1 1) (ob := .cells #[(int (k_17 : Int)), (int (-1)), (.slice a173 ((([] : List Str) ++ x79.fields).length) cap174), (.slice none 0 0)] 75 (0, 0)) rfl rfl rfl (Want.plain rfl) (by kernel_rfl) (fun b180 w181 hst182 => ?_)
    refine ⟨(fun _ => ⟨(Le.trans hle164 hst182.rle'), hst182.g 1⟩), ?_⟩
    refine LA_all [23] (by decide +kernel) (by simp) ?_
    intro i_ hi_
    simp only [List.mem_cons, List.not_mem_nil, or_false] at hi_
    subst hi_
    refine One_append (j := 23) hst182 (t := 70) (e := 75) (ys := [Sn.mk (Nd.mk (k_17 : Int) (-1) (([] : List Str) ++ x79.fields)) [] (.slice none 0 0)]) (src := [(int (k_17 : Int)), (int (-1)), (.slice a173 ((([] : List Str) ++ x79.fields).length) cap174), (.slice none 0 0)]) 2 rfl rfl rfl (Want.plain rfl) rfl rfl rfl sl_70 ti_75 rfl rfl rfl hm166 (src_own (hst182.b 0)) (sn_mk (RdS.mono hrd168 (Le.refl _))) rfl (by first | omega | (simp only [List.length_append, List.length_cons, List.length_nil]; omega)) (by first | (simp only [maxLen]; omega) | (simp only [List.length_append, List.length_cons, List.length_nil, maxLen]; omega)) (fun v186 c187 w188 ho189 hst190 => ?_)
    refine ⟨(fun _ => ⟨(Le.trans hle164 hst190.rle'), hst190.g 2⟩), ?_⟩
    refine LP (ptr b1 0) 24 rfl rfl rfl (fun u192 => rfl) ⟨(Le.trans hle164 hst190.rle'), hst190.g 2⟩ ?_
    refine LP (ptr b1 0) 25 rfl rfl rfl (fun u195 => (by kernel_rfl)) ⟨(Le.trans hle164 hst190.rle'), hst190.g 2⟩ ?_
    refine LA_all [26] (by decide +kernel) (by simp) ?_
    intro i_ hi_
    simp only [List.mem_cons, List.not_mem_nil, or_false] at hi_
    subst hi_
    obtain ⟨a198, cap199, e200, hc201⟩ := ho189.value
    subst e200
    obtain ⟨w202, hr204, hst203⟩ := run_storeW (P := Tryz.prog) (b := b1) (off := 0) (v := (.slice a198 (((snsOf cs k_17) ++ [Sn.mk (Nd.mk (k_17 : Int) (-1) (([] : List Str) ++ x79.fields)) [] (.slice none 0 0)]).length) cap199)) hst190 2 ti_70 rfl rfl rfl rfl rfl rfl
    change Step _ _ _ _ _ [c187, one b180 (.cells #[(int (k_17 : Int)), (int (-1)), (.slice a173 ((([] : List Str) ++ x79.fields).length) cap174), (.slice none 0 0)] 75 (0, 0)), one b1 (.cells #[(.slice a198 (((snsOf cs k_17) ++ [Sn.mk (Nd.mk (k_17 : Int) (-1) (([] : List Str) ++ x79.fields)) [] (.slice none 0 0)]).length) cap199), vR19] 72 (0, 0)), cR21] at hst203
    refine One_skip (i := 26) rfl rfl (Want.plain rfl) (x_store rfl rfl rfl hr204) (fun h => absurd h (by decide +kernel)) ?_
    refine LA_done (by decide +kernel) ?_
    refine W_region_lit ?_
    refine Lq (ptr b1 0) rfl rfl rfl rfl ?_
    refine Lq (ptr b1 0) rfl rfl rfl rfl ?_
    refine Lq (ptr b1 0) rfl rfl rfl rfl ?_
    refine Lq (ptr b1 1) rfl rfl rfl (by kernel_rfl) ?_
    refine Lq vR19 rfl rfl rfl (x_load rfl rfl (run_loadVar_one ti_62 (hst203.b 2) rfl)) ?_
    refine Lq (int (k_17 : Int)) rfl rfl rfl rfl ?_
    refine L_new hst203 (v := fun b => .slice (some ⟨b, 0, none⟩) 1 1) (ob := .cells #[(int (k_17 : Int))] 3 (0, 0)) rfl rfl rfl (by kernel_rfl) (fun b205 w206 hst207 => ?_)
    refine L_append hst207 (t := 62) (e := 3) (ys := [(k_17 : Int)]) (src := [(int (k_17 : Int))]) 4 rfl rfl rfl rfl rfl rfl sl_62 ti_3 rfl rfl rfl hm167 (src_own (hst207.b 0)) (Encs.one (t := Ty.int) rfl) rfl (by first | omega | (simp only [List.length_append, List.length_cons, List.length_nil]; omega)) (by first | (simp only [maxLen]; omega) | (simp only [List.length_append, List.length_cons, List.length_nil, maxLen]; omega)) (fun v208 c209 w210 ho211 hst212 => ?_)
    refine Lq (ptr b1 0) rfl rfl rfl rfl ?_
    refine Lq (ptr b1 1) rfl rfl rfl (by kernel_rfl) ?_
    obtain ⟨a213, cap214, e215, hc216⟩ := ho211.value
    subst e215
    refine L_store hst212 4 ti_62 rfl rfl rfl rfl rfl rfl rfl rfl rfl rfl rfl (fun w217 hst218 => ?_)
    change Step _ _ _ _ _ [c209, one b205 (.cells #[(int (k_17 : Int))] 3 (0, 0)), c187, one b180 (.cells #[(int (k_17 : Int)), (int (-1)), (.slice a173 ((([] : List Str) ++ x79.fields).length) cap174), (.slice none 0 0)] 75 (0, 0)), one b1 (.cells #[(.slice a198 (((snsOf cs k_17) ++ [Sn.mk (Nd.mk (k_17 : Int) (-1) (([] : List Str) ++ x79.fields)) [] (.slice none 0 0)]).length) cap199), (.slice a213 (((rootsOf k_17) ++ [(k_17 : Int)]).length) cap214)] 72 (0, 0))] at hst218
    refine L_nil ?_
    refine W_region_lit ?_
    refine Lq (int (k_17 : Int)) rfl rfl rfl rfl ?_
    refine Lq (int ((k_17 + 1 : Nat) : Int)) rfl rfl rfl (x_add_nat rfl rfl rfl (by omega)) ?_
    refine Lq (int ((k_17 + 1 : Nat) : Int)) rfl rfl rfl rfl ?_
    refine L_nil ?_
    refine ⟨cs.length - (k_17 + 1), by first | omega | (simp only [List.length_append, List.length_cons, List.length_nil]; omega), ?_⟩
    exact ⟨_, _, (k_17 + 1), (.slice a198 (((snsOf cs k_17) ++ [Sn.mk (Nd.mk (k_17 : Int) (-1) (([] : List Str) ++ x79.fields)) [] (.slice none 0 0)]).length) cap199), (.slice a213 (((rootsOf k_17) ++ [(k_17 : Int)]).length) cap214), c187, c209, (upd_of (upd_of (upd_of (upd_of (upd_of (upd_of rfl rfl) rfl) rfl) rfl) rfl) rfl), hmk8, (((hst218.front 2 rfl rfl).front 4 rfl rfl).keepN 3 rfl), (Le.trans hle11 hle164), (Eq.mp (congrArg (fun l_ => OwnL tySn 75 R162 (.slice a198 (((snsOf cs k_17) ++ [Sn.mk (Nd.mk (k_17 : Int) (-1) (([] : List Str) ++ x79.fields)) [] (.slice none 0 0)]).length) cap199) l_ c187) (show ((snsOf cs k_17) ++ [Sn.mk (Nd.mk (k_17 : Int) (-1) (([] : List Str) ++ x79.fields)) [] (.slice none 0 0)]) = snsOf cs (k_17 + 1) by rw [snsOf_succ (by omega), ← hx80]; rfl)) ho189), (by rw [rootsOf_succ]; exact ho211), (by omega), rfl⟩
   ·
    have q219 := of_decide_eq_false c29
    refine W_cond_false (by show Value.bool _ = _; exact congrArg Value.bool c29) ?_
    refine W_exit ?_
    refine W_seq ?_
    refine W_region_lit ?_
    refine Lq (ptr b1 0) rfl rfl rfl rfl ?_
    refine Lq (ptr b1 0) rfl rfl rfl rfl ?_
    refine L_nil ?_
    refine W_ret ?_
    refine ⟨_, _, res_run (rs := [.tmp 2]) (vs := [(ptr b1 0)]) Tryz.results13 (.cons (.tmp rfl) .nil) hmk8, ?_⟩
    obtain rfl : k_17 = cs.length := by omega
    have hst220 := ((((hst9.front 2 rfl rfl).front 2 rfl rfl).front 2 rfl rfl)).nothing
    obtain ⟨c', hst', htree'⟩ := RefT.close (s := newTS cs) ((hst220.front 2 rfl rfl).front 2 rfl rfl) hi12 (snsOf_nil _ cs cs.length) hi13 (snsOf_agr cs) (newTS_wf cs) (newTS_small hcs hfs) (by show (rootsOf cs.length).length ≤ _; rw [rootsOf_len]; omega)
    exact ⟨_, _, _, rfl, hst'.keepN 1 rfl, _, c', rfl, rfl, htree'⟩
  ·
   have q221 := of_decide_eq_false c27
   refine L_unwanted rfl rfl rfl rfl (by rw [c27]; try rfl) rfl rfl ?_
   refine L_unwanted rfl rfl rfl rfl (by rw [c27]; try rfl) rfl rfl ?_
   refine Lq (.bool false) rfl rfl rfl (x_pick rfl rfl (by rw [c27]; rfl)) ?_
   refine L_nil ?_
   refine W_cond_false (by show Value.bool _ = _; exact congrArg Value.bool rfl) ?_
   refine W_exit ?_
   refine W_seq ?_
   refine W_region_lit ?_
   refine Lq (ptr b1 0) rfl rfl rfl rfl ?_
   refine Lq (ptr b1 0) rfl rfl rfl rfl ?_
   refine L_nil ?_
   refine W_ret ?_
   refine ⟨_, _, res_run (rs := [.tmp 2]) (vs := [(ptr b1 0)]) Tryz.results13 (.cons (.tmp rfl) .nil) hmk8, ?_⟩
   obtain rfl : k_17 = cs.length := by omega
   have hst222 := ((((hst9.front 2 rfl rfl).front 2 rfl rfl).front 2 rfl rfl)).nothing
   obtain ⟨c', hst', htree'⟩ := RefT.close (s := newTS cs) ((hst222.front 2 rfl rfl).front 2 rfl rfl) hi12 (snsOf_nil _ cs cs.length) hi13 (snsOf_agr cs) (newTS_wf cs) (newTS_small hcs hfs) (by show (rootsOf cs.length).length ≤ _; rw [rootsOf_len]; omega)
   exact ⟨_, _, _, rfl, hst'.keepN 1 rfl, _, c', rfl, rfl, htree'⟩
end Go.Fx.YtjpdhfhiimbpgaaGreatDoor
set_option linter.unusedSimpArgs false
set_option linter.unusedVariables false
set_option linter.unusedSectionVars false
namespace Go.Fx.YtjpdhfhiimbpgaaGreatDoor
open Go Go.Fx Go.Proofs
set_option maxRecDepth 20000
variable {m : List (Stp × Int)} {k : Int} {name : Str} {xl : List Lk} {i : Nat}
theorem link_found (h : AL.Ok m) (e : xl = lks m k) (hi : i < xl.length) (hn : xl[i].1 = name) : AL.get m (k, name) = some xl[i].2 := by
  subst e
  have hm := lks_of (m := m) (k := k) (List.getElem_mem hi)
  have := get_mem h hm
  rw [hn] at this
  exact this
theorem link_none (h : AL.Ok m) (e : xl = lks m k) (hl : ∀ j (hj : j < xl.length), j < i → ltS xl[j].1 name = true) (hg : ∀ hi : i < xl.length, ltS xl[i].1 name = false ∧ ¬ xl[i].1 = name) : AL.get m (k, name) = none := by
  cases hc : AL.get m (k, name) with
  | none => rfl
  | some v =>
    exfalso
    have hm := mem_of_get hc
    have hx : ((name, v) : Lk) ∈ xl := by
      rw [e]
      exact (lks_perm m k).mem_iff.2 (List.mem_map.2 ⟨((k, name), v), List.mem_filter.2 ⟨hm, by simp⟩, rfl⟩)
    obtain ⟨j, hj, ej⟩ := List.getElem_of_mem hx
    have hs : xl.Pairwise leL := by rw [e]; exact lks_sorted m k
    by_cases hji : j < i
    · have := hl j hj hji
      rw [ej, ltS_irr] at this
      cases this
    · have hi : i < xl.length := by omega
      obtain ⟨g1, g2⟩ := hg hi
      by_cases q : i = j
      · subst q
        exact g2 (by rw [ej])
      · have hle : leL xl[i] xl[j] := List.pairwise_iff_getElem.1 hs i j hi hj (by omega)
        rw [ej] at hle
        have hle2 : ltS name xl[i].1 = false := hle
        exact g2 (ltS_anti g1 hle2)
theorem mem_set_iff {κ β : Type} [DecidableEq κ] {m : List (κ × β)} {q : κ} {v : β} (h : AL.get m q = none) : AL.set m q v = m ++ [(q, v)] := by
  induction m with
  | nil => rfl
  | cons p m ih =>
    obtain ⟨a, b⟩ := p
    simp only [AL.get] at h
    simp only [AL.set]
    split at h
    · cases h
    · rename_i hne
      rw [if_neg hne, ih h]
      rfl
theorem lks_set_other {v : Int} {k' : Int} (h : AL.get m (k, name) = none) (hne : k' ≠ k) : lks (AL.set m (k, name) v) k' = lks m k' := by
  rw [mem_set_iff h]
  unfold lks
  rw [List.filter_append]
  have : ([((k, name), v)].filter fun e => decide (e.1.1 = k')) = [] := by simp [Ne.symm hne]
  rw [this, List.append_nil]
theorem lks_set {v : Int} (hok : AL.Ok m) (hok2 : AL.Ok (AL.set m (k, name) v)) (h : AL.get m (k, name) = none) (e : xl = lks m k) (hi : i ≤ xl.length) (hl : ∀ j (hj : j < xl.length), j < i → ltS xl[j].1 name = true) (hg : ∀ hi : i < xl.length, ltS xl[i].1 name = false ∧ ¬ xl[i].1 = name) :
    lks (AL.set m (k, name) v) k = xl.take i ++ ((name, v) :: xl.drop i) := by
  symm
  have hs : xl.Pairwise leL := by rw [e]; exact lks_sorted m k
  refine lks_uniq hok2 ?_ ?_
  · have h1 : (xl.take i ++ ((name, v) :: xl.drop i)).Perm ((name, v) :: xl) := by
      have := List.perm_middle (l₁ := xl.take i) (l₂ := xl.drop i) (a := ((name, v) : Lk))
      rwa [List.take_append_drop] at this
    have h2 : (lkB (AL.set m (k, name) v) k).Perm ((name, v) :: lkB m k) := by
      rw [mem_set_iff h]
      unfold lkB
      rw [List.filter_append, List.map_append]
      have : ([((k, name), v)].filter fun e => decide (e.1.1 = k)) = [((k, name), v)] := by simp
      rw [this]
      exact List.perm_append_comm
    refine h1.trans (List.Perm.trans ?_ h2.symm)
    rw [e]
    exact (lks_perm m k).cons _
  · rw [List.pairwise_append]
    refine ⟨hs.sublist (List.take_sublist _ _), ?_, fun a ha b hb => ?_⟩
    · refine List.pairwise_cons.2 ⟨fun b hb => ?_, hs.sublist (List.drop_sublist _ _)⟩
      obtain ⟨j, hj, rfl⟩ := List.getElem_of_mem hb
      rw [List.getElem_drop]
      have hij : i < xl.length := by simp at hj; omega
      have g := (hg hij).1
      by_cases q : j = 0
      · subst q; exact g
      · have hle : leL xl[i] (xl[i + j]'(by simp at hj; omega)) := List.pairwise_iff_getElem.1 hs i (i + j) hij _ (by omega)
        exact leL_trans (b := xl[i]) g hle
    · obtain ⟨j, hj, rfl⟩ := List.getElem_of_mem ha
      rw [List.getElem_take]
      have hjx : j < xl.length := by simp at hj; omega
      have hji : j < i := by simp at hj; omega
      rcases List.mem_cons.1 hb with rfl | hb
      · exact ltS_asymm (hl j hjx hji)
      · obtain ⟨q, hq, rfl⟩ := List.getElem_of_mem hb
        rw [List.getElem_drop]
        exact List.pairwise_iff_getElem.1 hs j (i + q) hjx (by simp at hq; omega) (by omega)
end Go.Fx.YtjpdhfhiimbpgaaGreatDoor
set_option linter.unusedSimpArgs false
set_option linter.unusedVariables false
set_option linter.unusedSectionVars false
namespace Go.Fx.YtjpdhfhiimbpgaaGreatDoor
open Go Go.Fx Go.Proofs
set_option maxRecDepth 20000
theorem less_eq : ∀ a b : List UInt8, Op.bytesLess a b = decide (a < b)
  | [], [] => by simp [Op.bytesLess]
  | [], b :: bs => by simp [Op.bytesLess]
  | a :: l, [] => by simp [Op.bytesLess]
  | a :: l, b :: bs => by
    have ih := less_eq l bs
    unfold Op.bytesLess
    rw [Bool.eq_iff_iff]
    simp only [List.cons_lt_cons_iff, decide_eq_true_eq]
    by_cases h : a < b
    · simp [h]
    · by_cases e : a = b
      · subst e; simp [h, ih]
      · have hba : b < a := by
          rcases UInt8.lt_or_lt_of_ne e with q | q
          · exact absurd q h
          · exact q
        simp [h, e, hba]
theorem x_lssS {P : Program} {w : World} {ρ : Operand → Value} {o : Oper} {t yt : TypeId} {p q : Operand} {a b : ByteArray} (ho : o.op = .binOp .lss t p q yt) (hx : ρ p = .string a) (hy : ρ q = .string b) : (execOp ρ o).run P w = .ok (.value (.bool (ltS a b))) w := by
  unfold execOp
  simp only [ho, hx, hy, eqGuard, binOp, Op.stringOp, Sem.run_bind, Sem.run_pure, Result.andThen_ok]
  unfold ltS bts
  rw [← less_eq, ByteArray.toList_eq, ByteArray.toList_eq]
  rfl
end Go.Fx.YtjpdhfhiimbpgaaGreatDoor
set_option linter.unusedSimpArgs false
set_option linter.unusedVariables false
set_option linter.unusedSectionVars false
namespace Go.Fx.YtjpdhfhiimbpgaaGreatDoor
open Go Go.Fx Go.Proofs
set_option maxRecDepth 20000
def lkF (f : Int → Int) (e : Lk) : Lk := (e.1, f e.2)
theorem insL_map (f : Int → Int) (e : Lk) (l : List Lk) : (insL e l).map (lkF f) = insL (lkF f e) (l.map (lkF f)) := by
  induction l with
  | nil => rfl
  | cons x l ih =>
    unfold insL
    by_cases h : ltS e.1 x.1 = true
    · rw [if_pos h]
      show lkF f e :: lkF f x :: l.map (lkF f) = if ltS (lkF f e).1 (lkF f x).1 = true then _ else _
      rw [if_pos (show ltS (lkF f e).1 (lkF f x).1 = true from h)]
    · rw [if_neg h]
      show lkF f x :: (insL e l).map (lkF f) = if ltS (lkF f e).1 (lkF f x).1 = true then _ else _
      rw [if_neg (show ¬ ltS (lkF f e).1 (lkF f x).1 = true from h), ih]
theorem lks_map (f : Int → Int) (m : List (Stp × Int)) (k : Int) : lks (m.map fun x => (x.1, f x.2)) k = (lks m k).map (lkF f) := by
  unfold lks
  rw [List.filter_map, List.map_map]
  have e : ((fun e : Stp × Int => decide (e.1.1 = k)) ∘ fun x : Stp × Int => (x.1, f x.2)) = fun e => decide (e.1.1 = k) := rfl
  rw [e]
  generalize m.filter (fun e => decide (e.1.1 = k)) = l
  induction l with
  | nil => rfl
  | cons x l ih =>
    simp only [List.map_cons, List.foldr_cons]
    rw [ih, insL_map]
    rfl
variable {n : Int} {s : TS}
/-- Of the roots only the one of c's class may lead to c. -/
theorem roots_redir (hw : WF s) (h : Core n s) {c : Nat} (hc : c < s.nodes.length) (hcc : cn s.nodes c = c) :
    s.roots.map (redir s.nodes c s.nodes.length) = if rootL s.nodes s.roots (ndL s.nodes c).cls = (c : Int) then s.roots.set (ndL s.nodes c).cls.toNat (s.nodes.length : Int) else s.roots := by
  have key : ∀ i : Nat, i < s.roots.length → ∀ r : Nat, s.roots.getD i 0 = (r : Int) → r < s.nodes.length → (cn s.nodes r = c → (ndL s.nodes c).cls = (i : Int)) := fun i hi r hr hrl e => by
    obtain ⟨r2, h1, h2, h3, _⟩ := h.root i hi
    rw [hr] at h1
    have e2 := Int.ofNat.inj h1
    subst e2
    have := cn_same hw.can h.ali hrl
    rw [e] at this
    rw [this.1]; exact h3
  have at_ : ∀ i (hi : i < s.roots.length), ∃ r : Nat, s.roots[i] = (r : Int) ∧ r < s.nodes.length ∧ s.roots.getD i 0 = (r : Int) := fun i hi => by
    obtain ⟨r, h1, h2, _⟩ := h.root i hi
    refine ⟨r, ?_, h2, h1⟩
    rw [← h1, List.getD_eq_getElem?_getD, List.getElem?_eq_getElem hi]; rfl
  have red : ∀ r : Nat, r < s.nodes.length → redir s.nodes c s.nodes.length (r : Int) = if cn s.nodes r = c then (s.nodes.length : Int) else (r : Int) := fun r hr => by
    unfold redir
    rw [canonN hw.can hr]
    by_cases e : cn s.nodes r = c
    · rw [if_pos e, if_pos (by rw [e])]
    · rw [if_neg e, if_neg (by omega)]
  have at2 : ∀ i (hi : i < s.roots.length) (h1 : i < (s.roots.map (redir s.nodes c s.nodes.length)).length), ∃ r : Nat, s.roots[i] = (r : Int) ∧ r < s.nodes.length ∧ (s.roots.map (redir s.nodes c s.nodes.length))[i] = (if cn s.nodes r = c then (s.nodes.length : Int) else (r : Int)) ∧ (cn s.nodes r = c → (ndL s.nodes c).cls = (i : Int)) := fun i hi h1 => by
    obtain ⟨r, g1, g2, g3⟩ := at_ i hi
    exact ⟨r, g1, g2, by rw [List.getElem_map, g1, red r g2], key i hi r g3 g2⟩
  by_cases hroot : rootL s.nodes s.roots (ndL s.nodes c).cls = (c : Int)
  · rw [if_pos hroot]
    have hb : 0 ≤ (ndL s.nodes c).cls ∧ (ndL s.nodes c).cls < (s.roots.length : Int) := by
      apply Classical.byContradiction
      intro hn
      rw [rootL_out hn] at hroot
      omega
    apply List.ext_getElem
    · simp
    · intro i h1 h2
      have hi : i < s.roots.length := by simpa using h1
      obtain ⟨r, g1, g2, g3, g4⟩ := at2 i hi h1
      rw [g3, List.getElem_set]
      by_cases q : (ndL s.nodes c).cls.toNat = i
      · have hk : (ndL s.nodes c).cls = (i : Int) := by omega
        rw [hk, rootL_in hi, g1, canonN hw.can g2] at hroot
        rw [if_pos q, if_pos (by omega)]
      · rw [if_neg q, if_neg (fun e => q (by have := g4 e; omega)), g1]
  · rw [if_neg hroot]
    apply List.ext_getElem
    · simp
    · intro i h1 h2
      have hi : i < s.roots.length := by simpa using h1
      obtain ⟨r, g1, g2, g3, g4⟩ := at2 i hi h1
      rw [g3, if_neg (fun e => hroot (by rw [g4 e, rootL_in hi, g1, canonN hw.can g2, e])), g1]
end Go.Fx.YtjpdhfhiimbpgaaGreatDoor
set_option linter.unusedSimpArgs false
set_option linter.unusedVariables false
set_option linter.unusedSectionVars false
namespace Go.Fx.YtjpdhfhiimbpgaaGreatDoor
open Go Go.Fx Go.Proofs
set_option maxRecDepth 20000
variable {s : TS} {xs : List Sn}
theorem AgrT.grown (h : AgrT xs s) (hw : WF s) {k c : Nat} {name : Str} {x : Nd} (hcn : cn s.nodes k = c) (hc : c < xs.length) (hok2 : AL.Ok (AL.set s.next ((c : Int), name) (s.nodes.length : Int))) (hget : AL.get s.next ((c : Int), name) = none) {xl : List Lk} (hxl : xl = lks s.next (c : Int)) {i : Nat} (hi : i ≤ xl.length)
    (hlt : ∀ j (hj : j < xl.length), j < i → ltS xl[j].1 name = true) (hge : ∀ hi : i < xl.length, ltS xl[i].1 name = false ∧ ¬ xl[i].1 = name) {y : Sn} (hy : y.nd = xs[c].nd) (hyl : y.lks = xl.take i ++ ((name, (s.nodes.length : Int)) :: xl.drop i)) :
    AgrT (xs.set c y ++ [⟨⟨x.cls, -1, x.names ++ [name]⟩, [], .slice none 0 0⟩]) (s.grown k x name) := by
  have hl := h.len
  refine ⟨?_, fun j hj => ?_⟩
  · show (xs.set c y ++ [_]).map Sn.nd = s.nodes ++ [_]
    rw [List.map_append, List.map_set, hy]
    congr 1
    have : (xs.map Sn.nd).set c xs[c].nd = xs.map Sn.nd := by
      have e : xs[c].nd = (xs.map Sn.nd)[c]'(by simpa using hc) := by simp
      rw [e, List.set_getElem_self]
    rw [this, h.1]
  · show _ = lks (AL.set s.next ((cn s.nodes k : Int), name) (s.nodes.length : Int)) (j : Int)
    rw [hcn]
    by_cases e : j < xs.length
    · rw [List.getElem_append_left (by simpa using e), List.getElem_set]
      split
      · rename_i q
        subst q
        rw [hyl, lks_set hw.ok hok2 hget hxl hi hlt hge]
      · rename_i q
        rw [lks_set_other (k' := (j : Int)) hget (by omega)]
        exact h.2 j e
    · have e2 : j = xs.length := by simp at hj; omega
      subst e2
      rw [List.getElem_append_right (by simp)]
      simp only [List.length_set, Nat.sub_self, List.getElem_cons_zero]
      rw [lks_set_other (k' := ((xs.length : Nat) : Int)) hget (by omega)]
      refine (lks_none fun q hq => ?_).symm
      obtain ⟨j2, h1, h2⟩ := hw.key q hq
      omega
theorem AgrT.split (h : AgrT xs s) (hw : WF s) {c : Nat} {xs' : List Sn} (hnd : xs'.map Sn.nd = xs.map Sn.nd) (hlk : ∀ j (hj : j < xs.length) (hj' : j < xs'.length), xs'[j].lks = xs[j].lks.map (lkF (redir s.nodes c s.nodes.length))) :
    AgrT (xs' ++ [⟨⟨(s.nd c).cls, -1, (s.nd c).names⟩, [], .slice none 0 0⟩]) (s.splitC c) := by
  have hl := h.len
  have hl' : xs'.length = xs.length := by have := congrArg List.length hnd; simpa using this
  refine ⟨?_, fun j hj => ?_⟩
  · show (xs' ++ [_]).map Sn.nd = s.nodes ++ [_]
    rw [List.map_append, hnd, h.1]
    rfl
  · show _ = lks (s.next.map fun x => (x.1, redir s.nodes c s.nodes.length x.2)) (j : Int)
    rw [lks_map]
    by_cases e : j < xs.length
    · rw [List.getElem_append_left (by omega), hlk j e (by omega), h.2 j e]
    · have e2 : j = xs'.length := by simp at hj; omega
      subst e2
      rw [List.getElem_append_right (Nat.le_refl _)]
      simp only [Nat.sub_self, List.getElem_cons_zero]
      have : lks s.next ((xs'.length : Nat) : Int) = [] := lks_none fun q hq => by
        obtain ⟨j2, h1, h2⟩ := hw.key q hq
        omega
      rw [this]
      rfl
theorem tySn_lk {R : Hp} {x : Sn} {c1 : List Value} (l : List Lk) {a : Option Addr} {n cap : Nat} (h : tySn.rel R x c1) : tySn.rel R ⟨x.nd, l, .slice a n cap⟩ (c1.take 3 ++ [.slice a n cap] ++ c1.drop (3 + 1)) := by
  obtain ⟨v, rfl, hv, _⟩ := tySn_open h
  exact tySn_mk (x := ⟨x.nd, l, .slice a n cap⟩) hv ⟨_, _, _, rfl⟩
theorem lk_mk (R : Hp) (t : Str) (n : Int) : Encs tyLk R [(t, n)] [.string t, .int .i64 n] := Encs.one (tyLk_mk R t n)
theorem ltA_step {xl : List Lk} {name : Str} {i : Nat} {hi : i < xl.length} (h : ∀ j (hj : j < xl.length), j < i → ltS xl[j].1 name = true) (e : ltS xl[i].1 name = true) : ∀ j (hj : j < xl.length), j < i + 1 → ltS xl[j].1 name = true := fun j hj hji => by
  by_cases q : j = i
  · subst q; exact e
  · exact h j hj (by omega)
theorem slot_cn {l : List Nd} (hS : Cans l) (ha : AliOk l) {k : Nat} (hk : k < l.length) {t : Str} {x : Nd} (hx : l[cn l k]? = some x) : (slotL l (k : Int) t).2 = decide (t ∈ x.names) := by
  have hc := hS.lt hk
  have e : x = ndL l (cn l k) := by rw [ndL_eq hc]; rw [List.getElem?_eq_getElem hc] at hx; exact (Option.some.inj hx).symm
  rw [Slot_in hk, namesN hk, e, (cn_same hS ha hk).2]
theorem set_self {xs : List Sn} {k : Nat} (hk : k < xs.length) {y : Sn} (e : y = xs[k]) : xs.set k y = xs := by rw [e, List.set_getElem_self]
/-- All links at once: those of one shape, and what the others read as. -/
theorem LnX.look3 {R : Hp} {xs : List Sn} {c : Hp} (h : LnX R xs c) (j : Nat) (hj : j < xs.length) :
    ∃ c1 c2, OwnL tyLk 91 R xs[j].v xs[j].lks c1 ∧ c = uni c1 c2 ∧ Dj c1 c2 ∧ (∀ R' y c1', Le R R' → OwnL tyLk 91 R' y.v y.lks c1' → Dj c1' c2 → LnX R' (xs.set j y) (uni c1' c2)) ∧
      (∀ R', Le R R' → Le c2 R' → RdS tyLk R' xs[j].v xs[j].lks → ∀ x ∈ xs, RdS tyLk R' x.v x.lks) := by
  induction h generalizing j with
  | nil => simp at hj
  | @cons x xs c1 c2 h1 h2 hd ih =>
    cases j with
    | zero => exact ⟨c1, c2, h1, rfl, hd, fun R' y c1' l hy hd' => .cons hy (h2.mono l) hd', fun R' l k hx y hy => by
        rcases List.mem_cons.1 hy with rfl | hy
        · exact hx
        · exact h2.read l k y hy⟩
    | succ j =>
      obtain ⟨c3, c4, h3, rfl, hd3, hk, hr⟩ := ih j (by simpa using hj)
      have hd2 : Dj c1 c3 ∧ Dj c1 c4 := by
        have := Dj.of_uni_left hd.symm
        exact ⟨this.1.symm, this.2.symm⟩
      refine ⟨c3, uni c1 c4, h3, ?_, Dj.uni_r hd2.1.symm hd3, fun R' y c1' l hy hd' => ?_, fun R' l k hx y hy => ?_⟩
      · rw [← uni_assoc, uni_comm hd2.1, uni_assoc]
      · have k3 := Dj.of_uni_left hd'.symm
        have := LnX.cons (h1.mono l) (hk R' y c1' l hy k3.2.symm) (Dj.uni_r k3.1 hd2.2)
        rw [← uni_assoc, uni_comm k3.1, uni_assoc] at this
        simpa using this
      · rcases List.mem_cons.1 hy with rfl | hy
        · exact h1.freeze l ((uni_l _ _).trans k)
        · exact hr R' l ((uni_r hd2.2).trans k) (by simpa using hx) y hy
end Go.Fx.YtjpdhfhiimbpgaaGreatDoor
set_option linter.unusedSimpArgs false
set_option linter.unusedVariables false
namespace Go.Fx.YtjpdhfhiimbpgaaGreatDoor
open Go Go.Fx Go.Proofs
set_option maxRecDepth 20000
theorem ent_32 : Ent Tryz.prog 32 := fun _ _ => by kernel_rfl
set_option maxHeartbeats 1000000 in
theorem AddR_spec {w : World} {R c : Hp} {p : Nat} {s : TS} (k : Int) (name : Str) (hs : Sats w R [c]) (htree : RefT R p s c) (hmx : s.nodes.length ≤ 900000) (hnx : s.next.length ≤ 900000) (hal : AliOk s.nodes) :
    Calls Tryz.prog 50 #[ptr p 0, int k, .string name] w (Comes' w R [c] fun v' R' L' => ∃ c', v' = .tuple #[int (s.add k name).1, int (s.add k name).2.1] ∧ L' = [c'] ∧ RefT R' p ((s.add k name).2.2) c') := by
 obtain ⟨xs, vL, vR, cL, cX, cR, hce, hd1, hd2, hd3, hL, hX, hRs, hag, hwf, hS, hrl⟩ := htree
 have hst1 : Step w R [c] w R [uni (refB p vL vR) (tri cL cX cR)] := by have h0 := Step.refl hs; rw [hce] at h0 ⊢; exact h0
 have hst := RefT.opened hst1 hd1 hd2 hd3
 clear hst1 hce hd1 hd2 hd3
 have hlen := hS.len
 have hrv := hwf.root
 have hxl := hag.len
 refine calls_of_W (n := 142) Tryz.func50 rfl Tryz.ntmps50 (Nat.le_of_ble_eq_true rfl) ?_
 refine W_seq ?_
 refine W_region_lit ?_
 refine Lq (int 0) rfl rfl rfl rfl ?_
 refine Lq (int 0) rfl rfl rfl rfl ?_
 refine L_nil ?_
 refine W_seq ?_
 refine W_seq ?_
 refine W_region_lit ?_
 refine Lq (ptr p 0) rfl rfl rfl rfl ?_
 refine Lq (int k) rfl rfl rfl rfl ?_
 have hne2 := nds_xs hag.1
 have hv1 : RefV (hp w) p (List.map Sn.sh xs) s.roots := ⟨_, _, (hst.g 0), RdS.shape (v := vL) (OwnL.freeze hL hst.rle' (hst.g 1)) (LnX.read hX hst.rle' (hst.g 2)), OwnL.freeze (v := vR) hRs hst.rle' (hst.g 3), by rw [hne2]; exact hS, by rw [hne2]; exact hrv, hrl⟩
 refine L_callG hst (v := (.bool (thereL s.nodes k))) rfl rfl rfl (x_call (vs := #[(ptr p 0), (int k)]) rfl rfl (by kernel_rfl) ent_62) (by have h_ := (thereR_spec k hv1 (Le.refl _)); rw [hne2] at h_; exact h_) (fun w3 hst4 => ?_)
 refine Lq (.bool (!(thereL s.nodes k))) rfl rfl rfl rfl ?_
 refine L_nil ?_
 rcases Bool.eq_false_or_eq_true (thereL s.nodes k) with c5 | c5
 ·
  have q6 := thereL_iff.1 c5
  refine W_cond_false (by show Value.bool _ = _; exact congrArg Value.bool (by rw [c5]; rfl)) ?_
  refine W_skip ?_
  refine W_seq ?_
  refine W_region_lit ?_
  refine Lq (ptr p 0) rfl rfl rfl rfl ?_
  refine Lq (int k) rfl rfl rfl rfl ?_
  refine Lq (.string name) rfl rfl rfl rfl ?_
  have hne8 := nds_xs hag.1
  have hv7 : RefV (hp w3) p (List.map Sn.sh xs) s.roots := ⟨_, _, (hst4.g 0), RdS.shape (v := vL) (OwnL.freeze hL hst4.rle' (hst4.g 1)) (LnX.read hX hst4.rle' (hst4.g 2)), OwnL.freeze (v := vR) hRs hst4.rle' (hst4.g 3), by rw [hne8]; exact hS, by rw [hne8]; exact hrv, hrl⟩
  refine L_callG hst4 (v := (.tuple #[(int ((slotL s.nodes k name).1)), (.bool ((slotL s.nodes k name).2))])) rfl rfl rfl (x_call (vs := #[(ptr p 0), (int k), (.string name)]) rfl rfl (by kernel_rfl) ent_32) (by have h_ := (SlotR_spec k name hv7 (Le.refl _)); rw [hne8] at h_; exact h_) (fun w9 hst10 => ?_)
  refine Lq (.tuple #[(int ((slotL s.nodes k name).1)), (.bool ((slotL s.nodes k name).2))]) rfl rfl rfl rfl ?_
  refine Lq (int ((slotL s.nodes k name).1)) rfl rfl rfl (by kernel_rfl) ?_
  refine Lq (.bool ((slotL s.nodes k name).2)) rfl rfl rfl (by kernel_rfl) ?_
  refine Lq (int ((slotL s.nodes k name).1)) rfl rfl rfl rfl ?_
  refine Lq (.bool ((slotL s.nodes k name).2)) rfl rfl rfl rfl ?_
  refine L_nil ?_
  refine W_seq ?_
  refine W_seq ?_
  refine W_region_lit ?_
  refine Lq (.string name) rfl rfl rfl rfl ?_
  refine Lq (.bool (decide (name = ⟨#[]⟩))) rfl rfl rfl (x_eqlD rfl rfl rfl) ?_
  refine Lq (.bool (decide (name = ⟨#[]⟩))) rfl rfl rfl rfl ?_
  rcases Bool.eq_false_or_eq_true (decide (name = ⟨#[]⟩)) with c11 | c11
  ·
   have q12 := of_decide_eq_true c11
   refine L_unwanted rfl rfl rfl rfl (by rw [c11]; try rfl) rfl rfl ?_
   refine Lq (.bool true) rfl rfl rfl (x_pick rfl rfl (by rw [c11]; rfl)) ?_
   refine L_nil ?_
   refine W_cond_true (by show Value.bool _ = _; exact congrArg Value.bool rfl) ?_
   refine W_seq ?_
   refine W_region_lit ?_
   refine Lq (int 0) rfl rfl rfl rfl ?_
   refine Lq (int 13) rfl rfl rfl rfl ?_
   refine L_nil ?_
   refine W_ret ?_
   refine ⟨_, _, res_run (rs := [.tmp 6, .tmp 7]) (vs := [(int 0), (int 13)]) Tryz.results50 (.cons (.tmp rfl) (.cons (.tmp rfl) .nil)) rfl, ?_⟩
   obtain ⟨kn, rfl⟩ : ∃ j : Nat, k = (j : Int) := ⟨k.toNat, by omega⟩
   have hx_ : s.nodes[cn s.nodes kn]? = some (s.nodes[cn s.nodes kn]'(hS.can.lt (by omega))) := List.getElem?_eq_getElem _
   have he := add_name (s := s) (name := name) (k := kn) (by omega) hx_ (.inl (of_decide_eq_true c11))
   rw [he]
   obtain ⟨c', hst', htree'⟩ := RefT.close (s := s) ((((hst10.front 3 rfl rfl).front 3 rfl rfl).front 3 rfl rfl).front 3 rfl rfl) hL hX hRs hag hwf hS hrl
   exact ⟨_, _, _, rfl, hst'.keepN 1 rfl, c', rfl, rfl, htree'⟩
  ·
   have q13 := of_decide_eq_false c11
   refine L_guard rfl rfl rfl rfl c11 ?_
   refine Lq (.bool ((slotL s.nodes k name).2)) rfl rfl rfl rfl ?_
   refine Lq (.bool ((slotL s.nodes k name).2)) rfl rfl rfl (x_pick rfl rfl (by rw [c11]; rfl)) ?_
   refine L_nil ?_
   rcases Bool.eq_false_or_eq_true ((slotL s.nodes k name).2) with c14 | c14
   ·
    refine W_cond_true (by show Value.bool _ = _; exact congrArg Value.bool c14) ?_
    refine W_seq ?_
    refine W_region_lit ?_
    refine Lq (int 0) rfl rfl rfl rfl ?_
    refine Lq (int 13) rfl rfl rfl rfl ?_
    refine L_nil ?_
    refine W_ret ?_
    refine ⟨_, _, res_run (rs := [.tmp 6, .tmp 7]) (vs := [(int 0), (int 13)]) Tryz.results50 (.cons (.tmp rfl) (.cons (.tmp rfl) .nil)) rfl, ?_⟩
    obtain ⟨kn, rfl⟩ : ∃ j : Nat, k = (j : Int) := ⟨k.toNat, by omega⟩
    have hx_ : s.nodes[cn s.nodes kn]? = some (s.nodes[cn s.nodes kn]'(hS.can.lt (by omega))) := List.getElem?_eq_getElem _
    have he := add_name (s := s) (name := name) (k := kn) (by omega) hx_ (.inr (by have h_ := c14; rw [slot_cn hS.can hal (by omega) hx_] at h_; exact of_decide_eq_true h_))
    rw [he]
    obtain ⟨c', hst', htree'⟩ := RefT.close (s := s) ((((hst10.front 3 rfl rfl).front 3 rfl rfl).front 3 rfl rfl).front 3 rfl rfl) hL hX hRs hag hwf hS hrl
    exact ⟨_, _, _, rfl, hst'.keepN 1 rfl, c', rfl, rfl, htree'⟩
   ·
    refine W_cond_false (by show Value.bool _ = _; exact congrArg Value.bool c14) ?_
    refine W_skip ?_
    refine W_seq ?_
    obtain ⟨kn, rfl⟩ : ∃ n : Nat, k = (n : Int) := ⟨k.toNat, by omega⟩
    refine W_region_lit ?_
    refine Lq (ptr p 0) rfl rfl rfl rfl ?_
    refine Lq (int (kn : Int)) rfl rfl rfl rfl ?_
    have hne16 := nds_xs hag.1
    have hv15 : RefV (hp w9) p (List.map Sn.sh xs) s.roots := ⟨_, _, (hst10.g 0), RdS.shape (v := vL) (OwnL.freeze hL hst10.rle' (hst10.g 1)) (LnX.read hX hst10.rle' (hst10.g 2)), OwnL.freeze (v := vR) hRs hst10.rle' (hst10.g 3), by rw [hne16]; exact hS, by rw [hne16]; exact hrv, hrl⟩
    have hcl17 : cn s.nodes kn < s.nodes.length := Cans.lt hS.can (by omega)
    have hq18 := canonN hS.can (k := kn) (by omega)
    refine L_callG hst10 (v := (int (((cn s.nodes kn) : Nat) : Int))) rfl rfl rfl (x_call (vs := #[(ptr p 0), (int (kn : Int))]) rfl rfl (by kernel_rfl) ent_35) (by have h_ := (by have h_ := (CanonR_spec (kn : Int) hv15 (Le.refl _)); rw [hne16] at h_; exact h_); rw [hq18] at h_; exact h_) (fun w19 hst20 => ?_)
    refine Lq (int (((cn s.nodes kn) : Nat) : Int)) rfl rfl rfl rfl ?_
    refine L_nil ?_
    refine W_seq ?_
    refine W_region_lit ?_
    refine Lq (ptr p 0) rfl rfl rfl rfl ?_
    refine Lq (ptr p 0) rfl rfl rfl rfl ?_
    refine Lq (ptr p 0) rfl rfl rfl (by kernel_rfl) ?_
    refine Lq vL rfl rfl rfl (x_load rfl rfl (run_loadVar_one ti_70 (hst20.b 0) rfl)) ?_
    refine Lq (int (((cn s.nodes kn) : Nat) : Int)) rfl rfl rfl rfl ?_
    obtain ⟨a21, cap22, e23, hc24⟩ := hL.value
    subst e23
    obtain ⟨b25, cap26, N27, e28, hc29, hrow30, hback31⟩ := OwnL.row hL (by omega)
    obtain ⟨rfl, hl32, rfl⟩ := Value.slice.inj e28
    try rw [← hl32] at hback31
    obtain ⟨cl33, cs34, hr35, hcb36, hsg37⟩ := Row.at hrow30 (cn s.nodes kn) (by omega)
    obtain ⟨x38, hx39⟩ : ∃ x_, x_ = (xs[(cn s.nodes kn)]'(by omega)) := ⟨_, rfl⟩
    rw [← hx39] at hr35
    have hnd40 := hag.at (by omega) hx39
    have hlk47 := hag.2 (cn s.nodes kn) (by omega)
    rw [← hx39] at hlk47
    have hbn : x38.nd.names.length ≤ 1000000 := by rw [← hnd40]; exact hS.names _ _
    obtain ⟨vn41, rfl, hvn42, a43, n44, cap45, e46⟩ := tySn_open hr35
    obtain ⟨xn, xl, xv⟩ := x38
    dsimp only at hnd40 hlk47 hvn42 hbn e46
    subst e46
    refine Lq (ptr b25 (0 + (cn s.nodes kn) * 4)) rfl rfl rfl (x_indexAddr' rfl sl_70 ti_75 rfl rfl (by omega)) ?_
    refine Lq (.agg #[(int xn.cls), (int xn.ali), vn41, (.slice a43 n44 cap45)]) rfl rfl rfl (x_load rfl rfl (run_loadVar_agg ti_75 ((hst20.g 1) _ _ hcb36) hsg37 rfl)) ?_
    refine L_new hst20 (v := fun b => ptr b 0) (ob := .cells #[(int 0), (int 0), (.slice none 0 0), (.slice none 0 0)] 75 (0, 0)) rfl rfl rfl (by kernel_rfl) (fun b48 w49 hst50 => ?_)
    obtain ⟨a51, cap52, e53, hc54⟩ := hvn42.shape
    subst e53
    refine L_store hst50 0 ti_75 rfl rfl rfl rfl rfl rfl rfl rfl rfl rfl rfl (fun w55 hst56 => ?_)
    change Step _ _ _ _ _ [one b48 (.cells #[(int xn.cls), (int xn.ali), (.slice a51 xn.names.length cap52), (.slice a43 n44 cap45)] 75 (0, 0)), one p (.cells #[(.slice (some ⟨b25, 0, none⟩) xs.length cap22), vR] 72 (0, 0)), cL, cX, cR] at hst56
    refine L_nil ?_
    refine W_seq ?_
    have ho57 := (hback31 R xs cL (by first | rfl | (simp only [List.length_set]; done) | (simp only [List.length_set]; omega) | omega) hrow30)
    obtain ⟨c1, c2, hE, hce2, hdE, hback, hread⟩ := hX.look3 (cn s.nodes kn) (by omega)
    rw [← hx39] at hE hread
    obtain ⟨a9, cap9, e9, hcp9⟩ := hE.value
    dsimp only at hE e9 hcp9
    obtain ⟨rfl, rfl, rfl⟩ := Value.slice.inj e9
    have hxlb : xl.length ≤ s.next.length := by rw [hlk47]; exact lks_len _ _
    have hst58 := (hst56.front 3 rfl rfl)
    rw [hce2] at hst58
    have hst59 := hst58.split hdE
    refine W_region_lit ?_
    refine Lq (int 0) rfl rfl rfl rfl ?_
    refine L_nil ?_
    refine W_seq ?_
    refine W_block ?_
    refine W_loop (I := fun σ w_ m_ => ∃ (σ0 : Fr) (i_ : Nat) (cE : Hp), σ = upd (upd (upd (upd (upd (upd (upd (upd (upd (upd (upd (upd (upd (upd (upd (upd (upd (upd (upd (upd (upd (upd (upd (upd (upd (upd (upd (upd (upd (upd (upd (upd (upd (upd (upd σ0 0 (ptr p 0)) 1 (int (kn : Int))) 2 (.string name)) 6 (int 0)) 7 (int 0)) 9 (.bool ((slotL s.nodes (kn : Int) name).2))) 10 (int (((cn s.nodes kn) : Nat) : Int))) 11 (ptr b48 0)) 12 (int (i_ : Int))) 15 (ptr p 0)) 16 (int (kn : Int))) 17 (.bool (thereL s.nodes (kn : Int)))) 18 (.bool (!(thereL s.nodes (kn : Int))))) 19 (.tuple #[(int ((slotL s.nodes (kn : Int) name).1)), (.bool ((slotL s.nodes (kn : Int) name).2))])) 20 (ptr p 0)) 21 (int (kn : Int))) 22 (.string name)) 23 (.tuple #[(int ((slotL s.nodes (kn : Int) name).1)), (.bool ((slotL s.nodes (kn : Int) name).2))])) 24 (int ((slotL s.nodes (kn : Int) name).1))) 25 (.bool ((slotL s.nodes (kn : Int) name).2))) 26 (.string name)) 27 (.bool (decide (name = ⟨#[]⟩)))) 28 (.bool (decide (name = ⟨#[]⟩)))) 29 (.bool ((slotL s.nodes (kn : Int) name).2))) 30 (.bool ((slotL s.nodes (kn : Int) name).2))) 31 (ptr p 0)) 32 (int (kn : Int))) 33 (int (((cn s.nodes kn) : Nat) : Int))) 34 (ptr p 0)) 35 (ptr p 0)) 36 (ptr p 0)) 37 (.slice (some ⟨b25, 0, none⟩) xs.length cap22)) 38 (int (((cn s.nodes kn) : Nat) : Int))) 39 (ptr b25 (0 + (cn s.nodes kn) * 4))) 40 (.agg #[(int xn.cls), (int xn.ali), (.slice a51 xn.names.length cap52), (.slice a43 xl.length cap45)]) ∧ mks (σ0 0) = [] ∧ Step w R [c] w_ R [cE, c2, one b48 (.cells #[(int xn.cls), (int xn.ali), (.slice a51 xn.names.length cap52), (.slice a43 xl.length cap45)] 75 (0, 0)), one p (.cells #[(.slice (some ⟨b25, 0, none⟩) xs.length cap22), vR] 72 (0, 0)), cL, cR] ∧ OwnL tyLk 91 R (.slice a43 xl.length cap45) xl cE ∧ i_ ≤ xl.length ∧ (∀ j (hj : j < xl.length), j < i_ → ltS xl[j].1 name = true) ∧ m_ = xl.length - i_) (m := xl.length - 0) ?_ ?_
    ·
     exact ⟨_, 0, c1, (upd_of (upd_of (upd_of (upd_of (upd_of (upd_of (upd_of (upd_of (upd_of (upd_of (upd_of (upd_of (upd_of (upd_of (upd_of (upd_of (upd_of (upd_of (upd_of (upd_of (upd_of (upd_of (upd_of (upd_of (upd_of (upd_of (upd_of (upd_of (upd_of (upd_of (upd_of (upd_of (upd_of (upd_of (upd_of rfl rfl) rfl) rfl) rfl) rfl) rfl) rfl) rfl) rfl) rfl) rfl) rfl) rfl) rfl) rfl) rfl) rfl) rfl) rfl) rfl) rfl) rfl) rfl) rfl) rfl) rfl) rfl) rfl) rfl) rfl) rfl) rfl) rfl) rfl) rfl), rfl, ((((((hst59.front 5 rfl rfl).front 5 rfl rfl).front 5 rfl rfl).front 5 rfl rfl).front 5 rfl rfl).front 5 rfl rfl), hE, (by omega), (fun j hj h => absurd h (by omega)), rfl⟩
    ·
     rintro m70 σ_ w62 ⟨s67, i_68, cE69, rfl, hmk60, hst61, hi64, hf65, hf66, rfl⟩
     refine W_seq ?_
     refine W_seq ?_
     refine W_region_lit ?_
     refine Lq (int (i_68 : Int)) rfl rfl rfl rfl ?_
     refine Lq (ptr b48 3) rfl rfl rfl (by kernel_rfl) ?_
     refine Lq (.slice a43 xl.length cap45) rfl rfl rfl (x_load rfl rfl (run_loadVar_one ti_73 (hst61.b 2) rfl)) ?_
     refine Lq (int (xl.length : Int)) rfl rfl rfl (x_len_slice rfl sl_73 rfl) ?_
     refine Lq (.bool (decide ((i_68 : Int) < (xl.length : Int)))) rfl rfl rfl (by kernel_rfl) ?_
     refine Lq (.bool (decide ((i_68 : Int) < (xl.length : Int)))) rfl rfl rfl rfl ?_
     rcases Bool.eq_false_or_eq_true (decide ((i_68 : Int) < (xl.length : Int))) with c71 | c71
     ·
      have q72 := of_decide_eq_true c71
      refine L_guard rfl rfl rfl rfl c71 ?_
      refine Lq (ptr b48 3) rfl rfl rfl (by kernel_rfl) ?_
      refine L_guard rfl rfl rfl rfl c71 ?_
      refine Lq (.slice a43 xl.length cap45) rfl rfl rfl (x_load rfl rfl (run_loadVar_one ti_73 (hst61.b 2) rfl)) ?_
      refine L_guard rfl rfl rfl rfl c71 ?_
      refine Lq (int (i_68 : Int)) rfl rfl rfl rfl ?_
      refine L_guard rfl rfl rfl rfl c71 ?_
      obtain ⟨b73, cap74, N75, e76, hc77, hrow78, hback79⟩ := OwnL.row hi64 (by omega)
      obtain ⟨rfl, hl80, rfl⟩ := Value.slice.inj e76
      try rw [← hl80] at hback79
      obtain ⟨cl81, cs82, hr83, hcb84, hsg85⟩ := Row.at hrow78 i_68 (by omega)
      have hx86 := tyLk_open hr83
      subst hx86
      refine Lq (ptr b73 (0 + i_68 * 2)) rfl rfl rfl (x_indexAddr' rfl sl_73 ti_91 rfl rfl (by omega)) ?_
      refine L_guard rfl rfl rfl rfl c71 ?_
      refine Lq (ptr b73 (0 + i_68 * 2)) rfl rfl rfl (by kernel_rfl) ?_
      refine L_guard rfl rfl rfl rfl c71 ?_
      refine Lq (.string ((xl[i_68]'(by omega)).1)) rfl rfl rfl (x_load rfl rfl (run_loadVar_one ti_9 ((hst61.g 0) _ _ hcb84) (seg_get (j := 0) hsg85 rfl))) ?_
      refine L_guard rfl rfl rfl rfl c71 ?_
      refine Lq (.string name) rfl rfl rfl rfl ?_
      refine L_guard rfl rfl rfl rfl c71 ?_
      refine Lq (.bool (ltS ((xl[i_68]'(by omega)).1) name)) rfl rfl rfl (x_lssS rfl rfl rfl) ?_
      refine Lq (.bool (ltS ((xl[i_68]'(by omega)).1) name)) rfl rfl rfl (x_pick rfl rfl (by rw [c71]; rfl)) ?_
      refine L_nil ?_
      rcases Bool.eq_false_or_eq_true (ltS ((xl[i_68]'(by omega)).1) name) with c87 | c87
      ·
       refine W_cond_true (by show Value.bool _ = _; exact congrArg Value.bool c87) ?_
       refine W_skip ?_
       refine W_block ?_
       refine W_region_lit ?_
       refine Lq (int (i_68 : Int)) rfl rfl rfl rfl ?_
       refine Lq (int ((i_68 + 1 : Nat) : Int)) rfl rfl rfl (x_add_nat rfl rfl rfl (by omega)) ?_
       refine Lq (int ((i_68 + 1 : Nat) : Int)) rfl rfl rfl rfl ?_
       refine L_nil ?_
       refine ⟨xl.length - (i_68 + 1), by first | omega | (simp only [List.length_append, List.length_cons, List.length_nil]; omega), ?_⟩
       exact ⟨_, (i_68 + 1), cE69, (upd_of (upd_of (upd_of (upd_of (upd_of (upd_of (upd_of (upd_of (upd_of (upd_of (upd_of (upd_of (upd_of (upd_of (upd_of (upd_of (upd_of (upd_of (upd_of (upd_of (upd_of (upd_of (upd_of (upd_of (upd_of (upd_of (upd_of (upd_of (upd_of (upd_of (upd_of (upd_of (upd_of (upd_of (upd_of rfl rfl) rfl) rfl) rfl) rfl) rfl) rfl) rfl) rfl) rfl) rfl) rfl) rfl) rfl) rfl) rfl) rfl) rfl) rfl) rfl) rfl) rfl) rfl) rfl) rfl) rfl) rfl) rfl) rfl) rfl) rfl) rfl) rfl) rfl) rfl), hmk60, ((((((hst61.front 5 rfl rfl).front 5 rfl rfl).front 5 rfl rfl).front 5 rfl rfl).front 5 rfl rfl).front 5 rfl rfl), (hback79 R xl cE69 (by first | rfl | (simp only [List.length_set]; done) | (simp only [List.length_set]; omega) | omega) hrow78), (by omega), (ltA_step (hi := by omega) hf66 c87), rfl⟩
      ·
       refine W_cond_false (by show Value.bool _ = _; exact congrArg Value.bool c87) ?_
       refine W_exit ?_
       refine W_seq ?_
       refine W_seq ?_
       refine W_region_lit ?_
       refine Lq (int (i_68 : Int)) rfl rfl rfl rfl ?_
       refine Lq (ptr b48 3) rfl rfl rfl (by kernel_rfl) ?_
       refine Lq (.slice (some ⟨b73, 0, none⟩) xl.length cap45) rfl rfl rfl (x_load rfl rfl (run_loadVar_one ti_73 (hst61.b 2) rfl)) ?_
       refine Lq (int (xl.length : Int)) rfl rfl rfl (x_len_slice rfl sl_73 rfl) ?_
       refine Lq (.bool (decide ((i_68 : Int) < (xl.length : Int)))) rfl rfl rfl (by kernel_rfl) ?_
       refine Lq (.bool (decide ((i_68 : Int) < (xl.length : Int)))) rfl rfl rfl rfl ?_
       refine L_guard rfl rfl rfl rfl c71 ?_
       refine Lq (ptr b48 3) rfl rfl rfl (by kernel_rfl) ?_
       refine L_guard rfl rfl rfl rfl c71 ?_
       refine Lq (.slice (some ⟨b73, 0, none⟩) xl.length cap45) rfl rfl rfl (x_load rfl rfl (run_loadVar_one ti_73 (hst61.b 2) rfl)) ?_
       refine L_guard rfl rfl rfl rfl c71 ?_
       refine Lq (int (i_68 : Int)) rfl rfl rfl rfl ?_
       refine L_guard rfl rfl rfl rfl c71 ?_
       obtain ⟨cl88, cs89, hr90, hcb91, hsg92⟩ := Row.at hrow78 i_68 (by omega)
       have hx93 := tyLk_open hr90
       subst hx93
       refine Lq (ptr b73 (0 + i_68 * 2)) rfl rfl rfl (x_indexAddr' rfl sl_73 ti_91 rfl rfl (by omega)) ?_
       refine L_guard rfl rfl rfl rfl c71 ?_
       refine Lq (ptr b73 (0 + i_68 * 2)) rfl rfl rfl (by kernel_rfl) ?_
       refine L_guard rfl rfl rfl rfl c71 ?_
       refine Lq (.string ((xl[i_68]'(by omega)).1)) rfl rfl rfl (x_load rfl rfl (run_loadVar_one ti_9 ((hst61.g 0) _ _ hcb91) (seg_get (j := 0) hsg92 rfl))) ?_
       refine L_guard rfl rfl rfl rfl c71 ?_
       refine Lq (.string name) rfl rfl rfl rfl ?_
       refine L_guard rfl rfl rfl rfl c71 ?_
       refine Lq (.bool (decide ((xl[i_68]'(by omega)).1 = name))) rfl rfl rfl (x_eqlD rfl rfl rfl) ?_
       refine Lq (.bool (decide ((xl[i_68]'(by omega)).1 = name))) rfl rfl rfl (x_pick rfl rfl (by rw [c71]; rfl)) ?_
       refine L_nil ?_
       rcases Bool.eq_false_or_eq_true (decide ((xl[i_68]'(by omega)).1 = name)) with c94 | c94
       ·
        have q95 := of_decide_eq_true c94
        refine W_cond_true (by show Value.bool _ = _; exact congrArg Value.bool c94) ?_
        refine W_seq ?_
        refine W_region_lit ?_
        refine Lq (ptr p 0) rfl rfl rfl rfl ?_
        refine Lq (ptr b48 3) rfl rfl rfl (by kernel_rfl) ?_
        refine Lq (.slice (some ⟨b73, 0, none⟩) xl.length cap45) rfl rfl rfl (x_load rfl rfl (run_loadVar_one ti_73 (hst61.b 2) rfl)) ?_
        refine Lq (int (i_68 : Int)) rfl rfl rfl rfl ?_
        obtain ⟨cl96, cs97, hr98, hcb99, hsg100⟩ := Row.at hrow78 i_68 (by omega)
        have hx101 := tyLk_open hr98
        subst hx101
        refine Lq (ptr b73 (0 + i_68 * 2)) rfl rfl rfl (x_indexAddr' rfl sl_73 ti_91 rfl rfl (by omega)) ?_
        refine Lq (ptr b73 (0 + i_68 * 2 + 1)) rfl rfl rfl (by kernel_rfl) ?_
        refine Lq (int ((xl[i_68]'(by omega)).2)) rfl rfl rfl (x_load rfl rfl (run_loadVar_one ti_3 ((hst61.g 0) _ _ hcb99) (seg_get (j := 1) hsg100 rfl))) ?_
        have hne103 := nds_xs hag.1
        have hv102 : RefV (hp w62) p (List.map Sn.sh xs) s.roots := ⟨_, _, (hst61.g 3), RdS.shape (v := (.slice (some ⟨b25, 0, none⟩) xs.length cap22)) (OwnL.freeze ho57 hst61.rle' (hst61.g 4)) (hread _ hst61.rle' (hst61.g 1) (OwnL.freeze (hback79 R xl cE69 (by first | rfl | (simp only [List.length_set]; done) | (simp only [List.length_set]; omega) | omega) hrow78) hst61.rle' (hst61.g 0))), OwnL.freeze (v := vR) hRs hst61.rle' (hst61.g 5), by rw [hne103]; exact hS, by rw [hne103]; exact hrv, hrl⟩
        refine L_callG hst61 (v := (int (canon s.nodes ((xl[i_68]'(by omega)).2)))) rfl rfl rfl (x_call (vs := #[(ptr p 0), (int ((xl[i_68]'(by omega)).2))]) rfl rfl (by kernel_rfl) ent_35) (by have h_ := (CanonR_spec ((xl[i_68]'(by omega)).2) hv102 (Le.refl _)); rw [hne103] at h_; exact h_) (fun w104 hst105 => ?_)
        refine Lq (int (canon s.nodes ((xl[i_68]'(by omega)).2))) rfl rfl rfl rfl ?_
        refine Lq (int 0) rfl rfl rfl rfl ?_
        refine L_nil ?_
        refine W_ret ?_
        refine ⟨_, _, res_run (rs := [.tmp 6, .tmp 7]) (vs := [(int (canon s.nodes ((xl[i_68]'(by omega)).2))), (int 0)]) Tryz.results50 (.cons (.tmp rfl) (.cons (.tmp rfl) .nil)) hmk60, ?_⟩
        have hx_ : s.nodes[cn s.nodes kn]? = some xn := by rw [List.getElem?_eq_getElem (by omega), hnd40]
        have hm_ : ¬ name ∈ xn.names := by have h_ := c14; rw [slot_cn hS.can hal (by omega) hx_] at h_; exact of_decide_eq_false h_
        have hg_ := link_found (i := i_68) hwf.ok hlk47 (by omega) (of_decide_eq_true c94)
        have he := add_link (s := s) (x := xn) (name := name) (k := kn) (by omega) hx_ (of_decide_eq_false c11) hm_ (by rw [hg_]; rfl)
        rw [hg_] at he
        rw [he]
        have hst106 := (((((hst105.front 5 rfl rfl).front 5 rfl rfl).front 5 rfl rfl).front 4 rfl rfl).front 4 rfl rfl)
        have hd107 := (List.pairwise_cons.1 hst106.sats.dj).1 _ (List.mem_cons_self ..)
        have hX108 := hback _ (Sn.mk xn xl (.slice (some ⟨b73, 0, none⟩) xl.length cap45)) _ (Le.refl _) (hback79 R xl cE69 (by first | rfl | (simp only [List.length_set]; done) | (simp only [List.length_set]; omega) | omega) hrow78) hd107
        rw [set_self (by omega) hx39] at hX108
        obtain ⟨c', hst', htree'⟩ := RefT.close (s := s) ((hst106.join.front 2 rfl rfl).front 2 rfl rfl) ho57 hX108 hRs hag hwf hS hrl
        exact ⟨_, _, _, rfl, hst'.keepN 1 rfl, c', rfl, rfl, htree'⟩
       ·
        have q109 := of_decide_eq_false c94
        refine W_cond_false (by show Value.bool _ = _; exact congrArg Value.bool c94) ?_
        refine W_skip ?_
        refine W_seq ?_
        refine W_seq ?_
        refine W_region_lit ?_
        refine Lq (ptr b48 2) rfl rfl rfl (by kernel_rfl) ?_
        refine Lq (.slice a51 xn.names.length cap52) rfl rfl rfl (x_load rfl rfl (run_loadVar_one ti_42 (hst61.b 2) rfl)) ?_
        refine Lq (int (xn.names.length : Int)) rfl rfl rfl (x_len_slice rfl sl_42 rfl) ?_
        refine Lq (.bool (decide ((xn.names.length : Int) ≥ 64))) rfl rfl rfl (by kernel_rfl) ?_
        refine Lq (.bool (decide ((xn.names.length : Int) ≥ 64))) rfl rfl rfl rfl ?_
        rcases Bool.eq_false_or_eq_true (decide ((xn.names.length : Int) ≥ 64)) with c110 | c110
        ·
         have q111 := of_decide_eq_true c110
         refine L_unwanted rfl rfl rfl rfl (by rw [c110]; try rfl) rfl rfl ?_
         refine L_unwanted rfl rfl rfl rfl (by rw [c110]; try rfl) rfl rfl ?_
         refine L_unwanted rfl rfl rfl rfl (by rw [c110]; try rfl) rfl rfl ?_
         refine L_unwanted rfl rfl rfl rfl (by rw [c110]; try rfl) rfl rfl ?_
         refine L_unwanted rfl rfl rfl rfl (by rw [c110]; try rfl) rfl rfl ?_
         refine L_unwanted rfl rfl rfl rfl (by rw [c110]; try rfl) rfl rfl ?_
         refine Lq (.bool true) rfl rfl rfl (x_pick rfl rfl (by rw [c110]; rfl)) ?_
         refine L_nil ?_
         refine W_cond_true (by show Value.bool _ = _; exact congrArg Value.bool rfl) ?_
         refine W_seq ?_
         refine W_region_lit ?_
         refine Lq (int 0) rfl rfl rfl rfl ?_
         refine Lq (int 2) rfl rfl rfl rfl ?_
         refine L_nil ?_
         refine W_ret ?_
         refine ⟨_, _, res_run (rs := [.tmp 6, .tmp 7]) (vs := [(int 0), (int 2)]) Tryz.results50 (.cons (.tmp rfl) (.cons (.tmp rfl) .nil)) hmk60, ?_⟩
         have hx_ : s.nodes[cn s.nodes kn]? = some xn := by rw [List.getElem?_eq_getElem (by omega), hnd40]
         have hm_ : ¬ name ∈ xn.names := by have h_ := c14; rw [slot_cn hS.can hal (by omega) hx_] at h_; exact of_decide_eq_false h_
         have hg_ := link_none (i := i_68) hwf.ok hlk47 hf66 (fun hi_ => ⟨c87, of_decide_eq_false c94⟩)
         have he := add_many (s := s) (x := xn) (name := name) (k := kn) (by omega) hx_ (of_decide_eq_false c11) hm_ (by rw [hg_]; rfl) (by omega)
         rw [he]
         have hst112 := (((((hst61.front 5 rfl rfl).front 5 rfl rfl).front 5 rfl rfl).front 4 rfl rfl).front 4 rfl rfl)
         have hd113 := (List.pairwise_cons.1 hst112.sats.dj).1 _ (List.mem_cons_self ..)
         have hX114 := hback _ (Sn.mk xn xl (.slice (some ⟨b73, 0, none⟩) xl.length cap45)) _ (Le.refl _) (hback79 R xl cE69 (by first | rfl | (simp only [List.length_set]; done) | (simp only [List.length_set]; omega) | omega) hrow78) hd113
         rw [set_self (by omega) hx39] at hX114
         obtain ⟨c', hst', htree'⟩ := RefT.close (s := s) ((hst112.join.front 2 rfl rfl).front 2 rfl rfl) ho57 hX114 hRs hag hwf hS hrl
         exact ⟨_, _, _, rfl, hst'.keepN 1 rfl, c', rfl, rfl, htree'⟩
        ·
         have q115 := of_decide_eq_false c110
         refine L_guard rfl rfl rfl rfl c110 ?_
         refine Lq (ptr p 0) rfl rfl rfl rfl ?_
         refine L_guard rfl rfl rfl rfl c110 ?_
         refine Lq (ptr p 0) rfl rfl rfl rfl ?_
         refine L_guard rfl rfl rfl rfl c110 ?_
         refine Lq (ptr p 0) rfl rfl rfl (by kernel_rfl) ?_
         refine L_guard rfl rfl rfl rfl c110 ?_
         refine Lq (.slice (some ⟨b25, 0, none⟩) xs.length cap22) rfl rfl rfl (x_load rfl rfl (run_loadVar_one ti_70 (hst61.b 3) rfl)) ?_
         refine L_guard rfl rfl rfl rfl c110 ?_
         refine Lq (int (xs.length : Int)) rfl rfl rfl (x_len_slice rfl sl_70 rfl) ?_
         refine L_guard rfl rfl rfl rfl c110 ?_
         refine Lq (.bool (decide ((xs.length : Int) ≥ 200))) rfl rfl rfl (by kernel_rfl) ?_
         refine Lq (.bool (decide ((xs.length : Int) ≥ 200))) rfl rfl rfl (x_pick rfl rfl (by rw [c110]; rfl)) ?_
         refine L_nil ?_
         rcases Bool.eq_false_or_eq_true (decide ((xs.length : Int) ≥ 200)) with c116 | c116
         ·
          have q117 := of_decide_eq_true c116
          refine W_cond_true (by show Value.bool _ = _; exact congrArg Value.bool c116) ?_
          refine W_seq ?_
          refine W_region_lit ?_
          refine Lq (int 0) rfl rfl rfl rfl ?_
          refine Lq (int 2) rfl rfl rfl rfl ?_
          refine L_nil ?_
          refine W_ret ?_
          refine ⟨_, _, res_run (rs := [.tmp 6, .tmp 7]) (vs := [(int 0), (int 2)]) Tryz.results50 (.cons (.tmp rfl) (.cons (.tmp rfl) .nil)) hmk60, ?_⟩
          have hx_ : s.nodes[cn s.nodes kn]? = some xn := by rw [List.getElem?_eq_getElem (by omega), hnd40]
          have hm_ : ¬ name ∈ xn.names := by have h_ := c14; rw [slot_cn hS.can hal (by omega) hx_] at h_; exact of_decide_eq_false h_
          have hg_ := link_none (i := i_68) hwf.ok hlk47 hf66 (fun hi_ => ⟨c87, of_decide_eq_false c94⟩)
          have he := add_many (s := s) (x := xn) (name := name) (k := kn) (by omega) hx_ (of_decide_eq_false c11) hm_ (by rw [hg_]; rfl) (by omega)
          rw [he]
          have hst118 := (((((hst61.front 5 rfl rfl).front 5 rfl rfl).front 5 rfl rfl).front 4 rfl rfl).front 4 rfl rfl)
          have hd119 := (List.pairwise_cons.1 hst118.sats.dj).1 _ (List.mem_cons_self ..)
          have hX120 := hback _ (Sn.mk xn xl (.slice (some ⟨b73, 0, none⟩) xl.length cap45)) _ (Le.refl _) (hback79 R xl cE69 (by first | rfl | (simp only [List.length_set]; done) | (simp only [List.length_set]; omega) | omega) hrow78) hd119
          rw [set_self (by omega) hx39] at hX120
          obtain ⟨c', hst', htree'⟩ := RefT.close (s := s) ((hst118.join.front 2 rfl rfl).front 2 rfl rfl) ho57 hX120 hRs hag hwf hS hrl
          exact ⟨_, _, _, rfl, hst'.keepN 1 rfl, c', rfl, rfl, htree'⟩
         ·
          have q121 := of_decide_eq_false c116
          refine W_cond_false (by show Value.bool _ = _; exact congrArg Value.bool c116) ?_
          refine W_skip ?_
          refine W_seq ?_
          refine W_region_lit ?_
          refine Lq (ptr p 0) rfl rfl rfl rfl ?_
          refine Lq (ptr p 0) rfl rfl rfl rfl ?_
          refine Lq (ptr p 0) rfl rfl rfl (by kernel_rfl) ?_
          refine Lq (.slice (some ⟨b25, 0, none⟩) xs.length cap22) rfl rfl rfl (x_load rfl rfl (run_loadVar_one ti_70 (hst61.b 3) rfl)) ?_
          refine Lq (int (xs.length : Int)) rfl rfl rfl (x_len_slice rfl sl_70 rfl) ?_
          refine Lq (int (xs.length : Int)) rfl rfl rfl rfl ?_
          refine L_nil ?_
          refine W_seq ?_
          have ho122 := (hback79 R xl cE69 (by first | rfl | (simp only [List.length_set]; done) | (simp only [List.length_set]; omega) | omega) hrow78)
          obtain ⟨R123, hst124, hle125, hc126⟩ := Step.frz hst61
          have hm127 := OwnL.mono ho57 hle125
          have hm128 := OwnL.mono hRs hle125
          have hrd129 := OwnL.freeze ho122 hle125 hc126
          refine W_region_lit ?_
          refine Lq (.string name) rfl rfl rfl rfl ?_
          refine Lq (int (xs.length : Int)) rfl rfl rfl rfl ?_
          refine Lq (.agg #[(.string name), (int (xs.length : Int))]) rfl rfl rfl (by kernel_rfl) ?_
          refine L_new hst124 (v := fun b => .slice (some ⟨b, 0, none⟩) 1 1) (ob := .cells #[(.string name), (int (xs.length : Int))] 91 (0, 0)) rfl rfl rfl (by kernel_rfl) (fun b130 w131 hst132 => ?_)
          refine Lq (ptr b48 3) rfl rfl rfl (by kernel_rfl) ?_
          refine Lq (.slice (some ⟨b73, 0, none⟩) xl.length cap45) rfl rfl rfl (x_load rfl rfl (run_loadVar_one ti_73 (hst132.b 2) rfl)) ?_
          refine Lq (int (i_68 : Int)) rfl rfl rfl rfl ?_
          refine Lq (.slice (if cap45 = i_68 then (some ⟨b73, 0, none⟩) else Option.map (fun (a_ : Addr) => a_.add (i_68 * 2)) ((some ⟨b73, 0, none⟩) : Option Addr)) (xl.length - i_68) (cap45 - i_68)) rfl rfl rfl (x_sliceLo (v := (.slice (some ⟨b73, 0, none⟩) xl.length cap45)) rfl rfl rfl sl_73 (run_sliceLo sl_73 ti_91 (by omega) (by omega))) ?_
          have ho133 : OwnL tyLk 91 R123 (.slice (some ⟨b130, 0, none⟩) 1 1) [((name, (xs.length : Int)) : Lk)] (one b130 (.cells #[(.string name), (int (xs.length : Int))] 91 (0, 0))) := OwnL.lit (cs := [(.string name), (int (xs.length : Int))]) (lk_mk _ _ _) rfl (by decide)
          obtain ⟨v134, c135, w136, hr137, ho138, hst139⟩ := run_appendM (P := Tryz.prog) (tt := 73) sl_73 ti_91 rfl ho133 hst132 (RdS.dropK (k := i_68) (RdS.mono hrd129 (Le.refl _)) (by omega)) hst132.rle' (by simp only [List.length_append, List.length_take, List.length_drop, List.length_cons, List.length_nil]; omega) (by simp only [List.length_append, List.length_take, List.length_drop, List.length_cons, List.length_nil, maxLen]; omega)
          refine L_val (v := v134) (w' := w136) rfl rfl rfl (x_append rfl rfl rfl hr137) ?_
          refine Lq v134 rfl rfl rfl rfl ?_
          refine L_nil ?_
          refine W_seq ?_
          refine W_region_draw [15] (fun w => Le R123 (hp w) ∧ Le (one b48 (.cells #[(int xn.cls), (int xn.ali), (.slice a51 xn.names.length cap52), (.slice (some ⟨b73, 0, none⟩) xl.length cap45)] 75 (0, 0))) (hp w) ∧ Le (one p (.cells #[(.slice (some ⟨b25, 0, none⟩) xs.length cap22), vR] 72 (0, 0))) (hp w)) hmix (by decide +kernel) (fun _ _ h => h) ?_
          have hst141 := hst139.draws (w136.drawn + 1)
          generalize draws w136 (w136.drawn + 1) = w140 at hst141 ⊢
          refine LP (ptr p 0) 0 rfl rfl rfl (fun u143 => rfl) ⟨hst141.rle', hst141.g 2, hst141.g 3⟩ ?_
          refine LP (ptr p 0) 1 rfl rfl rfl (fun u146 => rfl) ⟨hst141.rle', hst141.g 2, hst141.g 3⟩ ?_
          refine LP (ptr p 0) 2 rfl rfl rfl (fun u149 => (by kernel_rfl)) ⟨hst141.rle', hst141.g 2, hst141.g 3⟩ ?_
          refine LT (.slice (some ⟨b25, 0, none⟩) xs.length cap22) 3 rfl rfl rfl (fun u152 hF153 => (x_load rfl rfl (run_loadVar_one ti_70 (hF153.2.2 _ _ (one_self _ _)) rfl))) ⟨hst141.rle', hst141.g 2, hst141.g 3⟩ ?_
          refine LP (int (((cn s.nodes kn) : Nat) : Int)) 4 rfl rfl rfl (fun u155 => rfl) ⟨hst141.rle', hst141.g 2, hst141.g 3⟩ ?_
          refine LP (ptr b48 3) 6 rfl rfl rfl (fun u160 => (by kernel_rfl)) ⟨hst141.rle', hst141.g 2, hst141.g 3⟩ ?_
          refine LT (.slice (some ⟨b73, 0, none⟩) xl.length cap45) 7 rfl rfl rfl (fun u165 hF166 => (x_load rfl rfl (run_loadVar_one ti_73 (hF166.2.1 _ _ (one_self _ _)) rfl))) ⟨hst141.rle', hst141.g 2, hst141.g 3⟩ ?_
          refine LP (int (i_68 : Int)) 8 rfl rfl rfl (fun u170 => rfl) ⟨hst141.rle', hst141.g 2, hst141.g 3⟩ ?_
          refine LT (.slice (some ⟨b73, 0, none⟩) i_68 cap45) 9 rfl rfl rfl (fun u175 hF176 => (x_slice sl_73 rfl rfl (run_sliceHi sl_73 ti_91 (by omega)))) ⟨hst141.rle', hst141.g 2, hst141.g 3⟩ ?_
          refine LP v134 11 rfl rfl rfl (fun u180 => rfl) ⟨hst141.rle', hst141.g 2, hst141.g 3⟩ ?_
          refine LA_all [5] (by decide +kernel) (by simp) ?_
          intro i_ hi_
          simp only [List.mem_cons, List.not_mem_nil, or_false] at hi_
          subst hi_
          refine One_new hst141 (i := 5) (v := fun b => .slice (some ⟨b, 0, none⟩) 0 0) (ob := .cells #[] 91 (0, 0)) rfl rfl rfl (Want.plain rfl) (by kernel_rfl) (fun b185 w186 hst187 => ?_)
          refine ⟨(fun _ => ⟨hst187.rle', hst187.g 3, hst187.g 4⟩), ?_⟩
          refine LA_all [10] (by decide +kernel) (by simp) ?_
          intro i_ hi_
          simp only [List.mem_cons, List.not_mem_nil, or_false] at hi_
          subst hi_
          have ho191 : OwnL tyLk 91 R123 (.slice (some ⟨b185, 0, none⟩) 0 0) ([] : List Lk) (one b185 (.cells #[] 91 (0, 0))) := OwnL.lit (cs := []) Encs.nil rfl (by decide)
          obtain ⟨v192, c193, w194, hr195, ho196, hst197⟩ := run_appendM (P := Tryz.prog) (tt := 73) sl_73 ti_91 rfl ho191 hst187 (RdS.takeK (k := i_68) (RdS.mono hrd129 (Le.refl _)) (by omega)) hst187.rle' (by simp only [List.length_append, List.length_take, List.length_drop, List.length_cons, List.length_nil]; omega) (by simp only [List.length_append, List.length_take, List.length_drop, List.length_cons, List.length_nil, maxLen]; omega)
          refine One_val (i := 10) (v := v192) rfl rfl rfl (Want.plain rfl) (x_append rfl rfl rfl hr195) (fun _ => ⟨hst197.rle', hst197.g 3, hst197.g 4⟩) ?_
          refine LA_all [12] (by decide +kernel) (by simp) ?_
          intro i_ hi_
          simp only [List.mem_cons, List.not_mem_nil, or_false] at hi_
          subst hi_
          obtain ⟨a202, cap203, e204, hc205⟩ := ho138.value
          subst e204
          obtain ⟨v206, c207, w208, hr209, ho210, hst211⟩ := run_appendO (P := Tryz.prog) (tt := 73) sl_73 ti_91 rfl ho196 hst197 ho138 (hst197.g 1) (by simp only [List.length_append, List.length_take, List.length_drop, List.length_cons, List.length_nil]; omega) (by simp only [List.length_append, List.length_take, List.length_drop, List.length_cons, List.length_nil, maxLen]; omega)
          refine One_val (i := 12) (v := v206) rfl rfl rfl (Want.plain rfl) (x_append rfl rfl rfl hr209) (fun _ => ⟨hst211.rle', hst211.g 3, hst211.g 4⟩) ?_
          obtain ⟨b215, cap216, N217, e218, hc219, hrow220, hback221⟩ := OwnL.row hm127 (by omega)
          obtain ⟨ha223, hl222, rfl⟩ := Value.slice.inj e218
          have ha223 := congrArg Addr.block (Option.some.inj ha223)
          dsimp only at ha223
          subst ha223
          try rw [← hl222] at hback221
          obtain ⟨cl224, cs225, hr226, hcb227, hsg228⟩ := Row.at hrow220 (cn s.nodes kn) (by omega)
          rw [← hx39] at hr226
          obtain ⟨vn229, rfl, hvn230, a231, n232, cap233, e234⟩ := tySn_open hr226
          refine LP (ptr b25 (0 + (cn s.nodes kn) * 4)) 13 rfl rfl rfl (fun u213 => (x_indexAddr' rfl sl_70 ti_75 rfl rfl (by omega))) ⟨hst211.rle', hst211.g 3, hst211.g 4⟩ ?_
          refine LP (ptr b25 (0 + (cn s.nodes kn) * 4 + 3)) 14 rfl rfl rfl (fun u236 => (by kernel_rfl)) ⟨hst211.rle', hst211.g 3, hst211.g 4⟩ ?_
          refine LA_all [15] (by decide +kernel) (by simp) ?_
          intro i_ hi_
          simp only [List.mem_cons, List.not_mem_nil, or_false] at hi_
          subst hi_
          obtain ⟨a239, cap240, e241, hc242⟩ := ho210.value
          subst e241
          obtain ⟨c243, w244, hr245, hrow246, hst247⟩ := Row.storeG (P := Tryz.prog) (v := (.slice a239 (((([] : List Lk) ++ (List.take i_68 xl)) ++ ([((name, (xs.length : Int)) : Lk)] ++ (List.drop i_68 xl))).length) cap240)) (y := (Sn.mk xn ((([] : List Lk) ++ (List.take i_68 xl)) ++ ([((name, (xs.length : Int)) : Lk)] ++ (List.drop i_68 xl))) (.slice a239 (((([] : List Lk) ++ (List.take i_68 xl)) ++ ([((name, (xs.length : Int)) : Lk)] ++ (List.drop i_68 xl))).length) cap240))) hrow220 (hst211.front 5 rfl rfl) ti_73 (cn s.nodes kn) (by omega) 3 (by decide) rfl rfl (fun c1 h1 => by rw [← hx39] at h1; exact tySn_lk _ h1)
          refine One_skip (i := 15) rfl rfl (Want.plain rfl) (x_store rfl rfl rfl hr245) (fun h => absurd h (by decide +kernel)) ?_
          refine LA_done (by decide +kernel) ?_
          refine W_seq ?_
          have ho248 := (hback221 R123 (List.set xs (cn s.nodes kn) (Sn.mk xn ((([] : List Lk) ++ (List.take i_68 xl)) ++ ([((name, (xs.length : Int)) : Lk)] ++ (List.drop i_68 xl))) (.slice a239 (((([] : List Lk) ++ (List.take i_68 xl)) ++ ([((name, (xs.length : Int)) : Lk)] ++ (List.drop i_68 xl))).length) cap240))) c243 (by first | rfl | (simp only [List.length_set]; done) | (simp only [List.length_set]; omega) | omega) hrow246)
          have hsl_ : ((List.set xs (cn s.nodes kn) (Sn.mk xn ((([] : List Lk) ++ (List.take i_68 xl)) ++ ([((name, (xs.length : Int)) : Lk)] ++ (List.drop i_68 xl))) (.slice a239 (((([] : List Lk) ++ (List.take i_68 xl)) ++ ([((name, (xs.length : Int)) : Lk)] ++ (List.drop i_68 xl))).length) cap240)))).length = xs.length := by rw [List.length_set]
          refine W_region_draw [19] (fun w => Le R123 (hp w) ∧ Le (one b48 (.cells #[(int xn.cls), (int xn.ali), (.slice a51 xn.names.length cap52), (.slice (some ⟨b73, 0, none⟩) xl.length cap45)] 75 (0, 0))) (hp w) ∧ Le (one p (.cells #[(.slice (some ⟨b25, 0, none⟩) xs.length cap22), vR] 72 (0, 0))) (hp w)) hmix (by decide +kernel) (fun _ _ h => h) ?_
          have hst250 := hst247.draws (w244.drawn + 1)
          generalize draws w244 (w244.drawn + 1) = w249 at hst250 ⊢
          refine LP (ptr p 0) 0 rfl rfl rfl (fun u252 => rfl) ⟨hst250.rle', hst250.g 4, hst250.g 5⟩ ?_
          refine LP (ptr p 0) 1 rfl rfl rfl (fun u255 => rfl) ⟨hst250.rle', hst250.g 4, hst250.g 5⟩ ?_
          refine LP (ptr p 0) 2 rfl rfl rfl (fun u258 => rfl) ⟨hst250.rle', hst250.g 4, hst250.g 5⟩ ?_
          refine LP (ptr p 0) 3 rfl rfl rfl (fun u261 => (by kernel_rfl)) ⟨hst250.rle', hst250.g 4, hst250.g 5⟩ ?_
          refine LT (.slice (some ⟨b25, 0, none⟩) xs.length cap22) 4 rfl rfl rfl (fun u264 hF265 => (x_load rfl rfl (run_loadVar_one ti_70 (hF265.2.2 _ _ (one_self _ _)) rfl))) ⟨hst250.rle', hst250.g 4, hst250.g 5⟩ ?_
          refine LP (ptr b48 0) 5 rfl rfl rfl (fun u267 => (by kernel_rfl)) ⟨hst250.rle', hst250.g 4, hst250.g 5⟩ ?_
          refine LT (int xn.cls) 6 rfl rfl rfl (fun u270 hF271 => (x_load rfl rfl (run_loadVar_one ti_3 (hF271.2.1 _ _ (one_self _ _)) rfl))) ⟨hst250.rle', hst250.g 4, hst250.g 5⟩ ?_
          refine LP (ptr b48 2) 8 rfl rfl rfl (fun u275 => (by kernel_rfl)) ⟨hst250.rle', hst250.g 4, hst250.g 5⟩ ?_
          refine LT (.slice a51 xn.names.length cap52) 9 rfl rfl rfl (fun u280 hF281 => (x_load rfl rfl (run_loadVar_one ti_42 (hF281.2.1 _ _ (one_self _ _)) rfl))) ⟨hst250.rle', hst250.g 4, hst250.g 5⟩ ?_
          refine LP (.string name) 11 rfl rfl rfl (fun u285 => rfl) ⟨hst250.rle', hst250.g 4, hst250.g 5⟩ ?_
          refine LA_all [7, 12] (by decide +kernel) (by simp) ?_
          intro i_ hi_
          simp only [List.mem_cons, List.not_mem_nil, or_false] at hi_
          rcases hi_ with rfl | rfl
          ·
           refine One_new hst250 (i := 7) (v := fun b => .slice (some ⟨b, 0, none⟩) 0 0) (ob := .cells #[] 9 (0, 0)) rfl rfl rfl (Want.plain rfl) (by kernel_rfl) (fun b292 w293 hst294 => ?_)
           refine ⟨(fun _ => ⟨hst294.rle', hst294.g 5, hst294.g 6⟩), ?_⟩
           refine LA_all [10, 12] (by decide +kernel) (by simp) ?_
           intro i_ hi_
           simp only [List.mem_cons, List.not_mem_nil, or_false] at hi_
           rcases hi_ with rfl | rfl
           ·
            have ho300 : OwnL Ty.str 9 R123 (.slice (some ⟨b292, 0, none⟩) 0 0) ([] : List Str) (one b292 (.cells #[] 9 (0, 0))) := OwnL.lit (cs := []) Encs.nil rfl (by decide)
            obtain ⟨v301, c302, w303, hr304, ho305, hst306⟩ := run_appendM (P := Tryz.prog) (tt := 42) sl_42 ti_9 rfl ho300 hst294 (RdS.mono hvn42 hle125) hst294.rle' (by simp only [List.length_append, List.length_cons, List.length_nil]; omega) (by simp only [List.length_append, List.length_cons, List.length_nil, maxLen]; omega)
            refine One_val (i := 10) (v := v301) rfl rfl rfl (Want.plain rfl) (x_append rfl rfl rfl hr304) (fun _ => ⟨hst306.rle', hst306.g 5, hst306.g 6⟩) ?_
            refine LA_all [12] (by decide +kernel) (by simp) ?_
            intro i_ hi_
            simp only [List.mem_cons, List.not_mem_nil, or_false] at hi_
            subst hi_
            refine One_new hst306 (i := 12) (v := fun b => .slice (some ⟨b, 0, none⟩) 1 1) (ob := .cells #[(.string name)] 9 (0, 0)) rfl rfl rfl (Want.plain rfl) (by kernel_rfl) (fun b310 w311 hst312 => ?_)
            refine ⟨(fun _ => ⟨hst312.rle', hst312.g 6, hst312.g 7⟩), ?_⟩
            refine LA_all [13] (by decide +kernel) (by simp) ?_
            intro i_ hi_
            simp only [List.mem_cons, List.not_mem_nil, or_false] at hi_
            subst hi_
            refine One_append (j := 13) hst312 (t := 42) (e := 9) (ys := [name]) (src := [(.string name)]) 1 rfl rfl rfl (Want.plain rfl) rfl rfl rfl sl_42 ti_9 rfl rfl rfl ho305 (src_own (hst312.b 0)) (str_mk _ _) rfl (by first | omega | (simp only [List.length_append, List.length_cons, List.length_nil]; omega)) (by first | (simp only [maxLen]; omega) | (simp only [List.length_append, List.length_cons, List.length_nil, maxLen]; omega)) (fun v316 c317 w318 ho319 hst320 => ?_)
            refine ⟨(fun _ => ⟨hst320.rle', hst320.g 6, hst320.g 7⟩), ?_⟩
            obtain ⟨R321, hst322, hle323, hc324⟩ := Step.frz hst320
            have hm325 := OwnL.mono ho248 hle323
            have hm326 := OwnL.mono ho210 hle323
            have hm327 := OwnL.mono ho138 hle323
            have hm328 := OwnL.mono hm128 hle323
            have hrd329 := OwnL.freeze ho319 hle323 hc324
            have hxs330 : ((([] : List Str) ++ xn.names) ++ [name]).length = xn.names.length + 1 := by simp
            obtain ⟨a334, cap335, e336, hc337⟩ := hrd329.shape
            subst e336
            refine LP (.agg #[(int xn.cls), (int (-1)), (.slice a334 (((([] : List Str) ++ xn.names) ++ [name]).length) cap335), (.slice none 0 0)]) 14 rfl rfl rfl (fun u332 => (by kernel_rfl)) ⟨(Le.trans hle323 hst322.rle'), hst322.g 5, hst322.g 6⟩ ?_
            refine LA_all [15] (by decide +kernel) (by simp) ?_
            intro i_ hi_
            simp only [List.mem_cons, List.not_mem_nil, or_false] at hi_
            subst hi_
            refine One_new hst322 (i := 15) (v := fun b => .slice (some ⟨b, 0, none⟩) 1 1) (ob := .cells #[(int xn.cls), (int (-1)), (.slice a334 (((([] : List Str) ++ xn.names) ++ [name]).length) cap335), (.slice none 0 0)] 75 (0, 0)) rfl rfl rfl (Want.plain rfl) (by kernel_rfl) (fun b341 w342 hst343 => ?_)
            refine ⟨(fun _ => ⟨(Le.trans hle323 hst343.rle'), hst343.g 6, hst343.g 7⟩), ?_⟩
            refine LA_all [16] (by decide +kernel) (by simp) ?_
            intro i_ hi_
            simp only [List.mem_cons, List.not_mem_nil, or_false] at hi_
            subst hi_
            refine One_append (j := 16) hst343 (t := 70) (e := 75) (ys := [Sn.mk (Nd.mk xn.cls (-1) ((([] : List Str) ++ xn.names) ++ [name])) [] (.slice none 0 0)]) (src := [(int xn.cls), (int (-1)), (.slice a334 (((([] : List Str) ++ xn.names) ++ [name]).length) cap335), (.slice none 0 0)]) 2 rfl rfl rfl (Want.plain rfl) rfl rfl rfl sl_70 ti_75 rfl rfl rfl hm325 (src_own (hst343.b 0)) (sn_mk (RdS.mono hrd329 (Le.refl _))) rfl (by first | omega | (simp only [List.length_append, List.length_cons, List.length_nil]; omega)) (by first | (simp only [maxLen]; omega) | (simp only [List.length_append, List.length_cons, List.length_nil, maxLen]; omega)) (fun v347 c348 w349 ho350 hst351 => ?_)
            refine ⟨(fun _ => ⟨(Le.trans hle323 hst351.rle'), hst351.g 6, hst351.g 7⟩), ?_⟩
            refine LP (ptr p 0) 17 rfl rfl rfl (fun u353 => rfl) ⟨(Le.trans hle323 hst351.rle'), hst351.g 6, hst351.g 7⟩ ?_
            refine LP (ptr p 0) 18 rfl rfl rfl (fun u356 => (by kernel_rfl)) ⟨(Le.trans hle323 hst351.rle'), hst351.g 6, hst351.g 7⟩ ?_
            refine LA_all [19] (by decide +kernel) (by simp) ?_
            intro i_ hi_
            simp only [List.mem_cons, List.not_mem_nil, or_false] at hi_
            subst hi_
            obtain ⟨a359, cap360, e361, hc362⟩ := ho350.value
            subst e361
            obtain ⟨w363, hr365, hst364⟩ := run_storeW (P := Tryz.prog) (b := p) (off := 0) (v := (.slice a359 (((List.set xs (cn s.nodes kn) (Sn.mk xn ((([] : List Lk) ++ (List.take i_68 xl)) ++ ([((name, (xs.length : Int)) : Lk)] ++ (List.drop i_68 xl))) (.slice a239 (((([] : List Lk) ++ (List.take i_68 xl)) ++ ([((name, (xs.length : Int)) : Lk)] ++ (List.drop i_68 xl))).length) cap240))) ++ [Sn.mk (Nd.mk xn.cls (-1) ((([] : List Str) ++ xn.names) ++ [name])) [] (.slice none 0 0)]).length) cap360)) hst351 7 ti_70 rfl rfl rfl rfl rfl rfl
            change Step _ _ _ _ _ [c348, one b341 (.cells #[(int xn.cls), (int (-1)), (.slice a334 (((([] : List Str) ++ xn.names) ++ [name]).length) cap335), (.slice none 0 0)] 75 (0, 0)), one b310 (.cells #[(.string name)] 9 (0, 0)), c207, c135, c2, one b48 (.cells #[(int xn.cls), (int xn.ali), (.slice a51 xn.names.length cap52), (.slice (some ⟨b73, 0, none⟩) xl.length cap45)] 75 (0, 0)), one p (.cells #[(.slice a359 (((List.set xs (cn s.nodes kn) (Sn.mk xn ((([] : List Lk) ++ (List.take i_68 xl)) ++ ([((name, (xs.length : Int)) : Lk)] ++ (List.drop i_68 xl))) (.slice a239 (((([] : List Lk) ++ (List.take i_68 xl)) ++ ([((name, (xs.length : Int)) : Lk)] ++ (List.drop i_68 xl))).length) cap240))) ++ [Sn.mk (Nd.mk xn.cls (-1) ((([] : List Str) ++ xn.names) ++ [name])) [] (.slice none 0 0)]).length) cap360), vR] 72 (0, 0)), cR] at hst364
            refine One_skip (i := 19) rfl rfl (Want.plain rfl) (x_store rfl rfl rfl hr365) (fun h => absurd h (by decide +kernel)) ?_
            refine LA_done (by decide +kernel) ?_
            refine W_seq ?_
            refine W_region_lit ?_
            refine Lq (int (xs.length : Int)) rfl rfl rfl rfl ?_
            refine Lq (int (xs.length : Int)) rfl rfl rfl rfl ?_
            refine Lq (int 0) rfl rfl rfl rfl ?_
            refine L_nil ?_
            refine W_ret ?_
            refine ⟨_, _, res_run (rs := [.tmp 6, .tmp 7]) (vs := [(int (xs.length : Int)), (int 0)]) Tryz.results50 (.cons (.tmp rfl) (.cons (.tmp rfl) .nil)) hmk60, ?_⟩
            have hx_ : s.nodes[cn s.nodes kn]? = some xn := by rw [List.getElem?_eq_getElem (by omega), hnd40]
            have hm_ : ¬ name ∈ xn.names := by have h_ := c14; rw [slot_cn hS.can hal (by omega) hx_] at h_; exact of_decide_eq_false h_
            have hg_ := link_none (i := i_68) hwf.ok hlk47 hf66 (fun hi_ => ⟨c87, of_decide_eq_false c94⟩)
            have he := add_new (s := s) (x := xn) (name := name) (k := kn) (by omega) hx_ (of_decide_eq_false c11) hm_ (by rw [hg_]; rfl) (by omega) (by omega)
            have hw2 := hwf.add (kn : Int) name
            rw [he] at hw2 ⊢
            have hst366 := (((((hst364.front 8 rfl rfl).front 1 rfl rfl).front 8 rfl rfl).front 7 rfl rfl).front 6 rfl rfl)
            have hd367 := (List.pairwise_cons.1 hst366.sats.dj).1 _ (List.mem_cons_self ..)
            have hX368 := hback _ (Sn.mk xn ((([] : List Lk) ++ (List.take i_68 xl)) ++ ([((name, (xs.length : Int)) : Lk)] ++ (List.drop i_68 xl))) (.slice a239 (((([] : List Lk) ++ (List.take i_68 xl)) ++ ([((name, (xs.length : Int)) : Lk)] ++ (List.drop i_68 xl))).length) cap240)) _ (Le.trans hle125 hle323) hm326 hd367
            obtain ⟨c', hst', htree'⟩ := RefT.close (s := s.grown kn xn name) ((hst366.join.front 2 rfl rfl).front 2 rfl rfl) ho350 (hX368.app (y := ⟨⟨xn.cls, -1, ((([] : List Str) ++ xn.names) ++ [name])⟩, [], .slice none 0 0⟩) rfl rfl) hm328 (hag.grown (i := i_68) hwf rfl (by omega) hw2.ok hg_ hlk47 (by omega) hf66 (fun hi_ => ⟨c87, of_decide_eq_false c94⟩) (by rw [← hx39]) (by simp [hxl])) hw2 (hS.app (by omega) (by simp only [List.length_append, List.length_cons, List.length_nil]; omega) rfl) hrl
            exact ⟨_, _, _, rfl, hst'.keepN 1 rfl, c', (by rw [hxl]; rfl), rfl, htree'⟩
           ·
            refine One_new hst294 (i := 12) (v := fun b => .slice (some ⟨b, 0, none⟩) 1 1) (ob := .cells #[(.string name)] 9 (0, 0)) rfl rfl rfl (Want.plain rfl) (by kernel_rfl) (fun b369 w370 hst371 => ?_)
            refine ⟨(fun _ => ⟨hst371.rle', hst371.g 6, hst371.g 7⟩), ?_⟩
            refine LA_all [10] (by decide +kernel) (by simp) ?_
            intro i_ hi_
            simp only [List.mem_cons, List.not_mem_nil, or_false] at hi_
            subst hi_
            have ho375 : OwnL Ty.str 9 R123 (.slice (some ⟨b292, 0, none⟩) 0 0) ([] : List Str) (one b292 (.cells #[] 9 (0, 0))) := OwnL.lit (cs := []) Encs.nil rfl (by decide)
            obtain ⟨v376, c377, w378, hr379, ho380, hst381⟩ := run_appendM (P := Tryz.prog) (tt := 42) sl_42 ti_9 rfl ho375 (hst371.front 1 rfl rfl) (RdS.mono hvn42 hle125) hst371.rle' (by simp only [List.length_append, List.length_cons, List.length_nil]; omega) (by simp only [List.length_append, List.length_cons, List.length_nil, maxLen]; omega)
            refine One_val (i := 10) (v := v376) rfl rfl rfl (Want.plain rfl) (x_append rfl rfl rfl hr379) (fun _ => ⟨hst381.rle', hst381.g 6, hst381.g 7⟩) ?_
            refine LA_all [13] (by decide +kernel) (by simp) ?_
            intro i_ hi_
            simp only [List.mem_cons, List.not_mem_nil, or_false] at hi_
            subst hi_
            refine One_append (j := 13) hst381 (t := 42) (e := 9) (ys := [name]) (src := [(.string name)]) 0 rfl rfl rfl (Want.plain rfl) rfl rfl rfl sl_42 ti_9 rfl rfl rfl ho380 (src_own (hst381.b 1)) (str_mk _ _) rfl (by first | omega | (simp only [List.length_append, List.length_cons, List.length_nil]; omega)) (by first | (simp only [maxLen]; omega) | (simp only [List.length_append, List.length_cons, List.length_nil, maxLen]; omega)) (fun v385 c386 w387 ho388 hst389 => ?_)
            refine ⟨(fun _ => ⟨hst389.rle', hst389.g 6, hst389.g 7⟩), ?_⟩
            obtain ⟨R390, hst391, hle392, hc393⟩ := Step.frz hst389
            have hm394 := OwnL.mono ho248 hle392
            have hm395 := OwnL.mono ho210 hle392
            have hm396 := OwnL.mono ho138 hle392
            have hm397 := OwnL.mono hm128 hle392
            have hrd398 := OwnL.freeze ho388 hle392 hc393
            have hxs399 : ((([] : List Str) ++ xn.names) ++ [name]).length = xn.names.length + 1 := by simp
            obtain ⟨a403, cap404, e405, hc406⟩ := hrd398.shape
            subst e405
            refine LP (.agg #[(int xn.cls), (int (-1)), (.slice a403 (((([] : List Str) ++ xn.names) ++ [name]).length) cap404), (.slice none 0 0)]) 14 rfl rfl rfl (fun u401 => (by kernel_rfl)) ⟨(Le.trans hle392 hst391.rle'), hst391.g 5, hst391.g 6⟩ ?_
            refine LA_all [15] (by decide +kernel) (by simp) ?_
            intro i_ hi_
            simp only [List.mem_cons, List.not_mem_nil, or_false] at hi_
            subst hi_
            refine One_new hst391 (i := 15) (v := fun b => .slice (some ⟨b, 0, none⟩) 1 1) (ob := .cells #[(int xn.cls), (int (-1)), (.slice a403 (((([] : List Str) ++ xn.names) ++ [name]).length) cap404), (.slice none 0 0)] 75 (0, 0)) rfl rfl rfl (Want.plain rfl) (by kernel_rfl) (fun b410 w411 hst412 => ?_)
            refine ⟨(fun _ => ⟨(Le.trans hle392 hst412.rle'), hst412.g 6, hst412.g 7⟩), ?_⟩
            refine LA_all [16] (by decide +kernel) (by simp) ?_
            intro i_ hi_
            simp only [List.mem_cons, List.not_mem_nil, or_false] at hi_
            subst hi_
            refine One_append (j := 16) hst412 (t := 70) (e := 75) (ys := [Sn.mk (Nd.mk xn.cls (-1) ((([] : List Str) ++ xn.names) ++ [name])) [] (.slice none 0 0)]) (src := [(int xn.cls), (int (-1)), (.slice a403 (((([] : List Str) ++ xn.names) ++ [name]).length) cap404), (.slice none 0 0)]) 2 rfl rfl rfl (Want.plain rfl) rfl rfl rfl sl_70 ti_75 rfl rfl rfl hm394 (src_own (hst412.b 0)) (sn_mk (RdS.mono hrd398 (Le.refl _))) rfl (by first | omega | (simp only [List.length_append, List.length_cons, List.length_nil]; omega)) (by first | (simp only [maxLen]; omega) | (simp only [List.length_append, List.length_cons, List.length_nil, maxLen]; omega)) (fun v416 c417 w418 ho419 hst420 => ?_)
            refine ⟨(fun _ => ⟨(Le.trans hle392 hst420.rle'), hst420.g 6, hst420.g 7⟩), ?_⟩
            refine LP (ptr p 0) 17 rfl rfl rfl (fun u422 => rfl) ⟨(Le.trans hle392 hst420.rle'), hst420.g 6, hst420.g 7⟩ ?_
            refine LP (ptr p 0) 18 rfl rfl rfl (fun u425 => (by kernel_rfl)) ⟨(Le.trans hle392 hst420.rle'), hst420.g 6, hst420.g 7⟩ ?_
            refine LA_all [19] (by decide +kernel) (by simp) ?_
            intro i_ hi_
            simp only [List.mem_cons, List.not_mem_nil, or_false] at hi_
            subst hi_
            obtain ⟨a428, cap429, e430, hc431⟩ := ho419.value
            subst e430
            obtain ⟨w432, hr434, hst433⟩ := run_storeW (P := Tryz.prog) (b := p) (off := 0) (v := (.slice a428 (((List.set xs (cn s.nodes kn) (Sn.mk xn ((([] : List Lk) ++ (List.take i_68 xl)) ++ ([((name, (xs.length : Int)) : Lk)] ++ (List.drop i_68 xl))) (.slice a239 (((([] : List Lk) ++ (List.take i_68 xl)) ++ ([((name, (xs.length : Int)) : Lk)] ++ (List.drop i_68 xl))).length) cap240))) ++ [Sn.mk (Nd.mk xn.cls (-1) ((([] : List Str) ++ xn.names) ++ [name])) [] (.slice none 0 0)]).length) cap429)) hst420 7 ti_70 rfl rfl rfl rfl rfl rfl
            change Step _ _ _ _ _ [c417, one b410 (.cells #[(int xn.cls), (int (-1)), (.slice a403 (((([] : List Str) ++ xn.names) ++ [name]).length) cap404), (.slice none 0 0)] 75 (0, 0)), one b369 (.cells #[(.string name)] 9 (0, 0)), c207, c135, c2, one b48 (.cells #[(int xn.cls), (int xn.ali), (.slice a51 xn.names.length cap52), (.slice (some ⟨b73, 0, none⟩) xl.length cap45)] 75 (0, 0)), one p (.cells #[(.slice a428 (((List.set xs (cn s.nodes kn) (Sn.mk xn ((([] : List Lk) ++ (List.take i_68 xl)) ++ ([((name, (xs.length : Int)) : Lk)] ++ (List.drop i_68 xl))) (.slice a239 (((([] : List Lk) ++ (List.take i_68 xl)) ++ ([((name, (xs.length : Int)) : Lk)] ++ (List.drop i_68 xl))).length) cap240))) ++ [Sn.mk (Nd.mk xn.cls (-1) ((([] : List Str) ++ xn.names) ++ [name])) [] (.slice none 0 0)]).length) cap429), vR] 72 (0, 0)), cR] at hst433
            refine One_skip (i := 19) rfl rfl (Want.plain rfl) (x_store rfl rfl rfl hr434) (fun h => absurd h (by decide +kernel)) ?_
            refine LA_done (by decide +kernel) ?_
            refine W_seq ?_
            refine W_region_lit ?_
            refine Lq (int (xs.length : Int)) rfl rfl rfl rfl ?_
            refine Lq (int (xs.length : Int)) rfl rfl rfl rfl ?_
            refine Lq (int 0) rfl rfl rfl rfl ?_
            refine L_nil ?_
            refine W_ret ?_
            refine ⟨_, _, res_run (rs := [.tmp 6, .tmp 7]) (vs := [(int (xs.length : Int)), (int 0)]) Tryz.results50 (.cons (.tmp rfl) (.cons (.tmp rfl) .nil)) hmk60, ?_⟩
            have hx_ : s.nodes[cn s.nodes kn]? = some xn := by rw [List.getElem?_eq_getElem (by omega), hnd40]
            have hm_ : ¬ name ∈ xn.names := by have h_ := c14; rw [slot_cn hS.can hal (by omega) hx_] at h_; exact of_decide_eq_false h_
            have hg_ := link_none (i := i_68) hwf.ok hlk47 hf66 (fun hi_ => ⟨c87, of_decide_eq_false c94⟩)
            have he := add_new (s := s) (x := xn) (name := name) (k := kn) (by omega) hx_ (of_decide_eq_false c11) hm_ (by rw [hg_]; rfl) (by omega) (by omega)
            have hw2 := hwf.add (kn : Int) name
            rw [he] at hw2 ⊢
            have hst435 := (((((hst433.front 8 rfl rfl).front 1 rfl rfl).front 8 rfl rfl).front 7 rfl rfl).front 6 rfl rfl)
            have hd436 := (List.pairwise_cons.1 hst435.sats.dj).1 _ (List.mem_cons_self ..)
            have hX437 := hback _ (Sn.mk xn ((([] : List Lk) ++ (List.take i_68 xl)) ++ ([((name, (xs.length : Int)) : Lk)] ++ (List.drop i_68 xl))) (.slice a239 (((([] : List Lk) ++ (List.take i_68 xl)) ++ ([((name, (xs.length : Int)) : Lk)] ++ (List.drop i_68 xl))).length) cap240)) _ (Le.trans hle125 hle392) hm395 hd436
            obtain ⟨c', hst', htree'⟩ := RefT.close (s := s.grown kn xn name) ((hst435.join.front 2 rfl rfl).front 2 rfl rfl) ho419 (hX437.app (y := ⟨⟨xn.cls, -1, ((([] : List Str) ++ xn.names) ++ [name])⟩, [], .slice none 0 0⟩) rfl rfl) hm397 (hag.grown (i := i_68) hwf rfl (by omega) hw2.ok hg_ hlk47 (by omega) hf66 (fun hi_ => ⟨c87, of_decide_eq_false c94⟩) (by rw [← hx39]) (by simp [hxl])) hw2 (hS.app (by omega) (by simp only [List.length_append, List.length_cons, List.length_nil]; omega) rfl) hrl
            exact ⟨_, _, _, rfl, hst'.keepN 1 rfl, c', (by rw [hxl]; rfl), rfl, htree'⟩
          ·
           refine One_new hst250 (i := 12) (v := fun b => .slice (some ⟨b, 0, none⟩) 1 1) (ob := .cells #[(.string name)] 9 (0, 0)) rfl rfl rfl (Want.plain rfl) (by kernel_rfl) (fun b438 w439 hst440 => ?_)
           refine ⟨(fun _ => ⟨hst440.rle', hst440.g 5, hst440.g 6⟩), ?_⟩
           refine LA_all [7] (by decide +kernel) (by simp) ?_
           intro i_ hi_
           simp only [List.mem_cons, List.not_mem_nil, or_false] at hi_
           subst hi_
           refine One_new hst440 (i := 7) (v := fun b => .slice (some ⟨b, 0, none⟩) 0 0) (ob := .cells #[] 9 (0, 0)) rfl rfl rfl (Want.plain rfl) (by kernel_rfl) (fun b444 w445 hst446 => ?_)
           refine ⟨(fun _ => ⟨hst446.rle', hst446.g 6, hst446.g 7⟩), ?_⟩
           refine LA_all [10] (by decide +kernel) (by simp) ?_
           intro i_ hi_
           simp only [List.mem_cons, List.not_mem_nil, or_false] at hi_
           subst hi_
           have ho450 : OwnL Ty.str 9 R123 (.slice (some ⟨b444, 0, none⟩) 0 0) ([] : List Str) (one b444 (.cells #[] 9 (0, 0))) := OwnL.lit (cs := []) Encs.nil rfl (by decide)
           obtain ⟨v451, c452, w453, hr454, ho455, hst456⟩ := run_appendM (P := Tryz.prog) (tt := 42) sl_42 ti_9 rfl ho450 hst446 (RdS.mono hvn42 hle125) hst446.rle' (by simp only [List.length_append, List.length_cons, List.length_nil]; omega) (by simp only [List.length_append, List.length_cons, List.length_nil, maxLen]; omega)
           refine One_val (i := 10) (v := v451) rfl rfl rfl (Want.plain rfl) (x_append rfl rfl rfl hr454) (fun _ => ⟨hst456.rle', hst456.g 6, hst456.g 7⟩) ?_
           refine LA_all [13] (by decide +kernel) (by simp) ?_
           intro i_ hi_
           simp only [List.mem_cons, List.not_mem_nil, or_false] at hi_
           subst hi_
           refine One_append (j := 13) hst456 (t := 42) (e := 9) (ys := [name]) (src := [(.string name)]) 0 rfl rfl rfl (Want.plain rfl) rfl rfl rfl sl_42 ti_9 rfl rfl rfl ho455 (src_own (hst456.b 1)) (str_mk _ _) rfl (by first | omega | (simp only [List.length_append, List.length_cons, List.length_nil]; omega)) (by first | (simp only [maxLen]; omega) | (simp only [List.length_append, List.length_cons, List.length_nil, maxLen]; omega)) (fun v460 c461 w462 ho463 hst464 => ?_)
           refine ⟨(fun _ => ⟨hst464.rle', hst464.g 6, hst464.g 7⟩), ?_⟩
           obtain ⟨R465, hst466, hle467, hc468⟩ := Step.frz hst464
           have hm469 := OwnL.mono ho248 hle467
           have hm470 := OwnL.mono ho210 hle467
           have hm471 := OwnL.mono ho138 hle467
           have hm472 := OwnL.mono hm128 hle467
           have hrd473 := OwnL.freeze ho463 hle467 hc468
           have hxs474 : ((([] : List Str) ++ xn.names) ++ [name]).length = xn.names.length + 1 := by simp
           obtain ⟨a478, cap479, e480, hc481⟩ := hrd473.shape
           subst e480
           refine LP (.agg #[(int xn.cls), (int (-1)), (.slice a478 (((([] : List Str) ++ xn.names) ++ [name]).length) cap479), (.slice none 0 0)]) 14 rfl rfl rfl (fun u476 => (by kernel_rfl)) ⟨(Le.trans hle467 hst466.rle'), hst466.g 5, hst466.g 6⟩ ?_
           refine LA_all [15] (by decide +kernel) (by simp) ?_
           intro i_ hi_
           simp only [List.mem_cons, List.not_mem_nil, or_false] at hi_
           subst hi_
           refine One_new hst466 (i := 15) (v := fun b => .slice (some ⟨b, 0, none⟩) 1 1) (ob := .cells #[(int xn.cls), (int (-1)), (.slice a478 (((([] : List Str) ++ xn.names) ++ [name]).length) cap479), (.slice none 0 0)] 75 (0, 0)) rfl rfl rfl (Want.plain rfl) (by kernel_rfl) (fun b485 w486 hst487 => ?_)
           refine ⟨(fun _ => ⟨(Le.trans hle467 hst487.rle'), hst487.g 6, hst487.g 7⟩), ?_⟩
           refine LA_all [16] (by decide +kernel) (by simp) ?_
           intro i_ hi_
           simp only [List.mem_cons, List.not_mem_nil, or_false] at hi_
           subst hi_
           refine One_append (j := 16) hst487 (t := 70) (e := 75) (ys := [Sn.mk (Nd.mk xn.cls (-1) ((([] : List Str) ++ xn.names) ++ [name])) [] (.slice none 0 0)]) (src := [(int xn.cls), (int (-1)), (.slice a478 (((([] : List Str) ++ xn.names) ++ [name]).length) cap479), (.slice none 0 0)]) 2 rfl rfl rfl (Want.plain rfl) rfl rfl rfl sl_70 ti_75 rfl rfl rfl hm469 (src_own (hst487.b 0)) (sn_mk (RdS.mono hrd473 (Le.refl _))) rfl (by first | omega | (simp only [List.length_append, List.length_cons, List.length_nil]; omega)) (by first | (simp only [maxLen]; omega) | (simp only [List.length_append, List.length_cons, List.length_nil, maxLen]; omega)) (fun v491 c492 w493 ho494 hst495 => ?_)
           refine ⟨(fun _ => ⟨(Le.trans hle467 hst495.rle'), hst495.g 6, hst495.g 7⟩), ?_⟩
           refine LP (ptr p 0) 17 rfl rfl rfl (fun u497 => rfl) ⟨(Le.trans hle467 hst495.rle'), hst495.g 6, hst495.g 7⟩ ?_
           refine LP (ptr p 0) 18 rfl rfl rfl (fun u500 => (by kernel_rfl)) ⟨(Le.trans hle467 hst495.rle'), hst495.g 6, hst495.g 7⟩ ?_
           refine LA_all [19] (by decide +kernel) (by simp) ?_
           intro i_ hi_
           simp only [List.mem_cons, List.not_mem_nil, or_false] at hi_
           subst hi_
           obtain ⟨a503, cap504, e505, hc506⟩ := ho494.value
           subst e505
           obtain ⟨w507, hr509, hst508⟩ := run_storeW (P := Tryz.prog) (b := p) (off := 0) (v := (.slice a503 (((List.set xs (cn s.nodes kn) (Sn.mk xn ((([] : List Lk) ++ (List.take i_68 xl)) ++ ([((name, (xs.length : Int)) : Lk)] ++ (List.drop i_68 xl))) (.slice a239 (((([] : List Lk) ++ (List.take i_68 xl)) ++ ([((name, (xs.length : Int)) : Lk)] ++ (List.drop i_68 xl))).length) cap240))) ++ [Sn.mk (Nd.mk xn.cls (-1) ((([] : List Str) ++ xn.names) ++ [name])) [] (.slice none 0 0)]).length) cap504)) hst495 7 ti_70 rfl rfl rfl rfl rfl rfl
           change Step _ _ _ _ _ [c492, one b485 (.cells #[(int xn.cls), (int (-1)), (.slice a478 (((([] : List Str) ++ xn.names) ++ [name]).length) cap479), (.slice none 0 0)] 75 (0, 0)), one b438 (.cells #[(.string name)] 9 (0, 0)), c207, c135, c2, one b48 (.cells #[(int xn.cls), (int xn.ali), (.slice a51 xn.names.length cap52), (.slice (some ⟨b73, 0, none⟩) xl.length cap45)] 75 (0, 0)), one p (.cells #[(.slice a503 (((List.set xs (cn s.nodes kn) (Sn.mk xn ((([] : List Lk) ++ (List.take i_68 xl)) ++ ([((name, (xs.length : Int)) : Lk)] ++ (List.drop i_68 xl))) (.slice a239 (((([] : List Lk) ++ (List.take i_68 xl)) ++ ([((name, (xs.length : Int)) : Lk)] ++ (List.drop i_68 xl))).length) cap240))) ++ [Sn.mk (Nd.mk xn.cls (-1) ((([] : List Str) ++ xn.names) ++ [name])) [] (.slice none 0 0)]).length) cap504), vR] 72 (0, 0)), cR] at hst508
           refine One_skip (i := 19) rfl rfl (Want.plain rfl) (x_store rfl rfl rfl hr509) (fun h => absurd h (by decide +kernel)) ?_
           refine LA_done (by decide +kernel) ?_
           refine W_seq ?_
           refine W_region_lit ?_
           refine Lq (int (xs.length : Int)) rfl rfl rfl rfl ?_
           refine Lq (int (xs.length : Int)) rfl rfl rfl rfl ?_
           refine Lq (int 0) rfl rfl rfl rfl ?_
           refine L_nil ?_
           refine W_ret ?_
           refine ⟨_, _, res_run (rs := [.tmp 6, .tmp 7]) (vs := [(int (xs.length : Int)), (int 0)]) Tryz.results50 (.cons (.tmp rfl) (.cons (.tmp rfl) .nil)) hmk60, ?_⟩
           have hx_ : s.nodes[cn s.nodes kn]? = some xn := by rw [List.getElem?_eq_getElem (by omega), hnd40]
           have hm_ : ¬ name ∈ xn.names := by have h_ := c14; rw [slot_cn hS.can hal (by omega) hx_] at h_; exact of_decide_eq_false h_
           have hg_ := link_none (i := i_68) hwf.ok hlk47 hf66 (fun hi_ => ⟨c87, of_decide_eq_false c94⟩)
           have he := add_new (s := s) (x := xn) (name := name) (k := kn) (by omega) hx_ (of_decide_eq_false c11) hm_ (by rw [hg_]; rfl) (by omega) (by omega)
           have hw2 := hwf.add (kn : Int) name
           rw [he] at hw2 ⊢
           have hst510 := (((((hst508.front 8 rfl rfl).front 1 rfl rfl).front 8 rfl rfl).front 7 rfl rfl).front 6 rfl rfl)
           have hd511 := (List.pairwise_cons.1 hst510.sats.dj).1 _ (List.mem_cons_self ..)
           have hX512 := hback _ (Sn.mk xn ((([] : List Lk) ++ (List.take i_68 xl)) ++ ([((name, (xs.length : Int)) : Lk)] ++ (List.drop i_68 xl))) (.slice a239 (((([] : List Lk) ++ (List.take i_68 xl)) ++ ([((name, (xs.length : Int)) : Lk)] ++ (List.drop i_68 xl))).length) cap240)) _ (Le.trans hle125 hle467) hm470 hd511
           obtain ⟨c', hst', htree'⟩ := RefT.close (s := s.grown kn xn name) ((hst510.join.front 2 rfl rfl).front 2 rfl rfl) ho494 (hX512.app (y := ⟨⟨xn.cls, -1, ((([] : List Str) ++ xn.names) ++ [name])⟩, [], .slice none 0 0⟩) rfl rfl) hm472 (hag.grown (i := i_68) hwf rfl (by omega) hw2.ok hg_ hlk47 (by omega) hf66 (fun hi_ => ⟨c87, of_decide_eq_false c94⟩) (by rw [← hx39]) (by simp [hxl])) hw2 (hS.app (by omega) (by simp only [List.length_append, List.length_cons, List.length_nil]; omega) rfl) hrl
           exact ⟨_, _, _, rfl, hst'.keepN 1 rfl, c', (by rw [hxl]; rfl), rfl, htree'⟩
     ·
      have q513 := of_decide_eq_false c71
      refine L_unwanted rfl rfl rfl rfl (by rw [c71]; try rfl) rfl rfl ?_
      refine L_unwanted rfl rfl rfl rfl (by rw [c71]; try rfl) rfl rfl ?_
      refine L_unwanted rfl rfl rfl rfl (by rw [c71]; try rfl) rfl rfl ?_
      refine L_unwanted rfl rfl rfl rfl (by rw [c71]; try rfl) rfl rfl ?_
      refine L_unwanted rfl rfl rfl rfl (by rw [c71]; try rfl) rfl rfl ?_
      refine L_unwanted rfl rfl rfl rfl (by rw [c71]; try rfl) rfl rfl ?_
      refine L_unwanted rfl rfl rfl rfl (by rw [c71]; try rfl) rfl rfl ?_
      refine L_unwanted rfl rfl rfl rfl (by rw [c71]; try rfl) rfl rfl ?_
      refine Lq (.bool false) rfl rfl rfl (x_pick rfl rfl (by rw [c71]; rfl)) ?_
      refine L_nil ?_
      refine W_cond_false (by show Value.bool _ = _; exact congrArg Value.bool rfl) ?_
      refine W_exit ?_
      refine W_seq ?_
      refine W_seq ?_
      refine W_region_lit ?_
      refine Lq (int (i_68 : Int)) rfl rfl rfl rfl ?_
      refine Lq (ptr b48 3) rfl rfl rfl (by kernel_rfl) ?_
      refine Lq (.slice a43 xl.length cap45) rfl rfl rfl (x_load rfl rfl (run_loadVar_one ti_73 (hst61.b 2) rfl)) ?_
      refine Lq (int (xl.length : Int)) rfl rfl rfl (x_len_slice rfl sl_73 rfl) ?_
      refine Lq (.bool (decide ((i_68 : Int) < (xl.length : Int)))) rfl rfl rfl (by kernel_rfl) ?_
      refine Lq (.bool (decide ((i_68 : Int) < (xl.length : Int)))) rfl rfl rfl rfl ?_
      refine L_unwanted rfl rfl rfl rfl (by rw [c71]; try rfl) rfl rfl ?_
      refine L_unwanted rfl rfl rfl rfl (by rw [c71]; try rfl) rfl rfl ?_
      refine L_unwanted rfl rfl rfl rfl (by rw [c71]; try rfl) rfl rfl ?_
      refine L_unwanted rfl rfl rfl rfl (by rw [c71]; try rfl) rfl rfl ?_
      refine L_unwanted rfl rfl rfl rfl (by rw [c71]; try rfl) rfl rfl ?_
      refine L_unwanted rfl rfl rfl rfl (by rw [c71]; try rfl) rfl rfl ?_
      refine L_unwanted rfl rfl rfl rfl (by rw [c71]; try rfl) rfl rfl ?_
      refine L_unwanted rfl rfl rfl rfl (by rw [c71]; try rfl) rfl rfl ?_
      refine Lq (.bool false) rfl rfl rfl (x_pick rfl rfl (by rw [c71]; rfl)) ?_
      refine L_nil ?_
      refine W_cond_false (by show Value.bool _ = _; exact congrArg Value.bool rfl) ?_
      refine W_skip ?_
      refine W_seq ?_
      refine W_seq ?_
      refine W_region_lit ?_
      refine Lq (ptr b48 2) rfl rfl rfl (by kernel_rfl) ?_
      refine Lq (.slice a51 xn.names.length cap52) rfl rfl rfl (x_load rfl rfl (run_loadVar_one ti_42 (hst61.b 2) rfl)) ?_
      refine Lq (int (xn.names.length : Int)) rfl rfl rfl (x_len_slice rfl sl_42 rfl) ?_
      refine Lq (.bool (decide ((xn.names.length : Int) ≥ 64))) rfl rfl rfl (by kernel_rfl) ?_
      refine Lq (.bool (decide ((xn.names.length : Int) ≥ 64))) rfl rfl rfl rfl ?_
      rcases Bool.eq_false_or_eq_true (decide ((xn.names.length : Int) ≥ 64)) with c514 | c514
      ·
       have q515 := of_decide_eq_true c514
       refine L_unwanted rfl rfl rfl rfl (by rw [c514]; try rfl) rfl rfl ?_
       refine L_unwanted rfl rfl rfl rfl (by rw [c514]; try rfl) rfl rfl ?_
       refine L_unwanted rfl rfl rfl rfl (by rw [c514]; try rfl) rfl rfl ?_
       refine L_unwanted rfl rfl rfl rfl (by rw [c514]; try rfl) rfl rfl ?_
       refine L_unwanted rfl rfl rfl rfl (by rw [c514]; try rfl) rfl rfl ?_
       refine L_unwanted rfl rfl rfl rfl (by rw [c514]; try rfl) rfl rfl ?_
       refine Lq (.bool true) rfl rfl rfl (x_pick rfl rfl (by rw [c514]; rfl)) ?_
       refine L_nil ?_
       refine W_cond_true (by show Value.bool _ = _; exact congrArg Value.bool rfl) ?_
       refine W_seq ?_
       refine W_region_lit ?_
       refine Lq (int 0) rfl rfl rfl rfl ?_
       refine Lq (int 2) rfl rfl rfl rfl ?_
       refine L_nil ?_
       refine W_ret ?_
       refine ⟨_, _, res_run (rs := [.tmp 6, .tmp 7]) (vs := [(int 0), (int 2)]) Tryz.results50 (.cons (.tmp rfl) (.cons (.tmp rfl) .nil)) hmk60, ?_⟩
       have hx_ : s.nodes[cn s.nodes kn]? = some xn := by rw [List.getElem?_eq_getElem (by omega), hnd40]
       have hm_ : ¬ name ∈ xn.names := by have h_ := c14; rw [slot_cn hS.can hal (by omega) hx_] at h_; exact of_decide_eq_false h_
       have hg_ := link_none (i := i_68) hwf.ok hlk47 hf66 (fun hi_ => absurd hi_ (by omega))
       have he := add_many (s := s) (x := xn) (name := name) (k := kn) (by omega) hx_ (of_decide_eq_false c11) hm_ (by rw [hg_]; rfl) (by omega)
       rw [he]
       have hst516 := (((((hst61.front 5 rfl rfl).front 5 rfl rfl).front 5 rfl rfl).front 4 rfl rfl).front 4 rfl rfl)
       have hd517 := (List.pairwise_cons.1 hst516.sats.dj).1 _ (List.mem_cons_self ..)
       have hX518 := hback _ (Sn.mk xn xl (.slice a43 xl.length cap45)) _ (Le.refl _) hi64 hd517
       rw [set_self (by omega) hx39] at hX518
       obtain ⟨c', hst', htree'⟩ := RefT.close (s := s) ((hst516.join.front 2 rfl rfl).front 2 rfl rfl) ho57 hX518 hRs hag hwf hS hrl
       exact ⟨_, _, _, rfl, hst'.keepN 1 rfl, c', rfl, rfl, htree'⟩
      ·
       have q519 := of_decide_eq_false c514
       refine L_guard rfl rfl rfl rfl c514 ?_
       refine Lq (ptr p 0) rfl rfl rfl rfl ?_
       refine L_guard rfl rfl rfl rfl c514 ?_
       refine Lq (ptr p 0) rfl rfl rfl rfl ?_
       refine L_guard rfl rfl rfl rfl c514 ?_
       refine Lq (ptr p 0) rfl rfl rfl (by kernel_rfl) ?_
       refine L_guard rfl rfl rfl rfl c514 ?_
       refine Lq (.slice (some ⟨b25, 0, none⟩) xs.length cap22) rfl rfl rfl (x_load rfl rfl (run_loadVar_one ti_70 (hst61.b 3) rfl)) ?_
       refine L_guard rfl rfl rfl rfl c514 ?_
       refine Lq (int (xs.length : Int)) rfl rfl rfl (x_len_slice rfl sl_70 rfl) ?_
       refine L_guard rfl rfl rfl rfl c514 ?_
       refine Lq (.bool (decide ((xs.length : Int) ≥ 200))) rfl rfl rfl (by kernel_rfl) ?_
       refine Lq (.bool (decide ((xs.length : Int) ≥ 200))) rfl rfl rfl (x_pick rfl rfl (by rw [c514]; rfl)) ?_
       refine L_nil ?_
       rcases Bool.eq_false_or_eq_true (decide ((xs.length : Int) ≥ 200)) with c520 | c520
       ·
        have q521 := of_decide_eq_true c520
        refine W_cond_true (by show Value.bool _ = _; exact congrArg Value.bool c520) ?_
        refine W_seq ?_
        refine W_region_lit ?_
        refine Lq (int 0) rfl rfl rfl rfl ?_
        refine Lq (int 2) rfl rfl rfl rfl ?_
        refine L_nil ?_
        refine W_ret ?_
        refine ⟨_, _, res_run (rs := [.tmp 6, .tmp 7]) (vs := [(int 0), (int 2)]) Tryz.results50 (.cons (.tmp rfl) (.cons (.tmp rfl) .nil)) hmk60, ?_⟩
        have hx_ : s.nodes[cn s.nodes kn]? = some xn := by rw [List.getElem?_eq_getElem (by omega), hnd40]
        have hm_ : ¬ name ∈ xn.names := by have h_ := c14; rw [slot_cn hS.can hal (by omega) hx_] at h_; exact of_decide_eq_false h_
        have hg_ := link_none (i := i_68) hwf.ok hlk47 hf66 (fun hi_ => absurd hi_ (by omega))
        have he := add_many (s := s) (x := xn) (name := name) (k := kn) (by omega) hx_ (of_decide_eq_false c11) hm_ (by rw [hg_]; rfl) (by omega)
        rw [he]
        have hst522 := (((((hst61.front 5 rfl rfl).front 5 rfl rfl).front 5 rfl rfl).front 4 rfl rfl).front 4 rfl rfl)
        have hd523 := (List.pairwise_cons.1 hst522.sats.dj).1 _ (List.mem_cons_self ..)
        have hX524 := hback _ (Sn.mk xn xl (.slice a43 xl.length cap45)) _ (Le.refl _) hi64 hd523
        rw [set_self (by omega) hx39] at hX524
        obtain ⟨c', hst', htree'⟩ := RefT.close (s := s) ((hst522.join.front 2 rfl rfl).front 2 rfl rfl) ho57 hX524 hRs hag hwf hS hrl
        exact ⟨_, _, _, rfl, hst'.keepN 1 rfl, c', rfl, rfl, htree'⟩
       ·
        have q525 := of_decide_eq_false c520
        refine W_cond_false (by show Value.bool _ = _; exact congrArg Value.bool c520) ?_
        refine W_skip ?_
        refine W_seq ?_
        refine W_region_lit ?_
        refine Lq (ptr p 0) rfl rfl rfl rfl ?_
        refine Lq (ptr p 0) rfl rfl rfl rfl ?_
        refine Lq (ptr p 0) rfl rfl rfl (by kernel_rfl) ?_
        refine Lq (.slice (some ⟨b25, 0, none⟩) xs.length cap22) rfl rfl rfl (x_load rfl rfl (run_loadVar_one ti_70 (hst61.b 3) rfl)) ?_
        refine Lq (int (xs.length : Int)) rfl rfl rfl (x_len_slice rfl sl_70 rfl) ?_
        refine Lq (int (xs.length : Int)) rfl rfl rfl rfl ?_
        refine L_nil ?_
        refine W_seq ?_
        obtain ⟨R526, hst527, hle528, hc529⟩ := Step.frz hst61
        have hm530 := OwnL.mono ho57 hle528
        have hm531 := OwnL.mono hRs hle528
        have hrd532 := OwnL.freeze hi64 hle528 hc529
        refine W_region_lit ?_
        refine Lq (.string name) rfl rfl rfl rfl ?_
        refine Lq (int (xs.length : Int)) rfl rfl rfl rfl ?_
        refine Lq (.agg #[(.string name), (int (xs.length : Int))]) rfl rfl rfl (by kernel_rfl) ?_
        refine L_new hst527 (v := fun b => .slice (some ⟨b, 0, none⟩) 1 1) (ob := .cells #[(.string name), (int (xs.length : Int))] 91 (0, 0)) rfl rfl rfl (by kernel_rfl) (fun b533 w534 hst535 => ?_)
        refine Lq (ptr b48 3) rfl rfl rfl (by kernel_rfl) ?_
        refine Lq (.slice a43 xl.length cap45) rfl rfl rfl (x_load rfl rfl (run_loadVar_one ti_73 (hst535.b 2) rfl)) ?_
        refine Lq (int (i_68 : Int)) rfl rfl rfl rfl ?_
        refine Lq (.slice (if cap45 = i_68 then a43 else Option.map (fun (a_ : Addr) => a_.add (i_68 * 2)) (a43 : Option Addr)) (xl.length - i_68) (cap45 - i_68)) rfl rfl rfl (x_sliceLo (v := (.slice a43 xl.length cap45)) rfl rfl rfl sl_73 (run_sliceLo sl_73 ti_91 (by omega) (by omega))) ?_
        have ho536 : OwnL tyLk 91 R526 (.slice (some ⟨b533, 0, none⟩) 1 1) [((name, (xs.length : Int)) : Lk)] (one b533 (.cells #[(.string name), (int (xs.length : Int))] 91 (0, 0))) := OwnL.lit (cs := [(.string name), (int (xs.length : Int))]) (lk_mk _ _ _) rfl (by decide)
        obtain ⟨v537, c538, w539, hr540, ho541, hst542⟩ := run_appendM (P := Tryz.prog) (tt := 73) sl_73 ti_91 rfl ho536 hst535 (RdS.dropK (k := i_68) (RdS.mono hrd532 (Le.refl _)) (by omega)) hst535.rle' (by simp only [List.length_append, List.length_take, List.length_drop, List.length_cons, List.length_nil]; omega) (by simp only [List.length_append, List.length_take, List.length_drop, List.length_cons, List.length_nil, maxLen]; omega)
        refine L_val (v := v537) (w' := w539) rfl rfl rfl (x_append rfl rfl rfl hr540) ?_
        refine Lq v537 rfl rfl rfl rfl ?_
        refine L_nil ?_
        refine W_seq ?_
        refine W_region_draw [15] (fun w => Le R526 (hp w) ∧ Le (one b48 (.cells #[(int xn.cls), (int xn.ali), (.slice a51 xn.names.length cap52), (.slice a43 xl.length cap45)] 75 (0, 0))) (hp w) ∧ Le (one p (.cells #[(.slice (some ⟨b25, 0, none⟩) xs.length cap22), vR] 72 (0, 0))) (hp w)) hmix (by decide +kernel) (fun _ _ h => h) ?_
        have hst544 := hst542.draws (w539.drawn + 1)
        generalize draws w539 (w539.drawn + 1) = w543 at hst544 ⊢
        refine LP (ptr p 0) 0 rfl rfl rfl (fun u546 => rfl) ⟨hst544.rle', hst544.g 2, hst544.g 3⟩ ?_
        refine LP (ptr p 0) 1 rfl rfl rfl (fun u549 => rfl) ⟨hst544.rle', hst544.g 2, hst544.g 3⟩ ?_
        refine LP (ptr p 0) 2 rfl rfl rfl (fun u552 => (by kernel_rfl)) ⟨hst544.rle', hst544.g 2, hst544.g 3⟩ ?_
        refine LT (.slice (some ⟨b25, 0, none⟩) xs.length cap22) 3 rfl rfl rfl (fun u555 hF556 => (x_load rfl rfl (run_loadVar_one ti_70 (hF556.2.2 _ _ (one_self _ _)) rfl))) ⟨hst544.rle', hst544.g 2, hst544.g 3⟩ ?_
        refine LP (int (((cn s.nodes kn) : Nat) : Int)) 4 rfl rfl rfl (fun u558 => rfl) ⟨hst544.rle', hst544.g 2, hst544.g 3⟩ ?_
        refine LP (ptr b48 3) 6 rfl rfl rfl (fun u563 => (by kernel_rfl)) ⟨hst544.rle', hst544.g 2, hst544.g 3⟩ ?_
        refine LT (.slice a43 xl.length cap45) 7 rfl rfl rfl (fun u568 hF569 => (x_load rfl rfl (run_loadVar_one ti_73 (hF569.2.1 _ _ (one_self _ _)) rfl))) ⟨hst544.rle', hst544.g 2, hst544.g 3⟩ ?_
        refine LP (int (i_68 : Int)) 8 rfl rfl rfl (fun u573 => rfl) ⟨hst544.rle', hst544.g 2, hst544.g 3⟩ ?_
        refine LT (.slice a43 i_68 cap45) 9 rfl rfl rfl (fun u578 hF579 => (x_slice sl_73 rfl rfl (run_sliceHi sl_73 ti_91 (by omega)))) ⟨hst544.rle', hst544.g 2, hst544.g 3⟩ ?_
        refine LP v537 11 rfl rfl rfl (fun u583 => rfl) ⟨hst544.rle', hst544.g 2, hst544.g 3⟩ ?_
        refine LA_all [5] (by decide +kernel) (by simp) ?_
        intro i_ hi_
        simp only [List.mem_cons, List.not_mem_nil, or_false] at hi_
        subst hi_
        refine One_new hst544 (i := 5) (v := fun b => .slice (some ⟨b, 0, none⟩) 0 0) (ob := .cells #[] 91 (0, 0)) rfl rfl rfl (Want.plain rfl) (by kernel_rfl) (fun b588 w589 hst590 => ?_)
        refine ⟨(fun _ => ⟨hst590.rle', hst590.g 3, hst590.g 4⟩), ?_⟩
        refine LA_all [10] (by decide +kernel) (by simp) ?_
        intro i_ hi_
        simp only [List.mem_cons, List.not_mem_nil, or_false] at hi_
        subst hi_
        have ho594 : OwnL tyLk 91 R526 (.slice (some ⟨b588, 0, none⟩) 0 0) ([] : List Lk) (one b588 (.cells #[] 91 (0, 0))) := OwnL.lit (cs := []) Encs.nil rfl (by decide)
        obtain ⟨v595, c596, w597, hr598, ho599, hst600⟩ := run_appendM (P := Tryz.prog) (tt := 73) sl_73 ti_91 rfl ho594 hst590 (RdS.takeK (k := i_68) (RdS.mono hrd532 (Le.refl _)) (by omega)) hst590.rle' (by simp only [List.length_append, List.length_take, List.length_drop, List.length_cons, List.length_nil]; omega) (by simp only [List.length_append, List.length_take, List.length_drop, List.length_cons, List.length_nil, maxLen]; omega)
        refine One_val (i := 10) (v := v595) rfl rfl rfl (Want.plain rfl) (x_append rfl rfl rfl hr598) (fun _ => ⟨hst600.rle', hst600.g 3, hst600.g 4⟩) ?_
        refine LA_all [12] (by decide +kernel) (by simp) ?_
        intro i_ hi_
        simp only [List.mem_cons, List.not_mem_nil, or_false] at hi_
        subst hi_
        obtain ⟨a605, cap606, e607, hc608⟩ := ho541.value
        subst e607
        obtain ⟨v609, c610, w611, hr612, ho613, hst614⟩ := run_appendO (P := Tryz.prog) (tt := 73) sl_73 ti_91 rfl ho599 hst600 ho541 (hst600.g 1) (by simp only [List.length_append, List.length_take, List.length_drop, List.length_cons, List.length_nil]; omega) (by simp only [List.length_append, List.length_take, List.length_drop, List.length_cons, List.length_nil, maxLen]; omega)
        refine One_val (i := 12) (v := v609) rfl rfl rfl (Want.plain rfl) (x_append rfl rfl rfl hr612) (fun _ => ⟨hst614.rle', hst614.g 3, hst614.g 4⟩) ?_
        obtain ⟨b618, cap619, N620, e621, hc622, hrow623, hback624⟩ := OwnL.row hm530 (by omega)
        obtain ⟨ha626, hl625, rfl⟩ := Value.slice.inj e621
        have ha626 := congrArg Addr.block (Option.some.inj ha626)
        dsimp only at ha626
        subst ha626
        try rw [← hl625] at hback624
        obtain ⟨cl627, cs628, hr629, hcb630, hsg631⟩ := Row.at hrow623 (cn s.nodes kn) (by omega)
        rw [← hx39] at hr629
        obtain ⟨vn632, rfl, hvn633, a634, n635, cap636, e637⟩ := tySn_open hr629
        refine LP (ptr b25 (0 + (cn s.nodes kn) * 4)) 13 rfl rfl rfl (fun u616 => (x_indexAddr' rfl sl_70 ti_75 rfl rfl (by omega))) ⟨hst614.rle', hst614.g 3, hst614.g 4⟩ ?_
        refine LP (ptr b25 (0 + (cn s.nodes kn) * 4 + 3)) 14 rfl rfl rfl (fun u639 => (by kernel_rfl)) ⟨hst614.rle', hst614.g 3, hst614.g 4⟩ ?_
        refine LA_all [15] (by decide +kernel) (by simp) ?_
        intro i_ hi_
        simp only [List.mem_cons, List.not_mem_nil, or_false] at hi_
        subst hi_
        obtain ⟨a642, cap643, e644, hc645⟩ := ho613.value
        subst e644
        obtain ⟨c646, w647, hr648, hrow649, hst650⟩ := Row.storeG (P := Tryz.prog) (v := (.slice a642 (((([] : List Lk) ++ (List.take i_68 xl)) ++ ([((name, (xs.length : Int)) : Lk)] ++ (List.drop i_68 xl))).length) cap643)) (y := (Sn.mk xn ((([] : List Lk) ++ (List.take i_68 xl)) ++ ([((name, (xs.length : Int)) : Lk)] ++ (List.drop i_68 xl))) (.slice a642 (((([] : List Lk) ++ (List.take i_68 xl)) ++ ([((name, (xs.length : Int)) : Lk)] ++ (List.drop i_68 xl))).length) cap643))) hrow623 (hst614.front 5 rfl rfl) ti_73 (cn s.nodes kn) (by omega) 3 (by decide) rfl rfl (fun c1 h1 => by rw [← hx39] at h1; exact tySn_lk _ h1)
        refine One_skip (i := 15) rfl rfl (Want.plain rfl) (x_store rfl rfl rfl hr648) (fun h => absurd h (by decide +kernel)) ?_
        refine LA_done (by decide +kernel) ?_
        refine W_seq ?_
        have ho651 := (hback624 R526 (List.set xs (cn s.nodes kn) (Sn.mk xn ((([] : List Lk) ++ (List.take i_68 xl)) ++ ([((name, (xs.length : Int)) : Lk)] ++ (List.drop i_68 xl))) (.slice a642 (((([] : List Lk) ++ (List.take i_68 xl)) ++ ([((name, (xs.length : Int)) : Lk)] ++ (List.drop i_68 xl))).length) cap643))) c646 (by first | rfl | (simp only [List.length_set]; done) | (simp only [List.length_set]; omega) | omega) hrow649)
        have hsl_ : ((List.set xs (cn s.nodes kn) (Sn.mk xn ((([] : List Lk) ++ (List.take i_68 xl)) ++ ([((name, (xs.length : Int)) : Lk)] ++ (List.drop i_68 xl))) (.slice a642 (((([] : List Lk) ++ (List.take i_68 xl)) ++ ([((name, (xs.length : Int)) : Lk)] ++ (List.drop i_68 xl))).length) cap643)))).length = xs.length := by rw [List.length_set]
        refine W_region_draw [19] (fun w => Le R526 (hp w) ∧ Le (one b48 (.cells #[(int xn.cls), (int xn.ali), (.slice a51 xn.names.length cap52), (.slice a43 xl.length cap45)] 75 (0, 0))) (hp w) ∧ Le (one p (.cells #[(.slice (some ⟨b25, 0, none⟩) xs.length cap22), vR] 72 (0, 0))) (hp w)) hmix (by decide +kernel) (fun _ _ h => h) ?_
        have hst653 := hst650.draws (w647.drawn + 1)
        generalize draws w647 (w647.drawn + 1) = w652 at hst653 ⊢
        refine LP (ptr p 0) 0 rfl rfl rfl (fun u655 => rfl) ⟨hst653.rle', hst653.g 4, hst653.g 5⟩ ?_
        refine LP (ptr p 0) 1 rfl rfl rfl (fun u658 => rfl) ⟨hst653.rle', hst653.g 4, hst653.g 5⟩ ?_
        refine LP (ptr p 0) 2 rfl rfl rfl (fun u661 => rfl) ⟨hst653.rle', hst653.g 4, hst653.g 5⟩ ?_
        refine LP (ptr p 0) 3 rfl rfl rfl (fun u664 => (by kernel_rfl)) ⟨hst653.rle', hst653.g 4, hst653.g 5⟩ ?_
        refine LT (.slice (some ⟨b25, 0, none⟩) xs.length cap22) 4 rfl rfl rfl (fun u667 hF668 => (x_load rfl rfl (run_loadVar_one ti_70 (hF668.2.2 _ _ (one_self _ _)) rfl))) ⟨hst653.rle', hst653.g 4, hst653.g 5⟩ ?_
        refine LP (ptr b48 0) 5 rfl rfl rfl (fun u670 => (by kernel_rfl)) ⟨hst653.rle', hst653.g 4, hst653.g 5⟩ ?_
        refine LT (int xn.cls) 6 rfl rfl rfl (fun u673 hF674 => (x_load rfl rfl (run_loadVar_one ti_3 (hF674.2.1 _ _ (one_self _ _)) rfl))) ⟨hst653.rle', hst653.g 4, hst653.g 5⟩ ?_
        refine LP (ptr b48 2) 8 rfl rfl rfl (fun u678 => (by kernel_rfl)) ⟨hst653.rle', hst653.g 4, hst653.g 5⟩ ?_
        refine LT (.slice a51 xn.names.length cap52) 9 rfl rfl rfl (fun u683 hF684 => (x_load rfl rfl (run_loadVar_one ti_42 (hF684.2.1 _ _ (one_self _ _)) rfl))) ⟨hst653.rle', hst653.g 4, hst653.g 5⟩ ?_
        refine LP (.string name) 11 rfl rfl rfl (fun u688 => rfl) ⟨hst653.rle', hst653.g 4, hst653.g 5⟩ ?_
        refine LA_all [7, 12] (by decide +kernel) (by simp) ?_
        intro i_ hi_
        simp only [List.mem_cons, List.not_mem_nil, or_false] at hi_
        rcases hi_ with rfl | rfl
        ·
         refine One_new hst653 (i := 7) (v := fun b => .slice (some ⟨b, 0, none⟩) 0 0) (ob := .cells #[] 9 (0, 0)) rfl rfl rfl (Want.plain rfl) (by kernel_rfl) (fun b695 w696 hst697 => ?_)
         refine ⟨(fun _ => ⟨hst697.rle', hst697.g 5, hst697.g 6⟩), ?_⟩
         refine LA_all [10, 12] (by decide +kernel) (by simp) ?_
         intro i_ hi_
         simp only [List.mem_cons, List.not_mem_nil, or_false] at hi_
         rcases hi_ with rfl | rfl
         ·
          have ho703 : OwnL Ty.str 9 R526 (.slice (some ⟨b695, 0, none⟩) 0 0) ([] : List Str) (one b695 (.cells #[] 9 (0, 0))) := OwnL.lit (cs := []) Encs.nil rfl (by decide)
          obtain ⟨v704, c705, w706, hr707, ho708, hst709⟩ := run_appendM (P := Tryz.prog) (tt := 42) sl_42 ti_9 rfl ho703 hst697 (RdS.mono hvn42 hle528) hst697.rle' (by simp only [List.length_append, List.length_cons, List.length_nil]; omega) (by simp only [List.length_append, List.length_cons, List.length_nil, maxLen]; omega)
          refine One_val (i := 10) (v := v704) rfl rfl rfl (Want.plain rfl) (x_append rfl rfl rfl hr707) (fun _ => ⟨hst709.rle', hst709.g 5, hst709.g 6⟩) ?_
          refine LA_all [12] (by decide +kernel) (by simp) ?_
          intro i_ hi_
          simp only [List.mem_cons, List.not_mem_nil, or_false] at hi_
          subst hi_
          refine One_new hst709 (i := 12) (v := fun b => .slice (some ⟨b, 0, none⟩) 1 1) (ob := .cells #[(.string name)] 9 (0, 0)) rfl rfl rfl (Want.plain rfl) (by kernel_rfl) (fun b713 w714 hst715 => ?_)
          refine ⟨(fun _ => ⟨hst715.rle', hst715.g 6, hst715.g 7⟩), ?_⟩
          refine LA_all [13] (by decide +kernel) (by simp) ?_
          intro i_ hi_
          simp only [List.mem_cons, List.not_mem_nil, or_false] at hi_
          subst hi_
          refine One_append (j := 13) hst715 (t := 42) (e := 9) (ys := [name]) (src := [(.string name)]) 1 rfl rfl rfl (Want.plain rfl) rfl rfl rfl sl_42 ti_9 rfl rfl rfl ho708 (src_own (hst715.b 0)) (str_mk _ _) rfl (by first | omega | (simp only [List.length_append, List.length_cons, List.length_nil]; omega)) (by first | (simp only [maxLen]; omega) | (simp only [List.length_append, List.length_cons, List.length_nil, maxLen]; omega)) (fun v719 c720 w721 ho722 hst723 => ?_)
          refine ⟨(fun _ => ⟨hst723.rle', hst723.g 6, hst723.g 7⟩), ?_⟩
          obtain ⟨R724, hst725, hle726, hc727⟩ := Step.frz hst723
          have hm728 := OwnL.mono ho651 hle726
          have hm729 := OwnL.mono ho613 hle726
          have hm730 := OwnL.mono ho541 hle726
          have hm731 := OwnL.mono hm531 hle726
          have hrd732 := OwnL.freeze ho722 hle726 hc727
          have hxs733 : ((([] : List Str) ++ xn.names) ++ [name]).length = xn.names.length + 1 := by simp
          obtain ⟨a737, cap738, e739, hc740⟩ := hrd732.shape
          subst e739
          refine LP (.agg #[(int xn.cls), (int (-1)), (.slice a737 (((([] : List Str) ++ xn.names) ++ [name]).length) cap738), (.slice none 0 0)]) 14 rfl rfl rfl (fun u735 => (by kernel_rfl)) ⟨(Le.trans hle726 hst725.rle'), hst725.g 5, hst725.g 6⟩ ?_
          refine LA_all [15] (by decide +kernel) (by simp) ?_
          intro i_ hi_
          simp only [List.mem_cons, List.not_mem_nil, or_false] at hi_
          subst hi_
          refine One_new hst725 (i := 15) (v := fun b => .slice (some ⟨b, 0, none⟩) 1 1) (ob := .cells #[(int xn.cls), (int (-1)), (.slice a737 (((([] : List Str) ++ xn.names) ++ [name]).length) cap738), (.slice none 0 0)] 75 (0, 0)) rfl rfl rfl (Want.plain rfl) (by kernel_rfl) (fun b744 w745 hst746 => ?_)
          refine ⟨(fun _ => ⟨(Le.trans hle726 hst746.rle'), hst746.g 6, hst746.g 7⟩), ?_⟩
          refine LA_all [16] (by decide +kernel) (by simp) ?_
          intro i_ hi_
          simp only [List.mem_cons, List.not_mem_nil, or_false] at hi_
          subst hi_
          refine One_append (j := 16) hst746 (t := 70) (e := 75) (ys := [Sn.mk (Nd.mk xn.cls (-1) ((([] : List Str) ++ xn.names) ++ [name])) [] (.slice none 0 0)]) (src := [(int xn.cls), (int (-1)), (.slice a737 (((([] : List Str) ++ xn.names) ++ [name]).length) cap738), (.slice none 0 0)]) 2 rfl rfl rfl (Want.plain rfl) rfl rfl rfl sl_70 ti_75 rfl rfl rfl hm728 (src_own (hst746.b 0)) (sn_mk (RdS.mono hrd732 (Le.refl _))) rfl (by first | omega | (simp only [List.length_append, List.length_cons, List.length_nil]; omega)) (by first | (simp only [maxLen]; omega) | (simp only [List.length_append, List.length_cons, List.length_nil, maxLen]; omega)) (fun v750 c751 w752 ho753 hst754 => ?_)
          refine ⟨(fun _ => ⟨(Le.trans hle726 hst754.rle'), hst754.g 6, hst754.g 7⟩), ?_⟩
          refine LP (ptr p 0) 17 rfl rfl rfl (fun u756 => rfl) ⟨(Le.trans hle726 hst754.rle'), hst754.g 6, hst754.g 7⟩ ?_
          refine LP (ptr p 0) 18 rfl rfl rfl (fun u759 => (by kernel_rfl)) ⟨(Le.trans hle726 hst754.rle'), hst754.g 6, hst754.g 7⟩ ?_
          refine LA_all [19] (by decide +kernel) (by simp) ?_
          intro i_ hi_
          simp only [List.mem_cons, List.not_mem_nil, or_false] at hi_
          subst hi_
          obtain ⟨a762, cap763, e764, hc765⟩ := ho753.value
          subst e764
          obtain ⟨w766, hr768, hst767⟩ := run_storeW (P := Tryz.prog) (b := p) (off := 0) (v := (.slice a762 (((List.set xs (cn s.nodes kn) (Sn.mk xn ((([] : List Lk) ++ (List.take i_68 xl)) ++ ([((name, (xs.length : Int)) : Lk)] ++ (List.drop i_68 xl))) (.slice a642 (((([] : List Lk) ++ (List.take i_68 xl)) ++ ([((name, (xs.length : Int)) : Lk)] ++ (List.drop i_68 xl))).length) cap643))) ++ [Sn.mk (Nd.mk xn.cls (-1) ((([] : List Str) ++ xn.names) ++ [name])) [] (.slice none 0 0)]).length) cap763)) hst754 7 ti_70 rfl rfl rfl rfl rfl rfl
          change Step _ _ _ _ _ [c751, one b744 (.cells #[(int xn.cls), (int (-1)), (.slice a737 (((([] : List Str) ++ xn.names) ++ [name]).length) cap738), (.slice none 0 0)] 75 (0, 0)), one b713 (.cells #[(.string name)] 9 (0, 0)), c610, c538, c2, one b48 (.cells #[(int xn.cls), (int xn.ali), (.slice a51 xn.names.length cap52), (.slice a43 xl.length cap45)] 75 (0, 0)), one p (.cells #[(.slice a762 (((List.set xs (cn s.nodes kn) (Sn.mk xn ((([] : List Lk) ++ (List.take i_68 xl)) ++ ([((name, (xs.length : Int)) : Lk)] ++ (List.drop i_68 xl))) (.slice a642 (((([] : List Lk) ++ (List.take i_68 xl)) ++ ([((name, (xs.length : Int)) : Lk)] ++ (List.drop i_68 xl))).length) cap643))) ++ [Sn.mk (Nd.mk xn.cls (-1) ((([] : List Str) ++ xn.names) ++ [name])) [] (.slice none 0 0)]).length) cap763), vR] 72 (0, 0)), cR] at hst767
          refine One_skip (i := 19) rfl rfl (Want.plain rfl) (x_store rfl rfl rfl hr768) (fun h => absurd h (by decide +kernel)) ?_
          refine LA_done (by decide +kernel) ?_
          refine W_seq ?_
          refine W_region_lit ?_
          refine Lq (int (xs.length : Int)) rfl rfl rfl rfl ?_
          refine Lq (int (xs.length : Int)) rfl rfl rfl rfl ?_
          refine Lq (int 0) rfl rfl rfl rfl ?_
          refine L_nil ?_
          refine W_ret ?_
          refine ⟨_, _, res_run (rs := [.tmp 6, .tmp 7]) (vs := [(int (xs.length : Int)), (int 0)]) Tryz.results50 (.cons (.tmp rfl) (.cons (.tmp rfl) .nil)) hmk60, ?_⟩
          have hx_ : s.nodes[cn s.nodes kn]? = some xn := by rw [List.getElem?_eq_getElem (by omega), hnd40]
          have hm_ : ¬ name ∈ xn.names := by have h_ := c14; rw [slot_cn hS.can hal (by omega) hx_] at h_; exact of_decide_eq_false h_
          have hg_ := link_none (i := i_68) hwf.ok hlk47 hf66 (fun hi_ => absurd hi_ (by omega))
          have he := add_new (s := s) (x := xn) (name := name) (k := kn) (by omega) hx_ (of_decide_eq_false c11) hm_ (by rw [hg_]; rfl) (by omega) (by omega)
          have hw2 := hwf.add (kn : Int) name
          rw [he] at hw2 ⊢
          have hst769 := (((((hst767.front 8 rfl rfl).front 1 rfl rfl).front 8 rfl rfl).front 7 rfl rfl).front 6 rfl rfl)
          have hd770 := (List.pairwise_cons.1 hst769.sats.dj).1 _ (List.mem_cons_self ..)
          have hX771 := hback _ (Sn.mk xn ((([] : List Lk) ++ (List.take i_68 xl)) ++ ([((name, (xs.length : Int)) : Lk)] ++ (List.drop i_68 xl))) (.slice a642 (((([] : List Lk) ++ (List.take i_68 xl)) ++ ([((name, (xs.length : Int)) : Lk)] ++ (List.drop i_68 xl))).length) cap643)) _ (Le.trans hle528 hle726) hm729 hd770
          obtain ⟨c', hst', htree'⟩ := RefT.close (s := s.grown kn xn name) ((hst769.join.front 2 rfl rfl).front 2 rfl rfl) ho753 (hX771.app (y := ⟨⟨xn.cls, -1, ((([] : List Str) ++ xn.names) ++ [name])⟩, [], .slice none 0 0⟩) rfl rfl) hm731 (hag.grown (i := i_68) hwf rfl (by omega) hw2.ok hg_ hlk47 (by omega) hf66 (fun hi_ => absurd hi_ (by omega)) (by rw [← hx39]) (by simp [hxl])) hw2 (hS.app (by omega) (by simp only [List.length_append, List.length_cons, List.length_nil]; omega) rfl) hrl
          exact ⟨_, _, _, rfl, hst'.keepN 1 rfl, c', (by rw [hxl]; rfl), rfl, htree'⟩
         ·
          refine One_new hst697 (i := 12) (v := fun b => .slice (some ⟨b, 0, none⟩) 1 1) (ob := .cells #[(.string name)] 9 (0, 0)) rfl rfl rfl (Want.plain rfl) (by kernel_rfl) (fun b772 w773 hst774 => ?_)
          refine ⟨(fun _ => ⟨hst774.rle', hst774.g 6, hst774.g 7⟩), ?_⟩
          refine LA_all [10] (by decide +kernel) (by simp) ?_
          intro i_ hi_
          simp only [List.mem_cons, List.not_mem_nil, or_false] at hi_
          subst hi_
          have ho778 : OwnL Ty.str 9 R526 (.slice (some ⟨b695, 0, none⟩) 0 0) ([] : List Str) (one b695 (.cells #[] 9 (0, 0))) := OwnL.lit (cs := []) Encs.nil rfl (by decide)
          obtain ⟨v779, c780, w781, hr782, ho783, hst784⟩ := run_appendM (P := Tryz.prog) (tt := 42) sl_42 ti_9 rfl ho778 (hst774.front 1 rfl rfl) (RdS.mono hvn42 hle528) hst774.rle' (by simp only [List.length_append, List.length_cons, List.length_nil]; omega) (by simp only [List.length_append, List.length_cons, List.length_nil, maxLen]; omega)
          refine One_val (i := 10) (v := v779) rfl rfl rfl (Want.plain rfl) (x_append rfl rfl rfl hr782) (fun _ => ⟨hst784.rle', hst784.g 6, hst784.g 7⟩) ?_
          refine LA_all [13] (by decide +kernel) (by simp) ?_
          intro i_ hi_
          simp only [List.mem_cons, List.not_mem_nil, or_false] at hi_
          subst hi_
          refine One_append (j := 13) hst784 (t := 42) (e := 9) (ys := [name]) (src := [(.string name)]) 0 rfl rfl rfl (Want.plain rfl) rfl rfl rfl sl_42 ti_9 rfl rfl rfl ho783 (src_own (hst784.b 1)) (str_mk _ _) rfl (by first | omega | (simp only [List.length_append, List.length_cons, List.length_nil]; omega)) (by first | (simp only [maxLen]; omega) | (simp only [List.length_append, List.length_cons, List.length_nil, maxLen]; omega)) (fun v788 c789 w790 ho791 hst792 => ?_)
          refine ⟨(fun _ => ⟨hst792.rle', hst792.g 6, hst792.g 7⟩), ?_⟩
          obtain ⟨R793, hst794, hle795, hc796⟩ := Step.frz hst792
          have hm797 := OwnL.mono ho651 hle795
          have hm798 := OwnL.mono ho613 hle795
          have hm799 := OwnL.mono ho541 hle795
          have hm800 := OwnL.mono hm531 hle795
          have hrd801 := OwnL.freeze ho791 hle795 hc796
          have hxs802 : ((([] : List Str) ++ xn.names) ++ [name]).length = xn.names.length + 1 := by simp
          obtain ⟨a806, cap807, e808, hc809⟩ := hrd801.shape
          subst e808
          refine LP (.agg #[(int xn.cls), (int (-1)), (.slice a806 (((([] : List Str) ++ xn.names) ++ [name]).length) cap807), (.slice none 0 0)]) 14 rfl rfl rfl (fun u804 => (by kernel_rfl)) ⟨(Le.trans hle795 hst794.rle'), hst794.g 5, hst794.g 6⟩ ?_
          refine LA_all [15] (by decide +kernel) (by simp) ?_
          intro i_ hi_
          simp only [List.mem_cons, List.not_mem_nil, or_false] at hi_
          subst hi_
          refine One_new hst794 (i := 15) (v := fun b => .slice (some ⟨b, 0, none⟩) 1 1) (ob := .cells #[(int xn.cls), (int (-1)), (.slice a806 (((([] : List Str) ++ xn.names) ++ [name]).length) cap807), (.slice none 0 0)] 75 (0, 0)) rfl rfl rfl (Want.plain rfl) (by kernel_rfl) (fun b813 w814 hst815 => ?_)
          refine ⟨(fun _ => ⟨(Le.trans hle795 hst815.rle'), hst815.g 6, hst815.g 7⟩), ?_⟩
          refine LA_all [16] (by decide +kernel) (by simp) ?_
          intro i_ hi_
          simp only [List.mem_cons, List.not_mem_nil, or_false] at hi_
          subst hi_
          refine One_append (j := 16) hst815 (t := 70) (e := 75) (ys := [Sn.mk (Nd.mk xn.cls (-1) ((([] : List Str) ++ xn.names) ++ [name])) [] (.slice none 0 0)]) (src := [(int xn.cls), (int (-1)), (.slice a806 (((([] : List Str) ++ xn.names) ++ [name]).length) cap807), (.slice none 0 0)]) 2 rfl rfl rfl (Want.plain rfl) rfl rfl rfl sl_70 ti_75 rfl rfl rfl hm797 (src_own (hst815.b 0)) (sn_mk (RdS.mono hrd801 (Le.refl _))) rfl (by first | omega | (simp only [List.length_append, List.length_cons, List.length_nil]; omega)) (by first | (simp only [maxLen]; omega) | (simp only [List.length_append, List.length_cons, List.length_nil, maxLen]; omega)) (fun v819 c820 w821 ho822 hst823 => ?_)
          refine ⟨(fun _ => ⟨(Le.trans hle795 hst823.rle'), hst823.g 6, hst823.g 7⟩), ?_⟩
          refine LP (ptr p 0) 17 rfl rfl rfl (fun u825 => rfl) ⟨(Le.trans hle795 hst823.rle'), hst823.g 6, hst823.g 7⟩ ?_
          refine LP (ptr p 0) 18 rfl rfl rfl (fun u828 => (by kernel_rfl)) ⟨(Le.trans hle795 hst823.rle'), hst823.g 6, hst823.g 7⟩ ?_
          refine LA_all [19] (by decide +kernel) (by simp) ?_
          intro i_ hi_
          simp only [List.mem_cons, List.not_mem_nil, or_false] at hi_
          subst hi_
          obtain ⟨a831, cap832, e833, hc834⟩ := ho822.value
          subst e833
          obtain ⟨w835, hr837, hst836⟩ := run_storeW (P := Tryz.prog) (b := p) (off := 0) (v := (.slice a831 (((List.set xs (cn s.nodes kn) (Sn.mk xn ((([] : List Lk) ++ (List.take i_68 xl)) ++ ([((name, (xs.length : Int)) : Lk)] ++ (List.drop i_68 xl))) (.slice a642 (((([] : List Lk) ++ (List.take i_68 xl)) ++ ([((name, (xs.length : Int)) : Lk)] ++ (List.drop i_68 xl))).length) cap643))) ++ [Sn.mk (Nd.mk xn.cls (-1) ((([] : List Str) ++ xn.names) ++ [name])) [] (.slice none 0 0)]).length) cap832)) hst823 7 ti_70 rfl rfl rfl rfl rfl rfl
          change Step _ _ _ _ _ [c820, one b813 (.cells #[(int xn.cls), (int (-1)), (.slice a806 (((([] : List Str) ++ xn.names) ++ [name]).length) cap807), (.slice none 0 0)] 75 (0, 0)), one b772 (.cells #[(.string name)] 9 (0, 0)), c610, c538, c2, one b48 (.cells #[(int xn.cls), (int xn.ali), (.slice a51 xn.names.length cap52), (.slice a43 xl.length cap45)] 75 (0, 0)), one p (.cells #[(.slice a831 (((List.set xs (cn s.nodes kn) (Sn.mk xn ((([] : List Lk) ++ (List.take i_68 xl)) ++ ([((name, (xs.length : Int)) : Lk)] ++ (List.drop i_68 xl))) (.slice a642 (((([] : List Lk) ++ (List.take i_68 xl)) ++ ([((name, (xs.length : Int)) : Lk)] ++ (List.drop i_68 xl))).length) cap643))) ++ [Sn.mk (Nd.mk xn.cls (-1) ((([] : List Str) ++ xn.names) ++ [name])) [] (.slice none 0 0)]).length) cap832), vR] 72 (0, 0)), cR] at hst836
          refine One_skip (i := 19) rfl rfl (Want.plain rfl) (x_store rfl rfl rfl hr837) (fun h => absurd h (by decide +kernel)) ?_
          refine LA_done (by decide +kernel) ?_
          refine W_seq ?_
          refine W_region_lit ?_
          refine Lq (int (xs.length : Int)) rfl rfl rfl rfl ?_
          refine Lq (int (xs.length : Int)) rfl rfl rfl rfl ?_
          refine Lq (int 0) rfl rfl rfl rfl ?_
          refine L_nil ?_
          refine W_ret ?_
          refine ⟨_, _, res_run (rs := [.tmp 6, .tmp 7]) (vs := [(int (xs.length : Int)), (int 0)]) Tryz.results50 (.cons (.tmp rfl) (.cons (.tmp rfl) .nil)) hmk60, ?_⟩
          have hx_ : s.nodes[cn s.nodes kn]? = some xn := by rw [List.getElem?_eq_getElem (by omega), hnd40]
          have hm_ : ¬ name ∈ xn.names := by have h_ := c14; rw [slot_cn hS.can hal (by omega) hx_] at h_; exact of_decide_eq_false h_
          have hg_ := link_none (i := i_68) hwf.ok hlk47 hf66 (fun hi_ => absurd hi_ (by omega))
          have he := add_new (s := s) (x := xn) (name := name) (k := kn) (by omega) hx_ (of_decide_eq_false c11) hm_ (by rw [hg_]; rfl) (by omega) (by omega)
          have hw2 := hwf.add (kn : Int) name
          rw [he] at hw2 ⊢
          have hst838 := (((((hst836.front 8 rfl rfl).front 1 rfl rfl).front 8 rfl rfl).front 7 rfl rfl).front 6 rfl rfl)
          have hd839 := (List.pairwise_cons.1 hst838.sats.dj).1 _ (List.mem_cons_self ..)
          have hX840 := hback _ (Sn.mk xn ((([] : List Lk) ++ (List.take i_68 xl)) ++ ([((name, (xs.length : Int)) : Lk)] ++ (List.drop i_68 xl))) (.slice a642 (((([] : List Lk) ++ (List.take i_68 xl)) ++ ([((name, (xs.length : Int)) : Lk)] ++ (List.drop i_68 xl))).length) cap643)) _ (Le.trans hle528 hle795) hm798 hd839
          obtain ⟨c', hst', htree'⟩ := RefT.close (s := s.grown kn xn name) ((hst838.join.front 2 rfl rfl).front 2 rfl rfl) ho822 (hX840.app (y := ⟨⟨xn.cls, -1, ((([] : List Str) ++ xn.names) ++ [name])⟩, [], .slice none 0 0⟩) rfl rfl) hm800 (hag.grown (i := i_68) hwf rfl (by omega) hw2.ok hg_ hlk47 (by omega) hf66 (fun hi_ => absurd hi_ (by omega)) (by rw [← hx39]) (by simp [hxl])) hw2 (hS.app (by omega) (by simp only [List.length_append, List.length_cons, List.length_nil]; omega) rfl) hrl
          exact ⟨_, _, _, rfl, hst'.keepN 1 rfl, c', (by rw [hxl]; rfl), rfl, htree'⟩
        ·
         refine One_new hst653 (i := 12) (v := fun b => .slice (some ⟨b, 0, none⟩) 1 1) (ob := .cells #[(.string name)] 9 (0, 0)) rfl rfl rfl (Want.plain rfl) (by kernel_rfl) (fun b841 w842 hst843 => ?_)
         refine ⟨(fun _ => ⟨hst843.rle', hst843.g 5, hst843.g 6⟩), ?_⟩
         refine LA_all [7] (by decide +kernel) (by simp) ?_
         intro i_ hi_
         simp only [List.mem_cons, List.not_mem_nil, or_false] at hi_
         subst hi_
         refine One_new hst843 (i := 7) (v := fun b => .slice (some ⟨b, 0, none⟩) 0 0) (ob := .cells #[] 9 (0, 0)) rfl rfl rfl (Want.plain rfl) (by kernel_rfl) (fun b847 w848 hst849 => ?_)
         refine ⟨(fun _ => ⟨hst849.rle', hst849.g 6, hst849.g 7⟩), ?_⟩
         refine LA_all [10] (by decide +kernel) (by simp) ?_
         intro i_ hi_
         simp only [List.mem_cons, List.not_mem_nil, or_false] at hi_
         subst hi_
         have ho853 : OwnL Ty.str 9 R526 (.slice (some ⟨b847, 0, none⟩) 0 0) ([] : List Str) (one b847 (.cells #[] 9 (0, 0))) := OwnL.lit (cs := []) Encs.nil rfl (by decide)
         obtain ⟨v854, c855, w856, hr857, ho858, hst859⟩ := run_appendM (P := Tryz.prog) (tt := 42) sl_42 ti_9 rfl ho853 hst849 (RdS.mono hvn42 hle528) hst849.rle' (by simp only [List.length_append, List.length_cons, List.length_nil]; omega) (by simp only [List.length_append, List.length_cons, List.length_nil, maxLen]; omega)
         refine One_val (i := 10) (v := v854) rfl rfl rfl (Want.plain rfl) (x_append rfl rfl rfl hr857) (fun _ => ⟨hst859.rle', hst859.g 6, hst859.g 7⟩) ?_
         refine LA_all [13] (by decide +kernel) (by simp) ?_
         intro i_ hi_
         simp only [List.mem_cons, List.not_mem_nil, or_false] at hi_
         subst hi_
         refine One_append (j := 13) hst859 (t := 42) (e := 9) (ys := [name]) (src := [(.string name)]) 0 rfl rfl rfl (Want.plain rfl) rfl rfl rfl sl_42 ti_9 rfl rfl rfl ho858 (src_own (hst859.b 1)) (str_mk _ _) rfl (by first | omega | (simp only [List.length_append, List.length_cons, List.length_nil]; omega)) (by first | (simp only [maxLen]; omega) | (simp only [List.length_append, List.length_cons, List.length_nil, maxLen]; omega)) (fun v863 c864 w865 ho866 hst867 => ?_)
         refine ⟨(fun _ => ⟨hst867.rle', hst867.g 6, hst867.g 7⟩), ?_⟩
         obtain ⟨R868, hst869, hle870, hc871⟩ := Step.frz hst867
         have hm872 := OwnL.mono ho651 hle870
         have hm873 := OwnL.mono ho613 hle870
         have hm874 := OwnL.mono ho541 hle870
         have hm875 := OwnL.mono hm531 hle870
         have hrd876 := OwnL.freeze ho866 hle870 hc871
         have hxs877 : ((([] : List Str) ++ xn.names) ++ [name]).length = xn.names.length + 1 := by simp
         obtain ⟨a881, cap882, e883, hc884⟩ := hrd876.shape
         subst e883
         refine LP (.agg #[(int xn.cls), (int (-1)), (.slice a881 (((([] : List Str) ++ xn.names) ++ [name]).length) cap882), (.slice none 0 0)]) 14 rfl rfl rfl (fun u879 => (by kernel_rfl)) ⟨(Le.trans hle870 hst869.rle'), hst869.g 5, hst869.g 6⟩ ?_
         refine LA_all [15] (by decide +kernel) (by simp) ?_
         intro i_ hi_
         simp only [List.mem_cons, List.not_mem_nil, or_false] at hi_
         subst hi_
         refine One_new hst869 (i := 15) (v := fun b => .slice (some ⟨b, 0, none⟩) 1 1) (ob := .cells #[(int xn.cls), (int (-1)), (.slice a881 (((([] : List Str) ++ xn.names) ++ [name]).length) cap882), (.slice none 0 0)] 75 (0, 0)) rfl rfl rfl (Want.plain rfl) (by kernel_rfl) (fun b888 w889 hst890 => ?_)
         refine ⟨(fun _ => ⟨(Le.trans hle870 hst890.rle'), hst890.g 6, hst890.g 7⟩), ?_⟩
         refine LA_all [16] (by decide +kernel) (by simp) ?_
         intro i_ hi_
         simp only [List.mem_cons, List.not_mem_nil, or_false] at hi_
         subst hi_
         refine One_append (j := 16) hst890 (t := 70) (e := 75) (ys := [Sn.mk (Nd.mk xn.cls (-1) ((([] : List Str) ++ xn.names) ++ [name])) [] (.slice none 0 0)]) (src := [(int xn.cls), (int (-1)), (.slice a881 (((([] : List Str) ++ xn.names) ++ [name]).length) cap882), (.slice none 0 0)]) 2 rfl rfl rfl (Want.plain rfl) rfl rfl rfl sl_70 ti_75 rfl rfl rfl hm872 (src_own (hst890.b 0)) (sn_mk (RdS.mono hrd876 (Le.refl _))) rfl (by first | omega | (simp only [List.length_append, List.length_cons, List.length_nil]; omega)) (by first | (simp only [maxLen]; omega) | (simp only [List.length_append, List.length_cons, List.length_nil, maxLen]; omega)) (fun v894 c895 w896 ho897 hst898 => ?_)
         refine ⟨(fun _ => ⟨(Le.trans hle870 hst898.rle'), hst898.g 6, hst898.g 7⟩), ?_⟩
         refine LP (ptr p 0) 17 rfl rfl rfl (fun u900 => rfl) ⟨(Le.trans hle870 hst898.rle'), hst898.g 6, hst898.g 7⟩ ?_
         refine LP (ptr p 0) 18 rfl rfl rfl (fun u903 => (by kernel_rfl)) ⟨(Le.trans hle870 hst898.rle'), hst898.g 6, hst898.g 7⟩ ?_
         refine LA_all [19] (by decide +kernel) (by simp) ?_
         intro i_ hi_
         simp only [List.mem_cons, List.not_mem_nil, or_false] at hi_
         subst hi_
         obtain ⟨a906, cap907, e908, hc909⟩ := ho897.value
         subst e908
         obtain ⟨w910, hr912, hst911⟩ := run_storeW (P := Tryz.prog) (b := p) (off := 0) (v := (.slice a906 (((List.set xs (cn s.nodes kn) (Sn.mk xn ((([] : List Lk) ++ (List.take i_68 xl)) ++ ([((name, (xs.length : Int)) : Lk)] ++ (List.drop i_68 xl))) (.slice a642 (((([] : List Lk) ++ (List.take i_68 xl)) ++ ([((name, (xs.length : Int)) : Lk)] ++ (List.drop i_68 xl))).length) cap643))) ++ [Sn.mk (Nd.mk xn.cls (-1) ((([] : List Str) ++ xn.names) ++ [name])) [] (.slice none 0 0)]).length) cap907)) hst898 7 ti_70 rfl rfl rfl rfl rfl rfl
         change Step _ _ _ _ _ [c895, one b888 (.cells #[(int xn.cls), (int (-1)), (.slice a881 (((([] : List Str) ++ xn.names) ++ [name]).length) cap882), (.slice none 0 0)] 75 (0, 0)), one b841 (.cells #[(.string name)] 9 (0, 0)), c610, c538, c2, one b48 (.cells #[(int xn.cls), (int xn.ali), (.slice a51 xn.names.length cap52), (.slice a43 xl.length cap45)] 75 (0, 0)), one p (.cells #[(.slice a906 (((List.set xs (cn s.nodes kn) (Sn.mk xn ((([] : List Lk) ++ (List.take i_68 xl)) ++ ([((name, (xs.length : Int)) : Lk)] ++ (List.drop i_68 xl))) (.slice a642 (((([] : List Lk) ++ (List.take i_68 xl)) ++ ([((name, (xs.length : Int)) : Lk)] ++ (List.drop i_68 xl))).length) cap643))) ++ [Sn.mk (Nd.mk xn.cls (-1) ((([] : List Str) ++ xn.names) ++ [name])) [] (.slice none 0 0)]).length) cap907), vR] 72 (0, 0)), cR] at hst911
         refine One_skip (i := 19) rfl rfl (Want.plain rfl) (x_store rfl rfl rfl hr912) (fun h => absurd h (by decide +kernel)) ?_
         refine LA_done (by decide +kernel) ?_
         refine W_seq ?_
         refine W_region_lit ?_
         refine Lq (int (xs.length : Int)) rfl rfl rfl rfl ?_
         refine Lq (int (xs.length : Int)) rfl rfl rfl rfl ?_
         refine Lq (int 0) rfl rfl rfl rfl ?_
         refine L_nil ?_
         refine W_ret ?_
         refine ⟨_, _, res_run (rs := [.tmp 6, .tmp 7]) (vs := [(int (xs.length : Int)), (int 0)]) Tryz.results50 (.cons (.tmp rfl) (.cons (.tmp rfl) .nil)) hmk60, ?_⟩
         have hx_ : s.nodes[cn s.nodes kn]? = some xn := by rw [List.getElem?_eq_getElem (by omega), hnd40]
         have hm_ : ¬ name ∈ xn.names := by have h_ := c14; rw [slot_cn hS.can hal (by omega) hx_] at h_; exact of_decide_eq_false h_
         have hg_ := link_none (i := i_68) hwf.ok hlk47 hf66 (fun hi_ => absurd hi_ (by omega))
         have he := add_new (s := s) (x := xn) (name := name) (k := kn) (by omega) hx_ (of_decide_eq_false c11) hm_ (by rw [hg_]; rfl) (by omega) (by omega)
         have hw2 := hwf.add (kn : Int) name
         rw [he] at hw2 ⊢
         have hst913 := (((((hst911.front 8 rfl rfl).front 1 rfl rfl).front 8 rfl rfl).front 7 rfl rfl).front 6 rfl rfl)
         have hd914 := (List.pairwise_cons.1 hst913.sats.dj).1 _ (List.mem_cons_self ..)
         have hX915 := hback _ (Sn.mk xn ((([] : List Lk) ++ (List.take i_68 xl)) ++ ([((name, (xs.length : Int)) : Lk)] ++ (List.drop i_68 xl))) (.slice a642 (((([] : List Lk) ++ (List.take i_68 xl)) ++ ([((name, (xs.length : Int)) : Lk)] ++ (List.drop i_68 xl))).length) cap643)) _ (Le.trans hle528 hle870) hm873 hd914
         obtain ⟨c', hst', htree'⟩ := RefT.close (s := s.grown kn xn name) ((hst913.join.front 2 rfl rfl).front 2 rfl rfl) ho897 (hX915.app (y := ⟨⟨xn.cls, -1, ((([] : List Str) ++ xn.names) ++ [name])⟩, [], .slice none 0 0⟩) rfl rfl) hm875 (hag.grown (i := i_68) hwf rfl (by omega) hw2.ok hg_ hlk47 (by omega) hf66 (fun hi_ => absurd hi_ (by omega)) (by rw [← hx39]) (by simp [hxl])) hw2 (hS.app (by omega) (by simp only [List.length_append, List.length_cons, List.length_nil]; omega) rfl) hrl
         exact ⟨_, _, _, rfl, hst'.keepN 1 rfl, c', (by rw [hxl]; rfl), rfl, htree'⟩
 ·
  have q916 := thereL_not.1 c5
  refine W_cond_true (by show Value.bool _ = _; exact congrArg Value.bool (by rw [c5]; rfl)) ?_
  refine W_seq ?_
  refine W_region_lit ?_
  refine Lq (int 0) rfl rfl rfl rfl ?_
  refine Lq (int 1) rfl rfl rfl rfl ?_
  refine L_nil ?_
  refine W_ret ?_
  refine ⟨_, _, res_run (rs := [.tmp 6, .tmp 7]) (vs := [(int 0), (int 1)]) Tryz.results50 (.cons (.tmp rfl) (.cons (.tmp rfl) .nil)) rfl, ?_⟩
  have he := add_out (s := s) (name := name) c5
  rw [he]
  obtain ⟨c', hst', htree'⟩ := RefT.close (s := s) ((((hst4.front 3 rfl rfl).front 3 rfl rfl).front 3 rfl rfl).front 3 rfl rfl) hL hX hRs hag hwf hS hrl
  exact ⟨_, _, _, rfl, hst'.keepN 1 rfl, c', rfl, rfl, htree'⟩
end Go.Fx.YtjpdhfhiimbpgaaGreatDoor
set_option linter.unusedSimpArgs false
set_option linter.unusedVariables false
set_option linter.unusedSectionVars false
namespace Go.Fx.YtjpdhfhiimbpgaaGreatDoor
open Go Go.Fx Go.Proofs
set_option maxRecDepth 20000
theorem Encs.relks {R : Hp} {xs : List Sn} {cs : List Value} (h : Encs tySn R xs cs) : ∀ {xs' : List Sn}, xs'.map Sn.nd = xs.map Sn.nd → xs'.map Sn.v = xs.map Sn.v → Encs tySn R xs' cs := by
  induction h with
  | nil => intro xs' h1 h2; cases xs' with | nil => exact .nil | cons a l => simp at h1
  | @cons x c xs cs hx _ ih =>
    intro xs' h1 h2
    cases xs' with
    | nil => simp at h1
    | cons y ys =>
      simp only [List.map_cons, List.cons.injEq] at h1 h2
      refine Encs.cons ?_ (ih h1.2 h2.2)
      obtain ⟨v, rfl, h3, h4⟩ := tySn_open hx
      rw [← h1.1, ← h2.1]
      exact tySn_mk (x := y) (by rw [h1.1]; exact h3) (by rw [h2.1]; exact h4)
theorem OwnL.relks {T : Nat} {R : Hp} {v : Value} {xs xs' : List Sn} {c : Hp} (h : OwnL tySn T R v xs c) (h1 : xs'.map Sn.nd = xs.map Sn.nd) (h2 : xs'.map Sn.v = xs.map Sn.v) : OwnL tySn T R v xs' c := by
  obtain ⟨cells, g1, g2⟩ := h
  have hl : xs'.length = xs.length := by have := congrArg List.length h1; simpa using this
  exact ⟨cells, by rw [hl]; exact g1, Encs.relks g2 h1 h2⟩
/-- The first j are turned. -/
def mixL (F : Lk → Lk) (l : List Lk) (j : Nat) : List Lk := (l.take j).map F ++ l.drop j
theorem mixL_zero (F : Lk → Lk) (l : List Lk) : mixL F l 0 = l := by simp [mixL]
theorem mixL_all {F : Lk → Lk} {l : List Lk} {j : Nat} (h : l.length ≤ j) : mixL F l j = l.map F := by simp [mixL, List.take_of_length_le h, List.drop_eq_nil_of_le h]
theorem mixL_len (F : Lk → Lk) (l : List Lk) (j : Nat) : (mixL F l j).length = l.length := by simp [mixL]; omega
theorem mixL_at {F : Lk → Lk} {l : List Lk} {j : Nat} (h : j < (mixL F l j).length) (h2 : j < l.length) : (mixL F l j)[j] = l[j] := by
  have e : ((l.take j).map F).length = j := by simp; omega
  have : (mixL F l j)[j]? = l[j]? := by
    unfold mixL
    rw [List.getElem?_append_right (by omega), e, Nat.sub_self, List.getElem?_drop]
    rfl
  rw [List.getElem?_eq_getElem h, List.getElem?_eq_getElem h2] at this
  exact Option.some.inj this
theorem mixL_set {F : Lk → Lk} {l : List Lk} {j : Nat} (h : j < l.length) : (mixL F l j).set j (F l[j]) = mixL F l (j + 1) := by
  unfold mixL
  have e : ((l.take j).map F).length = j := by simp; omega
  rw [List.set_append_right _ _ (by omega), e, Nat.sub_self, List.drop_eq_getElem_cons h, List.take_succ_eq_append_getElem h, List.map_append, List.append_assoc]
  rfl
theorem mixL_same {F : Lk → Lk} {l : List Lk} {j : Nat} (h : j < l.length) (e : F l[j] = l[j]) : mixL F l (j + 1) = mixL F l j := by
  rw [← mixL_set h, e]
  have hl := mixL_len F l j
  have := mixL_at (F := F) (by omega) h
  rw [← this, List.set_getElem_self]
end Go.Fx.YtjpdhfhiimbpgaaGreatDoor
set_option linter.unusedSimpArgs false
set_option linter.unusedVariables false
set_option linter.unusedSectionVars false
namespace Go.Fx.YtjpdhfhiimbpgaaGreatDoor
open Go Go.Fx Go.Proofs
set_option maxRecDepth 20000
/-- The links of one shape apart: they may be turned, and read as they are turned. -/
theorem LnX.look4 {R : Hp} {xs : List Sn} {c : Hp} (h : LnX R xs c) (j : Nat) (hj : j < xs.length) :
    ∃ c1 c2, OwnL tyLk 91 R xs[j].v xs[j].lks c1 ∧ c = uni c1 c2 ∧ Dj c1 c2 ∧ (∀ R' y c1', Le R R' → OwnL tyLk 91 R' y.v y.lks c1' → Dj c1' c2 → LnX R' (xs.set j y) (uni c1' c2)) ∧
      (∀ R' y, Le R R' → Le c2 R' → RdS tyLk R' y.v y.lks → ∀ x ∈ xs.set j y, RdS tyLk R' x.v x.lks) := by
  induction h generalizing j with
  | nil => simp at hj
  | @cons x xs c1 c2 h1 h2 hd ih =>
    cases j with
    | zero => exact ⟨c1, c2, h1, rfl, hd, fun R' y c1' l hy hd' => .cons hy (h2.mono l) hd', fun R' y l k hx z hz => by
        rcases List.mem_cons.1 hz with rfl | hz
        · exact hx
        · exact h2.read l k z hz⟩
    | succ j =>
      obtain ⟨c3, c4, h3, rfl, hd3, hk, hr⟩ := ih j (by simpa using hj)
      have hd2 : Dj c1 c3 ∧ Dj c1 c4 := by
        have := Dj.of_uni_left hd.symm
        exact ⟨this.1.symm, this.2.symm⟩
      refine ⟨c3, uni c1 c4, h3, ?_, Dj.uni_r hd2.1.symm hd3, fun R' y c1' l hy hd' => ?_, fun R' y l k hx z hz => ?_⟩
      · rw [← uni_assoc, uni_comm hd2.1, uni_assoc]
      · have k3 := Dj.of_uni_left hd'.symm
        have := LnX.cons (h1.mono l) (hk R' y c1' l hy k3.2.symm) (Dj.uni_r k3.1 hd2.2)
        rw [← uni_assoc, uni_comm k3.1, uni_assoc] at this
        simpa using this
      · rw [List.set_cons_succ] at hz
        rcases List.mem_cons.1 hz with rfl | hz
        · exact h1.freeze l ((uni_l _ _).trans k)
        · exact hr R' y l ((uni_r hd2.2).trans k) hx z hz
theorem set_nd {ys : List Sn} {k : Nat} (hk : k < ys.length) {y : Sn} (hy : y.nd = ys[k].nd) : (ys.set k y).map Sn.nd = ys.map Sn.nd := by
  rw [List.map_set, hy]
  have e : ys[k].nd = (ys.map Sn.nd)[k]'(by simpa using hk) := by simp
  rw [e, List.set_getElem_self]
theorem set_v {ys : List Sn} {k : Nat} (hk : k < ys.length) {y : Sn} (hy : y.v = ys[k].v) : (ys.set k y).map Sn.v = ys.map Sn.v := by
  rw [List.map_set, hy]
  have e : ys[k].v = (ys.map Sn.v)[k]'(by simpa using hk) := by simp
  rw [e, List.set_getElem_self]
theorem nd_at {xs : List Sn} {l : List Nd} (h : xs.map Sn.nd = l) {k : Nat} (hk : k < xs.length) (hk2 : k < l.length) {x : Sn} (e : x = xs[k]) : l[k] = x.nd := by
  subst h; subst e
  simp
/-- The reference's tree is read while the links of one shape are turned. -/
theorem RefV.mix {R R' : Hp} {p k : Nat} {vL vR : Value} {ys : List Sn} {y : Sn} {m : List Lk} {cL c1 c2 cR : Hp} {rs : List Int} {l : List Nd} (h0 : Le (refB p vL vR) R') (hRR : Le R R') (hL : OwnL tySn 75 R vL ys cL) (kL : Le cL R') (hRs : OwnL Ty.int 3 R vR rs cR) (kR : Le cR R')
    (hread : ∀ R' y, Le R R' → Le c2 R' → RdS tyLk R' y.v y.lks → ∀ x ∈ ys.set k y, RdS tyLk R' x.v x.lks) (k2 : Le c2 R') (hE : OwnL tyLk 91 R y.v m c1) (k1 : Le c1 R') (hk : k < ys.length) (hy : y = ys[k]) (hnd : ys.map Sn.nd = l) (hS : Small l) (hrv : ∀ r ∈ rs, ∃ k : Nat, r = (k : Int) ∧ k < l.length) (hrl : rs.length ≤ 1000000) :
    ∃ l', RefV R' p l' rs ∧ nds l' = l := by
  have e1 : (ys.set k ⟨y.nd, m, y.v⟩).map Sn.nd = ys.map Sn.nd := set_nd hk (by rw [hy])
  have e2 : (ys.set k ⟨y.nd, m, y.v⟩).map Sn.v = ys.map Sn.v := set_v hk (by rw [hy])
  have e3 : nds ((ys.set k ⟨y.nd, m, y.v⟩).map Sn.sh) = l := nds_xs (e1.trans hnd)
  refine ⟨(ys.set k ⟨y.nd, m, y.v⟩).map Sn.sh, ⟨vL, vR, h0, ?_, OwnL.freeze hRs hRR kR, by rw [e3]; exact hS, by rw [e3]; exact hrv, hrl⟩, e3⟩
  exact RdS.shape (OwnL.freeze (OwnL.relks hL e1 e2) hRR kL) (hread R' ⟨y.nd, m, y.v⟩ hRR k2 (OwnL.freeze hE hRR k1))
theorem lkF_yes {l : List Nd} {c n : Int} {x : Lk} (h : canon l x.2 = c) : lkF (redir l c n) x = (x.1, n) := by
  unfold lkF redir; rw [if_pos h]
theorem lkF_no {l : List Nd} {c n : Int} {x : Lk} (h : ¬ canon l x.2 = c) : lkF (redir l c n) x = x := by
  unfold lkF redir; rw [if_neg h]
theorem OwnL.cast {R : Hp} {v : Value} {a b : List Lk} {c : Hp} (h : OwnL tyLk 91 R v a c) (e : a = b) : OwnL tyLk 91 R v b c := e ▸ h
/-- One more shape is turned. -/
theorem turned_step {xs ys : List Sn} {F : Lk → Lk} {k : Nat} (hl : ys.length = xs.length) (hk : k < xs.length) {y : Sn}
    (h : ∀ j (hj : j < xs.length) (hj' : j < ys.length), ys[j].lks = if j < k then (xs[j].lks).map F else xs[j].lks) (hy : y.lks = (ys[k]'(by omega)).lks.map F) :
    ∀ j (hj : j < xs.length) (hj' : j < (ys.set k y).length), (ys.set k y)[j].lks = if j < k + 1 then (xs[j].lks).map F else xs[j].lks := fun j hj hj' => by
  rw [List.getElem_set]
  split
  · rename_i e
    subst e
    rw [if_pos (by omega), hy, h k hk (by omega), if_neg (by omega)]
  · rename_i e
    rw [h j hj (by omega)]
    by_cases q : j < k
    · rw [if_pos q, if_pos (by omega)]
    · rw [if_neg q, if_neg (by omega)]
theorem tySn_openC {R : Hp} {x : Sn} {c : List Value} {k : Nat} (h : tySn.rel R x c) (e : x.nd.cls = (k : Int)) : ∃ v, c = [.int .i64 (k : Int), .int .i64 x.nd.ali, v, x.v] ∧ RdS Ty.str R v x.nd.names := by
  obtain ⟨v, h1, h2, _⟩ := tySn_open h
  exact ⟨v, by rw [h1, e], h2⟩
theorem root_cls {l : List Nd} {rs : List Int} {cls : Int} {c : Nat} (h : rootL l rs cls = (c : Int)) : ∃ k : Nat, cls = (k : Int) ∧ k < rs.length := by
  apply Classical.byContradiction
  intro hn
  have : ¬ (0 ≤ cls ∧ cls < (rs.length : Int)) := fun q => hn ⟨cls.toNat, by omega, by omega⟩
  rw [rootL_out this] at h
  omega
theorem OwnL.castI {R : Hp} {v : Value} {a b : List Int} {c : Hp} (h : OwnL Ty.int 3 R v a c) (e : a = b) : OwnL Ty.int 3 R v b c := e ▸ h
variable {n : Int} {s : TS}
theorem splitC_roots_yes (hw : WF s) (h : Core n s) {c : Nat} (hc : c < s.nodes.length) (hcc : cn s.nodes c = c) {x : Nd} (hx : s.nodes[c] = x) {k m : Nat} (hk : x.cls = (k : Int)) (hm : m = s.nodes.length) (hr : rootL s.nodes s.roots x.cls = (c : Int)) : s.roots.set k (m : Int) = (s.splitC c).roots := by
  have := roots_redir hw h hc hcc
  rw [ndL_eq hc, hx, if_pos hr, hk] at this
  show _ = s.roots.map (redir s.nodes c s.nodes.length)
  rw [this, hm]
  rfl
theorem splitC_roots_no (hw : WF s) (h : Core n s) {c : Nat} (hc : c < s.nodes.length) (hcc : cn s.nodes c = c) {x : Nd} (hx : s.nodes[c] = x) (hr : ¬ rootL s.nodes s.roots x.cls = (c : Int)) : s.roots = (s.splitC c).roots := by
  have := roots_redir hw h hc hcc
  rw [ndL_eq hc, hx, if_neg hr] at this
  exact this.symm
theorem nd_of {c : Nat} (hc : c < s.nodes.length) {x : Nd} (hx : s.nodes[c] = x) : s.nd c = x := by
  rw [← hx]; exact ndL_eq hc
end Go.Fx.YtjpdhfhiimbpgaaGreatDoor
