/-
  Chapter 27: the reference registry: Add, printed by genbs.py.
-/
import Derived.Test.YtlfabjfajcbdcaaBf
set_option linter.unusedSimpArgs false
set_option linter.unusedVariables false
namespace Go.Fx.Ytlfabjfajcbdcaa
open Go Go.Fx Go.Proofs
set_option maxRecDepth 20000



set_option maxHeartbeats 2000000 in
theorem AddR_spec {w : World} {R c : Hp} {m : Nat} {s : RS} {v : Value} {fs : List Fact} (k : Int) (hv : RdS tyFact R v fs) (hmax : fs.length ≤ 1099511627776) (hs : Sats w R [c]) (hreg : RegR R m s c) (hlen : s.mods.length ≤ 1000000) :
    Calls Try.prog 34 #[ptr m 0, int k, v] w (Comes' w R [c] fun v' R' L' => ∃ c', v' = int (s.addE k fs) ∧ L' = [c'] ∧ RegR R' m (s.add k fs) c') := by
 obtain ⟨F, C, xs, vF, vC, vL, cF, cC, hce, hd1, hd2, hF, hC, hL, hsr, hag, hav, hf, hc, hok, hkn⟩ := hreg
 have hst1 : Step w R [c] w R [tri (refK m vF vC vL) cF cC] := by have h0 := Step.refl hs; rw [hce] at h0 ⊢; exact h0
 have hst := hst1.split3 hd1 hd2
 clear hst1 hce hd1 hd2
 have hx : xs.length ≤ 1000000 := by rw [mods_len hsr hag hok.mods]; exact hlen
 refine calls_of_W (n := 101) Try.func34 rfl Try.ntmps34 (Nat.le_of_ble_eq_true rfl) ?_
 refine W_seq ?_
 refine W_region_lit ?_
 refine Lq (int 0) rfl rfl rfl rfl ?_
 refine L_nil ?_
 refine W_seq ?_
 refine W_seq ?_
 refine W_region_lit ?_
 refine Lq (int k) rfl rfl rfl rfl ?_
 refine Lq (.bool (decide (k < 0))) rfl rfl rfl (by kernel_rfl) ?_
 refine L_nil ?_
 rcases Bool.eq_false_or_eq_true (decide (k < 0)) with c1 | c1
 ·
  have q2 := of_decide_eq_true c1
  refine W_cond_true (by show Value.bool _ = _; exact congrArg Value.bool c1) ?_
  refine W_seq ?_
  refine W_region_lit ?_
  refine Lq (int 1) rfl rfl rfl rfl ?_
  refine L_nil ?_
  refine W_ret ?_
  refine ⟨_, _, res_run (rs := [.tmp 6]) (vs := [(int 1)]) Try.results34 (.cons (.tmp rfl) .nil) rfl, ?_⟩
  have he_ : s.addE k fs = 1 := RS.addE_neg (by omega)
  have hs_ := RS.add_same he_ (by decide)
  obtain ⟨c', hst', hreg'⟩ := RegR.close (s := s) (F := F) (C := C) (xs := xs) (((hst.front 2 rfl rfl).front 2 rfl rfl).front 2 rfl rfl) hF hC hL hsr hag hav hf hc hok hkn
  exact ⟨_, _, _, rfl, hst'.keepN 1 rfl, c', (by rw [he_]; rfl), rfl, by rw [hs_]; exact hreg'⟩
 ·
  have q3 := of_decide_eq_false c1
  refine W_cond_false (by show Value.bool _ = _; exact congrArg Value.bool c1) ?_
  refine W_skip ?_
  refine W_seq ?_
  refine W_seq ?_
  refine W_region_lit ?_
  refine Lq (int 0) rfl rfl rfl rfl ?_
  refine L_nil ?_
  refine W_block ?_
  refine W_loop (I := fun σ w_ m_ => ∃ (σ0 : Fr) (k_ : Nat), σ = upd (upd (upd (upd (upd (upd σ0 0 (ptr m 0)) 1 (int k)) 2 v) 7 (int (k_ : Int))) 13 (int k)) 14 (.bool (decide (k < 0))) ∧ mks (σ0 0) = [] ∧ Step w R [c] w_ R [one m (.cells #[vF, vC, vL] 87 (0, 0)), cF, cC] ∧ k_ ≤ fs.length ∧ upto s.vers fs k_ ∧ m_ = fs.length - k_) (m := fs.length - 0) ?_ ?_
  ·
   exact ⟨_, 0, (upd_of (upd_of (upd_of (upd_of (upd_of (upd_of rfl rfl) rfl) rfl) rfl) rfl) rfl), rfl, (((hst.front 2 rfl rfl).front 2 rfl rfl).front 2 rfl rfl), (by omega), (upto_0 _ _), rfl⟩
  ·
   rintro m12 σ_ w6 ⟨s10, k_11, rfl, hmk4, hst5, hf8, hf9, rfl⟩
   refine W_seq ?_
   refine W_seq ?_
   refine W_region_lit ?_
   refine Lq (int (k_11 : Int)) rfl rfl rfl rfl ?_
   refine Lq v rfl rfl rfl rfl ?_
   obtain ⟨a13, cap14, e15, hc16⟩ := hv.shape
   subst e15
   refine Lq (int (fs.length : Int)) rfl rfl rfl (x_len_slice rfl sl_29 rfl) ?_
   refine Lq (.bool (decide ((k_11 : Int) < (fs.length : Int)))) rfl rfl rfl (by kernel_rfl) ?_
   refine L_nil ?_
   rcases Bool.eq_false_or_eq_true (decide ((k_11 : Int) < (fs.length : Int))) with c17 | c17
   ·
    have q18 := of_decide_eq_true c17
    refine W_cond_true (by show Value.bool _ = _; exact congrArg Value.bool c17) ?_
    refine W_skip ?_
    refine W_seq ?_
    refine W_block ?_
    refine W_seq ?_
    refine W_seq ?_
    refine W_region_draw [] (fun w => Le R (hp w) ∧ Le (one m (.cells #[vF, vC, vL] 87 (0, 0))) (hp w) ∧ Le cF (hp w) ∧ Le cC (hp w)) hmix (by decide +kernel) (fun _ _ h => h) ?_
    have hst20 := hst5.draws (w6.drawn + 1)
    generalize draws w6 (w6.drawn + 1) = w19 at hst20 ⊢
    refine LP (ptr m 0) 0 rfl rfl rfl (fun u22 => rfl) hst20.a3 ?_
    refine LP (.slice a13 fs.length cap14) 1 rfl rfl rfl (fun u25 => rfl) hst20.a3 ?_
    refine LP (int (k_11 : Int)) 2 rfl rfl rfl (fun u28 => rfl) hst20.a3 ?_
    obtain ⟨b33, off34, cap35, cs36, T37, fz38, e39, hc40, hb41, he42⟩ := hv.open (by omega)
    cases e39
    obtain ⟨cl43, hs44, hr45⟩ := he42.at k_11 (by omega)
    obtain ⟨f46, hf47⟩ : ∃ f_, f_ = (fs[k_11]'(by omega)) := ⟨_, rfl⟩
    rw [← hf47] at hr45
    obtain rfl := tyFact_open hr45
    refine LP (ptr b33 (off34 + k_11 * 3)) 3 rfl rfl rfl (fun u31 => (x_indexAddr' rfl sl_29 ti_38 rfl rfl (by omega))) hst20.a3 ?_
    refine LP (ptr b33 (off34 + k_11 * 3)) 4 rfl rfl rfl (fun u49 => (by kernel_rfl)) hst20.a3 ?_
    refine LT (int f46.kind) 5 rfl rfl rfl (fun u52 hF53 => (x_load rfl rfl (run_loadVar_one ti_3 (hF53.1 _ _ hb41) (seg_get (j := 0) hs44 rfl)))) hst20.a3 ?_
    refine LP (.slice (some ⟨b33, off34, none⟩) fs.length cap14) 6 rfl rfl rfl (fun u55 => rfl) hst20.a3 ?_
    refine LP (int (k_11 : Int)) 7 rfl rfl rfl (fun u58 => rfl) hst20.a3 ?_
    obtain ⟨cl63, hs64, hr65⟩ := he42.at k_11 (by omega)
    rw [← hf47] at hr65
    obtain rfl := tyFact_open hr65
    refine LP (ptr b33 (off34 + k_11 * 3)) 8 rfl rfl rfl (fun u61 => (x_indexAddr' rfl sl_29 ti_38 rfl rfl (by omega))) hst20.a3 ?_
    refine LP (ptr b33 (off34 + k_11 * 3 + 1)) 9 rfl rfl rfl (fun u67 => (by kernel_rfl)) hst20.a3 ?_
    refine LT (int f46.n) 10 rfl rfl rfl (fun u70 hF71 => (x_load rfl rfl (run_loadVar_one ti_3 (hF71.1 _ _ hb41) (seg_get (j := 1) hs64 rfl)))) hst20.a3 ?_
    refine LA_all [11] (by decide +kernel) (by simp) ?_
    intro i_ hi_
    simp only [List.mem_cons, List.not_mem_nil, or_false] at hi_
    subst hi_
    refine One_call (i := 11) rfl rfl rfl (Want.plain rfl) (x_call (vs := #[(ptr m 0), (int f46.kind), (int f46.n)]) rfl rfl (by kernel_rfl) ent_35) (VersionR_spec (F := F) (C := C) (xs := xs) f46.kind f46.n (hst20.g 0) (OwnL.freeze hF hst20.rle' (hst20.g 1)) (OwnL.freeze hC hst20.rle' (hst20.g 2)) (RdS.mono hL hst20.rle') (Le.refl _) (by omega) (by omega) hx) ?_
    rintro e77 w75 ⟨rfl, hw78⟩
    have hst76 := hst20.grown hw78
    refine ⟨_, rfl, (fun _ => hst76.a3), ?_⟩
    refine LP (.bool (decide (verR F C f46.kind f46.n < 0))) 12 rfl rfl rfl (fun u80 => (by kernel_rfl)) hst76.a3 ?_
    refine LA_done (by decide +kernel) ?_
    rcases Bool.eq_false_or_eq_true (decide (verR F C f46.kind f46.n < 0)) with c82 | c82
    ·
     have q83 := of_decide_eq_true c82
     refine W_cond_true (by show Value.bool _ = _; exact congrArg Value.bool c82) ?_
     refine W_seq ?_
     refine W_region_lit ?_
     refine Lq (int 1) rfl rfl rfl rfl ?_
     refine L_nil ?_
     refine W_ret ?_
     refine ⟨_, _, res_run (rs := [.tmp 6]) (vs := [(int 1)]) Try.results34 (.cons (.tmp rfl) .nil) hmk4, ?_⟩
     have he_ : s.addE k fs = 1 := RS.addE_bad (chkR_no1 hav (by omega) hf47 (by omega))
     have hs_ := RS.add_same he_ (by decide)
     obtain ⟨c', hst', hreg'⟩ := RegR.close (s := s) (F := F) (C := C) (xs := xs) (((hst76.front 2 rfl rfl).front 2 rfl rfl).front 2 rfl rfl) hF hC hL hsr hag hav hf hc hok hkn
     exact ⟨_, _, _, rfl, hst'.keepN 1 rfl, c', (by rw [he_]; rfl), rfl, by rw [hs_]; exact hreg'⟩
    ·
     have q84 := of_decide_eq_false c82
     refine W_cond_false (by show Value.bool _ = _; exact congrArg Value.bool c82) ?_
     refine W_skip ?_
     refine W_seq ?_
     refine W_region_lit ?_
     refine Lq (int 0) rfl rfl rfl rfl ?_
     refine L_nil ?_
     refine W_block ?_
     refine W_loop (I := fun σ w_ m_ => ∃ (σ0 : Fr) (j_ : Nat), σ = upd (upd (upd (upd (upd (upd (upd (upd (upd (upd (upd (upd (upd (upd (upd (upd (upd (upd (upd (upd (upd (upd (upd (upd σ0 0 (ptr m 0)) 1 (int k)) 2 (.slice (some ⟨b33, off34, none⟩) fs.length cap14)) 7 (int (k_11 : Int))) 8 (int (j_ : Int))) 13 (int k)) 14 (.bool (decide (k < 0)))) 15 (int (k_11 : Int))) 16 (.slice (some ⟨b33, off34, none⟩) fs.length cap14)) 17 (int (fs.length : Int))) 18 (.bool (decide ((k_11 : Int) < (fs.length : Int))))) 21 (ptr m 0)) 22 (.slice (some ⟨b33, off34, none⟩) fs.length cap14)) 23 (int (k_11 : Int))) 24 (ptr b33 (off34 + k_11 * 3))) 25 (ptr b33 (off34 + k_11 * 3))) 26 (int f46.kind)) 27 (.slice (some ⟨b33, off34, none⟩) fs.length cap14)) 28 (int (k_11 : Int))) 29 (ptr b33 (off34 + k_11 * 3))) 30 (ptr b33 (off34 + k_11 * 3 + 1))) 31 (int f46.n)) 32 (int (verR F C f46.kind f46.n))) 33 (.bool (decide (verR F C f46.kind f46.n < 0))) ∧ mks (σ0 0) = [] ∧ Step w R [c] w_ R [one m (.cells #[vF, vC, vL] 87 (0, 0)), cF, cC] ∧ j_ ≤ k_11 ∧ apart fs k_11 j_ ∧ m_ = k_11 - j_) (m := k_11 - 0) ?_ ?_
     ·
      exact ⟨_, 0, (upd_of (upd_of (upd_of (upd_of (upd_of (upd_of (upd_of (upd_of (upd_of (upd_of (upd_of (upd_of (upd_of (upd_of (upd_of (upd_of (upd_of (upd_of (upd_of (upd_of (upd_of (upd_of (upd_of (upd_of rfl rfl) rfl) rfl) rfl) rfl) rfl) rfl) rfl) rfl) rfl) rfl) rfl) rfl) rfl) rfl) rfl) rfl) rfl) rfl) rfl) rfl) rfl) rfl) rfl), hmk4, (((hst76.front 2 rfl rfl).front 2 rfl rfl).front 2 rfl rfl), (by omega), (apart_0 _ _), rfl⟩
     ·
      rintro m93 σ_ w87 ⟨s91, j_92, rfl, hmk85, hst86, hf89, hf90, rfl⟩
      refine W_seq ?_
      refine W_seq ?_
      refine W_region_lit ?_
      refine Lq (int (j_92 : Int)) rfl rfl rfl rfl ?_
      refine Lq (int (k_11 : Int)) rfl rfl rfl rfl ?_
      refine Lq (.bool (decide ((j_92 : Int) < (k_11 : Int)))) rfl rfl rfl (by kernel_rfl) ?_
      refine L_nil ?_
      rcases Bool.eq_false_or_eq_true (decide ((j_92 : Int) < (k_11 : Int))) with c94 | c94
      ·
       have q95 := of_decide_eq_true c94
       refine W_cond_true (by show Value.bool _ = _; exact congrArg Value.bool c94) ?_
       refine W_skip ?_
       refine W_seq ?_
       refine W_block ?_
       refine W_seq ?_
       refine W_region_draw [] (fun w => Le R (hp w) ∧ Le (one m (.cells #[vF, vC, vL] 87 (0, 0))) (hp w) ∧ Le cF (hp w) ∧ Le cC (hp w)) hmix (by decide +kernel) (fun _ _ h => h) ?_
       have hst97 := hst86.draws (w87.drawn + 1)
       generalize draws w87 (w87.drawn + 1) = w96 at hst97 ⊢
       refine LP (.slice (some ⟨b33, off34, none⟩) fs.length cap14) 0 rfl rfl rfl (fun u99 => rfl) hst97.a3 ?_
       refine LP (int (j_92 : Int)) 1 rfl rfl rfl (fun u102 => rfl) hst97.a3 ?_
       obtain ⟨cl107, hs108, hr109⟩ := he42.at j_92 (by omega)
       obtain ⟨f110, hf111⟩ : ∃ f_, f_ = (fs[j_92]'(by omega)) := ⟨_, rfl⟩
       rw [← hf111] at hr109
       obtain rfl := tyFact_open hr109
       refine LP (ptr b33 (off34 + j_92 * 3)) 2 rfl rfl rfl (fun u105 => (x_indexAddr' rfl sl_29 ti_38 rfl rfl (by omega))) hst97.a3 ?_
       refine LP (ptr b33 (off34 + j_92 * 3)) 3 rfl rfl rfl (fun u113 => (by kernel_rfl)) hst97.a3 ?_
       refine LT (int f110.kind) 4 rfl rfl rfl (fun u116 hF117 => (x_load rfl rfl (run_loadVar_one ti_3 (hF117.1 _ _ hb41) (seg_get (j := 0) hs108 rfl)))) hst97.a3 ?_
       refine LP (.slice (some ⟨b33, off34, none⟩) fs.length cap14) 5 rfl rfl rfl (fun u119 => rfl) hst97.a3 ?_
       refine LP (int (k_11 : Int)) 6 rfl rfl rfl (fun u122 => rfl) hst97.a3 ?_
       obtain ⟨cl127, hs128, hr129⟩ := he42.at k_11 (by omega)
       rw [← hf47] at hr129
       obtain rfl := tyFact_open hr129
       refine LP (ptr b33 (off34 + k_11 * 3)) 7 rfl rfl rfl (fun u125 => (x_indexAddr' rfl sl_29 ti_38 rfl rfl (by omega))) hst97.a3 ?_
       refine LP (ptr b33 (off34 + k_11 * 3)) 8 rfl rfl rfl (fun u131 => (by kernel_rfl)) hst97.a3 ?_
       refine LT (int f46.kind) 9 rfl rfl rfl (fun u134 hF135 => (x_load rfl rfl (run_loadVar_one ti_3 (hF135.1 _ _ hb41) (seg_get (j := 0) hs128 rfl)))) hst97.a3 ?_
       refine LP (.bool (f110.kind == f46.kind)) 10 rfl rfl rfl (fun u137 => (by kernel_rfl)) hst97.a3 ?_
       refine LP (.bool (f110.kind == f46.kind)) 11 rfl rfl rfl (fun u140 => rfl) hst97.a3 ?_
       rcases Bool.eq_false_or_eq_true (f110.kind == f46.kind) with c143 | c143
       ·
        have q144 := eq_of_beq c143
        refine LP (.slice (some ⟨b33, off34, none⟩) fs.length cap14) 12 rfl rfl rfl (fun u146 => rfl) hst97.a3 ?_ (hw := (Want.of rfl rfl rfl rfl (by rw [c143]; rfl)))
        refine LP (int (j_92 : Int)) 13 rfl rfl rfl (fun u149 => rfl) hst97.a3 ?_ (hw := (Want.of rfl rfl rfl rfl (by rw [c143]; rfl)))
        obtain ⟨cl154, hs155, hr156⟩ := he42.at j_92 (by omega)
        rw [← hf111] at hr156
        obtain rfl := tyFact_open hr156
        refine LP (ptr b33 (off34 + j_92 * 3)) 14 rfl rfl rfl (fun u152 => (x_indexAddr' rfl sl_29 ti_38 rfl rfl (by omega))) hst97.a3 ?_ (hw := (Want.of rfl rfl rfl rfl (by rw [c143]; rfl)))
        refine LP (ptr b33 (off34 + j_92 * 3 + 1)) 15 rfl rfl rfl (fun u158 => (by kernel_rfl)) hst97.a3 ?_ (hw := (Want.of rfl rfl rfl rfl (by rw [c143]; rfl)))
        refine LT (int f110.n) 16 rfl rfl rfl (fun u161 hF162 => (x_load rfl rfl (run_loadVar_one ti_3 (hF162.1 _ _ hb41) (seg_get (j := 1) hs155 rfl)))) hst97.a3 ?_ (hw := (Want.of rfl rfl rfl rfl (by rw [c143]; rfl)))
        refine LP (.slice (some ⟨b33, off34, none⟩) fs.length cap14) 17 rfl rfl rfl (fun u164 => rfl) hst97.a3 ?_ (hw := (Want.of rfl rfl rfl rfl (by rw [c143]; rfl)))
        refine LP (int (k_11 : Int)) 18 rfl rfl rfl (fun u167 => rfl) hst97.a3 ?_ (hw := (Want.of rfl rfl rfl rfl (by rw [c143]; rfl)))
        obtain ⟨cl172, hs173, hr174⟩ := he42.at k_11 (by omega)
        rw [← hf47] at hr174
        obtain rfl := tyFact_open hr174
        refine LP (ptr b33 (off34 + k_11 * 3)) 19 rfl rfl rfl (fun u170 => (x_indexAddr' rfl sl_29 ti_38 rfl rfl (by omega))) hst97.a3 ?_ (hw := (Want.of rfl rfl rfl rfl (by rw [c143]; rfl)))
        refine LP (ptr b33 (off34 + k_11 * 3 + 1)) 20 rfl rfl rfl (fun u176 => (by kernel_rfl)) hst97.a3 ?_ (hw := (Want.of rfl rfl rfl rfl (by rw [c143]; rfl)))
        refine LT (int f46.n) 21 rfl rfl rfl (fun u179 hF180 => (x_load rfl rfl (run_loadVar_one ti_3 (hF180.1 _ _ hb41) (seg_get (j := 1) hs173 rfl)))) hst97.a3 ?_ (hw := (Want.of rfl rfl rfl rfl (by rw [c143]; rfl)))
        refine LP (.bool (f110.n == f46.n)) 22 rfl rfl rfl (fun u182 => (by kernel_rfl)) hst97.a3 ?_ (hw := (Want.of rfl rfl rfl rfl (by rw [c143]; rfl)))
        refine LP (.bool (f110.n == f46.n)) 23 rfl rfl rfl (fun u185 => (x_pick rfl rfl (by rw [c143]; rfl))) hst97.a3 ?_
        refine LA_done (by decide +kernel) ?_
        rcases Bool.eq_false_or_eq_true (f110.n == f46.n) with c187 | c187
        ·
         have q188 := eq_of_beq c187
         refine W_cond_true (by show Value.bool _ = _; exact congrArg Value.bool c187) ?_
         refine W_seq ?_
         refine W_region_lit ?_
         refine Lq (int 1) rfl rfl rfl rfl ?_
         refine L_nil ?_
         refine W_ret ?_
         refine ⟨_, _, res_run (rs := [.tmp 6]) (vs := [(int 1)]) Try.results34 (.cons (.tmp rfl) .nil) hmk85, ?_⟩
         have he_ : s.addE k fs = 1 := RS.addE_bad (chkR_no2 (j := j_92) (k := k_11) (by omega) (by omega) hf47 hf111 (by first | omega | assumption) (by first | omega | assumption))
         have hs_ := RS.add_same he_ (by decide)
         obtain ⟨c', hst', hreg'⟩ := RegR.close (s := s) (F := F) (C := C) (xs := xs) (((hst97.front 2 rfl rfl).front 2 rfl rfl).front 2 rfl rfl) hF hC hL hsr hag hav hf hc hok hkn
         exact ⟨_, _, _, rfl, hst'.keepN 1 rfl, c', (by rw [he_]; rfl), rfl, by rw [hs_]; exact hreg'⟩
        ·
         have q189 := ne_of_beq_false c187
         refine W_cond_false (by show Value.bool _ = _; exact congrArg Value.bool c187) ?_
         refine W_skip ?_
         refine W_region_lit ?_
         refine Lq (int (j_92 : Int)) rfl rfl rfl rfl ?_
         refine Lq (int ((j_92 + 1 : Nat) : Int)) rfl rfl rfl (x_add_nat rfl rfl rfl (by omega)) ?_
         refine Lq (int ((j_92 + 1 : Nat) : Int)) rfl rfl rfl rfl ?_
         refine L_nil ?_
         refine ⟨k_11 - (j_92 + 1), by first | omega | (simp only [List.length_append, List.length_cons, List.length_nil]; omega), ?_⟩
         exact ⟨_, (j_92 + 1), (upd_of (upd_of (upd_of (upd_of (upd_of (upd_of (upd_of (upd_of (upd_of (upd_of (upd_of (upd_of (upd_of (upd_of (upd_of (upd_of (upd_of (upd_of (upd_of (upd_of (upd_of (upd_of (upd_of (upd_of rfl rfl) rfl) rfl) rfl) rfl) rfl) rfl) rfl) rfl) rfl) rfl) rfl) rfl) rfl) rfl) rfl) rfl) rfl) rfl) rfl) rfl) rfl) rfl) rfl), hmk85, (((hst97.front 2 rfl rfl).front 2 rfl rfl).front 2 rfl rfl), (by omega), (apartR_succ hf90 (by omega) (by omega) hf47 hf111 (by rintro ⟨e1_, e2_⟩; first | omega | simp_all)), rfl⟩
       ·
        have q190 := ne_of_beq_false c143
        refine LV 12 rfl rfl rfl hst97.a3 ?_ (hw := (Want.of rfl rfl rfl rfl (by rw [c143]; rfl)))
        refine LV 13 rfl rfl rfl hst97.a3 ?_ (hw := (Want.of rfl rfl rfl rfl (by rw [c143]; rfl)))
        refine LV 14 rfl rfl rfl hst97.a3 ?_ (hw := (Want.of rfl rfl rfl rfl (by rw [c143]; rfl)))
        refine LV 15 rfl rfl rfl hst97.a3 ?_ (hw := (Want.of rfl rfl rfl rfl (by rw [c143]; rfl)))
        refine LV 16 rfl rfl rfl hst97.a3 ?_ (hw := (Want.of rfl rfl rfl rfl (by rw [c143]; rfl)))
        refine LV 17 rfl rfl rfl hst97.a3 ?_ (hw := (Want.of rfl rfl rfl rfl (by rw [c143]; rfl)))
        refine LV 18 rfl rfl rfl hst97.a3 ?_ (hw := (Want.of rfl rfl rfl rfl (by rw [c143]; rfl)))
        refine LV 19 rfl rfl rfl hst97.a3 ?_ (hw := (Want.of rfl rfl rfl rfl (by rw [c143]; rfl)))
        refine LV 20 rfl rfl rfl hst97.a3 ?_ (hw := (Want.of rfl rfl rfl rfl (by rw [c143]; rfl)))
        refine LV 21 rfl rfl rfl hst97.a3 ?_ (hw := (Want.of rfl rfl rfl rfl (by rw [c143]; rfl)))
        refine LV 22 rfl rfl rfl hst97.a3 ?_ (hw := (Want.of rfl rfl rfl rfl (by rw [c143]; rfl)))
        refine LP (.bool false) 23 rfl rfl rfl (fun u203 => (x_pick rfl rfl (by rw [c143]; rfl))) hst97.a3 ?_
        refine LA_done (by decide +kernel) ?_
        refine W_cond_false (by show Value.bool _ = _; exact congrArg Value.bool rfl) ?_
        refine W_skip ?_
        refine W_region_lit ?_
        refine Lq (int (j_92 : Int)) rfl rfl rfl rfl ?_
        refine Lq (int ((j_92 + 1 : Nat) : Int)) rfl rfl rfl (x_add_nat rfl rfl rfl (by omega)) ?_
        refine Lq (int ((j_92 + 1 : Nat) : Int)) rfl rfl rfl rfl ?_
        refine L_nil ?_
        refine ⟨k_11 - (j_92 + 1), by first | omega | (simp only [List.length_append, List.length_cons, List.length_nil]; omega), ?_⟩
        exact ⟨_, (j_92 + 1), (upd_of (upd_of (upd_of (upd_of (upd_of (upd_of (upd_of (upd_of (upd_of (upd_of (upd_of (upd_of (upd_of (upd_of (upd_of (upd_of (upd_of (upd_of (upd_of (upd_of (upd_of (upd_of (upd_of (upd_of rfl rfl) rfl) rfl) rfl) rfl) rfl) rfl) rfl) rfl) rfl) rfl) rfl) rfl) rfl) rfl) rfl) rfl) rfl) rfl) rfl) rfl) rfl) rfl) rfl), hmk85, (((hst97.front 2 rfl rfl).front 2 rfl rfl).front 2 rfl rfl), (by omega), (apartR_succ hf90 (by omega) (by omega) hf47 hf111 (by rintro ⟨e1_, e2_⟩; first | omega | simp_all)), rfl⟩
      ·
       have q205 := of_decide_eq_false c94
       refine W_cond_false (by show Value.bool _ = _; exact congrArg Value.bool c94) ?_
       refine W_exit ?_
       refine W_region_lit ?_
       refine Lq (int (k_11 : Int)) rfl rfl rfl rfl ?_
       refine Lq (int ((k_11 + 1 : Nat) : Int)) rfl rfl rfl (x_add_nat rfl rfl rfl (by omega)) ?_
       refine Lq (int ((k_11 + 1 : Nat) : Int)) rfl rfl rfl rfl ?_
       refine L_nil ?_
       refine ⟨fs.length - (k_11 + 1), by first | omega | (simp only [List.length_append, List.length_cons, List.length_nil]; omega), ?_⟩
       exact ⟨_, (k_11 + 1), (upd_of (upd_of (upd_of (upd_of (upd_of (upd_of rfl rfl) rfl) rfl) rfl) rfl) rfl), hmk85, (((hst86.front 2 rfl rfl).front 2 rfl rfl).front 2 rfl rfl), (by omega), (uptoR_succ hf9 hav (by omega) hf47 (by omega) (apart_ge hf90 (by omega))), rfl⟩
   ·
    have q206 := of_decide_eq_false c17
    refine W_cond_false (by show Value.bool _ = _; exact congrArg Value.bool c17) ?_
    refine W_exit ?_
    refine W_seq ?_
    refine W_region_lit ?_
    refine Lq (ptr m 0) rfl rfl rfl rfl ?_
    refine Lq (int k) rfl rfl rfl rfl ?_
    refine L_callG hst5 (v := (.tuple #[(int (((posM xs k) : Nat) : Int)), (.bool (thrM xs k))])) rfl rfl rfl (x_call (vs := #[(ptr m 0), (int k)]) rfl rfl (by kernel_rfl) ent_48) (findR_spec (xs := xs) k (hst5.g 0) (OwnL.freeze hF hst5.rle' (hst5.g 1)) (OwnL.freeze hC hst5.rle' (hst5.g 2)) (RdS.mono hL hst5.rle') (Le.refl _) (by omega) (by omega) hx) (fun w207 hst208 => ?_)
    refine Lq (.tuple #[(int (((posM xs k) : Nat) : Int)), (.bool (thrM xs k))]) rfl rfl rfl rfl ?_
    refine Lq (int (((posM xs k) : Nat) : Int)) rfl rfl rfl (by kernel_rfl) ?_
    refine Lq (.bool (thrM xs k)) rfl rfl rfl (by kernel_rfl) ?_
    refine Lq (int (((posM xs k) : Nat) : Int)) rfl rfl rfl rfl ?_
    refine Lq (.bool (thrM xs k)) rfl rfl rfl rfl ?_
    refine L_nil ?_
    refine W_seq ?_
    refine W_seq ?_
    rcases Bool.eq_false_or_eq_true (thrM xs k) with hth | hth
    ·
     obtain ⟨hj, hgx, hkx⟩ := thrM_yes hsr hth
     refine W_region_lit ?_
     refine Lq (.bool (thrM xs k)) rfl rfl rfl rfl ?_
     refine L_nil ?_
     refine W_cond_true (by show Value.bool _ = _; exact congrArg Value.bool hth) ?_
     refine W_seq ?_
     refine W_region_lit ?_
     refine Lq (int 41) rfl rfl rfl rfl ?_
     refine L_nil ?_
     refine W_ret ?_
     refine ⟨_, _, res_run (rs := [.tmp 6]) (vs := [(int 41)]) Try.results34 (.cons (.tmp rfl) .nil) hmk4, ?_⟩
     have hch_ : chk s.vers fs [] = true := upto_all hf9 (by omega)
     have he_ : s.addE k fs = 41 := RS.addE_busy (by omega) hch_ (mods_some hsr hag hth)
     have hs_ := RS.add_same he_ (by decide)
     obtain ⟨c', hst', hreg'⟩ := RegR.close (s := s) (F := F) (C := C) (xs := xs) (((hst208.front 2 rfl rfl).front 2 rfl rfl).front 2 rfl rfl) hF hC hL hsr hag hav hf hc hok hkn
     exact ⟨_, _, _, rfl, hst'.keepN 1 rfl, c', (by rw [he_]; rfl), rfl, by rw [hs_]; exact hreg'⟩
    ·
     have hpl := posM_le xs k
     refine W_region_lit ?_
     refine Lq (.bool (thrM xs k)) rfl rfl rfl rfl ?_
     refine L_nil ?_
     refine W_cond_false (by show Value.bool _ = _; exact congrArg Value.bool hth) ?_
     refine W_skip ?_
     refine W_seq ?_
     refine W_region_lit ?_
     refine Lq (ptr m 0) rfl rfl rfl rfl ?_
     refine Lq (.slice a13 fs.length cap14) rfl rfl rfl rfl ?_
     refine L_callG hst208 (v := (.bool (curR F C fs))) rfl rfl rfl (x_call (vs := #[(ptr m 0), (.slice a13 fs.length cap14)]) rfl rfl (by kernel_rfl) ent_49) (currentR_spec (F := F) (C := C) (xs := xs) (hst208.g 0) (OwnL.freeze hF hst208.rle' (hst208.g 1)) (OwnL.freeze hC hst208.rle' (hst208.g 2)) (RdS.mono hL hst208.rle') (Le.refl _) (by omega) (by omega) hx (RdS.mono hv hst208.rle') hmax) (fun w209 hst210 => ?_)
     refine Lq (.bool (curR F C fs)) rfl rfl rfl rfl ?_
     refine L_nil ?_
     refine W_seq ?_
     refine W_seq ?_
     refine W_region_lit ?_
     refine Lq (.bool (curR F C fs)) rfl rfl rfl rfl ?_
     refine Lq (.bool (!(curR F C fs))) rfl rfl rfl rfl ?_
     refine L_nil ?_
     rcases Bool.eq_false_or_eq_true (curR F C fs) with c211 | c211
     ·
      refine W_cond_false (by show Value.bool _ = _; exact congrArg Value.bool (by rw [c211]; rfl)) ?_
      refine W_skip ?_
      refine W_seq ?_
      refine W_region_draw [] (fun w => Le R (hp w) ∧ Le (one m (.cells #[vF, vC, vL] 87 (0, 0))) (hp w)) hmix (by decide +kernel) (fun _ _ h => h) ?_
      have hst213 := hst210.draws (w209.drawn + 1)
      generalize draws w209 (w209.drawn + 1) = w212 at hst213 ⊢
      refine LP (int k) 0 rfl rfl rfl (fun u215 => rfl) ⟨hst213.rle', hst213.g 0⟩ ?_
      refine LP (.slice a13 fs.length cap14) 2 rfl rfl rfl (fun u220 => rfl) ⟨hst213.rle', hst213.g 0⟩ ?_
      refine LP (ptr m 0) 6 rfl rfl rfl (fun u225 => rfl) ⟨hst213.rle', hst213.g 0⟩ ?_
      refine LP (ptr m 0) 7 rfl rfl rfl (fun u230 => rfl) ⟨hst213.rle', hst213.g 0⟩ ?_
      refine LP (ptr m 2) 8 rfl rfl rfl (fun u235 => (by kernel_rfl)) ⟨hst213.rle', hst213.g 0⟩ ?_
      refine LT vL 9 rfl rfl rfl (fun u240 hF241 => (x_load rfl rfl (run_loadVar_one ti_85 (hF241.2 _ _ (one_self _ _)) rfl))) ⟨hst213.rle', hst213.g 0⟩ ?_
      refine LP (int (((posM xs k) : Nat) : Int)) 10 rfl rfl rfl (fun u245 => rfl) ⟨hst213.rle', hst213.g 0⟩ ?_
      obtain ⟨a252, cap253, e254, hc255⟩ := hL.shape
      subst e254
      refine LT (.slice (if cap253 = (posM xs k) then a252 else Option.map (·.add ((posM xs k) * 2)) a252) (xs.length - (posM xs k)) (cap253 - (posM xs k))) 11 rfl rfl rfl (fun u250 hF251 => (x_sliceLo rfl rfl rfl sl_85 (run_sliceLo sl_85 ti_103 (by omega) (by omega)))) ⟨hst213.rle', hst213.g 0⟩ ?_
      refine LA_all [1] (by decide +kernel) (by simp) ?_
      intro i_ hi_
      simp only [List.mem_cons, List.not_mem_nil, or_false] at hi_
      subst hi_
      refine One_new hst213 (i := 1) (v := fun b => .slice (some ⟨b, 0, none⟩) 0 0) (ob := .cells #[] 38 (0, 0)) rfl rfl rfl (Want.plain rfl) (by kernel_rfl) (fun b259 w260 hst261 => ?_)
      refine ⟨(fun _ => ⟨hst261.rle', hst261.g 1⟩), ?_⟩
      refine LA_all [3] (by decide +kernel) (by simp) ?_
      intro i_ hi_
      simp only [List.mem_cons, List.not_mem_nil, or_false] at hi_
      subst hi_
      have ho265 : OwnL tyFact 38 R (.slice (some ⟨b259, 0, none⟩) 0 0) ([] : List Fact) (one b259 (.cells #[] 38 (0, 0))) := OwnL.lit (cs := []) Encs.nil rfl (by decide)
      obtain ⟨v266, c267, w268, hr269, ho270, hst271⟩ := run_appendM (P := Try.prog) (tt := 29) sl_29 ti_38 rfl ho265 hst261 (RdS.mono hv (Le.refl _)) hst261.rle' (by simp only [List.length_append, List.length_take, List.length_drop, List.length_cons, List.length_nil]; omega) (by simp only [List.length_append, List.length_take, List.length_drop, List.length_cons, List.length_nil, maxLen]; omega)
      refine One_val (i := 3) (v := v266) rfl rfl rfl (Want.plain rfl) (x_append rfl rfl rfl hr269) (fun _ => ⟨hst271.rle', hst271.g 1⟩) ?_
      obtain ⟨a272, cap273, e274, hc275⟩ := ho270.value
      subst e274
      refine LP (.agg #[(int k), (.slice a272 ((([] : List Fact) ++ fs).length) cap273)]) 4 rfl rfl rfl (fun u277 => (by kernel_rfl)) ⟨hst271.rle', hst271.g 1⟩ ?_
      refine LA_all [5] (by decide +kernel) (by simp) ?_
      intro i_ hi_
      simp only [List.mem_cons, List.not_mem_nil, or_false] at hi_
      subst hi_
      obtain ⟨R282, hst283, hle284, hc285⟩ := Step.frz hst271
      have hm286 := OwnL.mono hF hle284
      have hm287 := OwnL.mono hC hle284
      have hrd288 := OwnL.freeze ho270 hle284 hc285
      refine One_new hst283 (i := 5) (v := fun b => .slice (some ⟨b, 0, none⟩) 1 1) (ob := .cells #[(int k), (.slice a272 ((([] : List Fact) ++ fs).length) cap273)] 103 (0, 0)) rfl rfl rfl (Want.plain rfl) (by kernel_rfl) (fun b289 w290 hst291 => ?_)
      refine ⟨(fun _ => ⟨(Le.trans hle284 hst291.rle'), hst291.g 1⟩), ?_⟩
      refine LA_all [12] (by decide +kernel) (by simp) ?_
      intro i_ hi_
      simp only [List.mem_cons, List.not_mem_nil, or_false] at hi_
      subst hi_
      have ho295 : OwnL tyMo 103 R282 (.slice (some ⟨b289, 0, none⟩) 1 1) [((k, (([] : List Fact) ++ fs)) : Mo)] (one b289 (.cells #[(int k), (.slice a272 ((([] : List Fact) ++ fs).length) cap273)] 103 (0, 0))) := OwnL.lit (cs := [(int k), (.slice a272 ((([] : List Fact) ++ fs).length) cap273)]) (Encs.one (tyMo_mk (RdS.mono hrd288 (Le.refl _)))) rfl (by decide)
      obtain ⟨v296, c297, w298, hr299, ho300, hst301⟩ := run_appendM (P := Try.prog) (tt := 85) sl_85 ti_103 rfl ho295 hst291 (RdS.dropK (k := (posM xs k)) (RdS.mono hL hle284) (by omega)) hst291.rle' (by simp only [List.length_append, List.length_take, List.length_drop, List.length_cons, List.length_nil]; omega) (by simp only [List.length_append, List.length_take, List.length_drop, List.length_cons, List.length_nil, maxLen]; omega)
      refine One_val (i := 12) (v := v296) rfl rfl rfl (Want.plain rfl) (x_append rfl rfl rfl hr299) (fun _ => ⟨(Le.trans hle284 hst301.rle'), hst301.g 1⟩) ?_
      refine LP v296 13 rfl rfl rfl (fun u303 => rfl) ⟨(Le.trans hle284 hst301.rle'), hst301.g 1⟩ ?_
      refine LA_done (by decide +kernel) ?_
      refine W_seq ?_
      refine W_region_lit ?_
      refine Lq (ptr m 0) rfl rfl rfl rfl ?_
      refine L_new hst301 (v := fun b => .slice (some ⟨b, 0, none⟩) 0 0) (ob := .cells #[] 103 (0, 0)) rfl rfl rfl (by kernel_rfl) (fun b305 w306 hst307 => ?_)
      refine Lq (ptr m 0) rfl rfl rfl rfl ?_
      refine Lq (ptr m 0) rfl rfl rfl rfl ?_
      refine Lq (ptr m 2) rfl rfl rfl (by kernel_rfl) ?_
      refine Lq (.slice a252 xs.length cap253) rfl rfl rfl (x_load rfl rfl (run_loadVar_one ti_85 (hst307.b 2) rfl)) ?_
      refine Lq (int (((posM xs k) : Nat) : Int)) rfl rfl rfl rfl ?_
      refine Lq (.slice a252 (posM xs k) cap253) rfl rfl rfl (x_slice sl_85 rfl rfl (run_sliceHi sl_85 ti_103 (by omega))) ?_
      have ho308 : OwnL tyMo 103 R282 (.slice (some ⟨b305, 0, none⟩) 0 0) ([] : List Mo) (one b305 (.cells #[] 103 (0, 0))) := OwnL.lit (cs := []) Encs.nil rfl (by decide)
      obtain ⟨v309, c310, w311, hr312, ho313, hst314⟩ := run_appendM (P := Try.prog) (tt := 85) sl_85 ti_103 rfl ho308 hst307 (RdS.takeK (k := (posM xs k)) (RdS.mono hL hle284) (by omega)) hst307.rle' (by simp only [List.length_append, List.length_take, List.length_drop, List.length_cons, List.length_nil]; omega) (by simp only [List.length_append, List.length_take, List.length_drop, List.length_cons, List.length_nil, maxLen]; omega)
      refine L_val (v := v309) (w' := w311) rfl rfl rfl (x_append rfl rfl rfl hr312) ?_
      refine Lq v296 rfl rfl rfl rfl ?_
      obtain ⟨a316, cap317, e318, hc319⟩ := ho300.value
      subst e318
      obtain ⟨v320, c321, w322, hr323, ho324, hst325⟩ := run_appendO (P := Try.prog) (tt := 85) sl_85 ti_103 rfl ho313 hst314 ho300 (hst314.g 1) (by simp only [List.length_append, List.length_take, List.length_drop, List.length_cons, List.length_nil]; omega) (by simp only [List.length_append, List.length_take, List.length_drop, List.length_cons, List.length_nil, maxLen]; omega)
      refine L_val (v := v320) (w' := w322) rfl rfl rfl (x_append rfl rfl rfl hr323) ?_
      refine Lq (ptr m 0) rfl rfl rfl rfl ?_
      refine Lq (ptr m 2) rfl rfl rfl (by kernel_rfl) ?_
      obtain ⟨a326, cap327, e328, hc329⟩ := ho324.value
      subst e328
      refine L_store hst325 2 ti_85 rfl rfl rfl rfl rfl rfl rfl rfl rfl rfl rfl (fun w330 hst331 => ?_)
      change Step _ _ _ _ _ [c321, c297, one m (.cells #[vF, vC, (.slice a326 (((([] : List Mo) ++ (List.take (posM xs k) xs)) ++ ([((k, (([] : List Fact) ++ fs)) : Mo)] ++ (List.drop (posM xs k) xs))).length) cap327)] 87 (0, 0)), cF, cC] at hst331
      refine L_nil ?_
      refine W_seq ?_
      refine W_region_lit ?_
      refine Lq (int 0) rfl rfl rfl rfl ?_
      refine L_nil ?_
      refine W_ret ?_
      refine ⟨_, _, res_run (rs := [.tmp 6]) (vs := [(int 0)]) Try.results34 (.cons (.tmp rfl) .nil) hmk4, ?_⟩
      have hch_ : chk s.vers fs [] = true := upto_all hf9 (by omega)
      have he_ : s.addE k fs = 0 := RS.addE_ok (by omega) hch_ (mods_none hsr hag hth) (by rw [curR_chk hav hch_]; exact c211)
      obtain ⟨R332, hst333, hle334, hc335⟩ := Step.frz hst331
      have hm336 := OwnL.mono ho300 hle334
      have hm337 := OwnL.mono hm286 hle334
      have hm338 := OwnL.mono hm287 hle334
      have hrd339 := OwnL.freeze ho324 hle334 hc335
      obtain ⟨c', hst', hreg'⟩ := RegR.close (s := s.add k fs) (F := F) (C := C) (xs := insM xs k fs) (((hst333.front 3 rfl rfl).front 3 rfl rfl).front 3 rfl rfl) hm337 hm338 hrd339 (insM_get hsr hth).1 (AgrM.addOk hsr hag hth he_) (AgrV.addOk hav he_) hf hc (hok.addOk he_ hmax) (hkn.add k fs)
      exact ⟨_, _, _, rfl, hst'.keepN 1 rfl, c', (by rw [he_]; rfl), rfl, hreg'⟩
     ·
      refine W_cond_true (by show Value.bool _ = _; exact congrArg Value.bool (by rw [c211]; rfl)) ?_
      refine W_seq ?_
      refine W_region_lit ?_
      refine Lq (int 40) rfl rfl rfl rfl ?_
      refine L_nil ?_
      refine W_ret ?_
      refine ⟨_, _, res_run (rs := [.tmp 6]) (vs := [(int 40)]) Try.results34 (.cons (.tmp rfl) .nil) hmk4, ?_⟩
      have hch_ : chk s.vers fs [] = true := upto_all hf9 (by omega)
      have he_ : s.addE k fs = 40 := RS.addE_stale (by omega) hch_ (mods_none hsr hag hth) (by rw [curR_chk hav hch_]; exact c211)
      have hs_ := RS.add_same he_ (by decide)
      obtain ⟨c', hst', hreg'⟩ := RegR.close (s := s) (F := F) (C := C) (xs := xs) (((hst210.front 2 rfl rfl).front 2 rfl rfl).front 2 rfl rfl) hF hC hL hsr hag hav hf hc hok hkn
      exact ⟨_, _, _, rfl, hst'.keepN 1 rfl, c', (by rw [he_]; rfl), rfl, by rw [hs_]; exact hreg'⟩

end Go.Fx.Ytlfabjfajcbdcaa
