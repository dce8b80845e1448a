/-
  Chapter 27: the reference registry: Bump, New, printed by genbt.py.
-/
import Derived.Test.YtlfabjfajcbdcaaBg
set_option linter.unusedSimpArgs false
set_option linter.unusedVariables false
namespace Go.Fx.Ytlfabjfajcbdcaa
open Go Go.Fx Go.Proofs
set_option maxRecDepth 20000



set_option maxHeartbeats 2000000 in
theorem BumpR_spec {w : World} {R c : Hp} {m : Nat} {s : RS} (kind nn : Int) (hs : Sats w R [c]) (hreg : RegR R m s c) (hlen : s.mods.length ≤ 1000000) (hcnt : s.cnt ≤ 1000000) :
    Calls Try.prog 33 #[ptr m 0, int kind, int nn] w (Comes' w R [c] fun v' R' L' => ∃ c' co, L' = [c', co] ∧ RegR R' m (s.bump kind nn) c' ∧ OwnL Ty.int 3 R' v' (s.bumpL kind nn) co) := by
 obtain ⟨F, C, xs, vF, vC, vL, cF, cC, hce, hd1, hd2, hF, hC, hL, hsr, hag, hav, hf, hc, hok, hkn⟩ := hreg
 have hst1 : Step w R [c] w R [tri (refK m vF vC vL) cF cC] := by have h0 := Step.refl hs; rw [hce] at h0 ⊢; exact h0
 have hst := hst1.split3 hd1 hd2
 clear hst1 hce hd1 hd2
 have hx : xs.length ≤ 1000000 := by rw [mods_len hsr hag hok.mods]; exact hlen
 have hbig : ∀ {i : Nat} (hi : i < xs.length), (xs[i]).2.length ≤ 1099511627776 := fun hi => hok.big _ _ (by rw [← hag]; exact getM_at hsr (List.getElem_mem hi))
 refine calls_of_W (n := 98) Try.func33 rfl Try.ntmps33 (Nat.le_of_ble_eq_true rfl) ?_
 refine W_seq ?_
 refine W_region_lit ?_
 refine Lq (.slice none 0 0) rfl rfl rfl rfl ?_
 refine L_nil ?_
 refine W_seq ?_
 refine W_seq ?_
 refine W_region_lit ?_
 refine Lq (ptr m 0) rfl rfl rfl rfl ?_
 refine Lq (int kind) rfl rfl rfl rfl ?_
 refine Lq (int nn) rfl rfl rfl rfl ?_
 refine L_callG hst (v := (int (verR F C kind nn))) rfl rfl rfl (x_call (vs := #[(ptr m 0), (int kind), (int nn)]) rfl rfl (by kernel_rfl) ent_35) (VersionR_spec (F := F) (C := C) (xs := xs) kind nn (hst.g 0) (OwnL.freeze hF hst.rle' (hst.g 1)) (OwnL.freeze hC hst.rle' (hst.g 2)) (RdS.mono hL hst.rle') (Le.refl _) (by omega) (by omega) hx) (fun w1 hst2 => ?_)
 refine Lq (.bool (decide (verR F C kind nn < 0))) rfl rfl rfl (by kernel_rfl) ?_
 refine L_nil ?_
 rcases Bool.eq_false_or_eq_true (decide (verR F C kind nn < 0)) with c3 | c3
 ·
  have q4 := of_decide_eq_true c3
  refine W_cond_true (by show Value.bool _ = _; exact congrArg Value.bool c3) ?_
  refine W_seq ?_
  refine W_region_lit ?_
  refine Lq (.slice none 0 0) rfl rfl rfl rfl ?_
  refine L_nil ?_
  refine W_ret ?_
  refine ⟨_, _, res_run (rs := [.tmp 6]) (vs := [(.slice none 0 0)]) Try.results33 (.cons (.tmp rfl) .nil) rfl, ?_⟩
  obtain ⟨hb1_, hb2_⟩ := bump_none hav (by omega : verR F C kind nn < 0)
  have ho5 := OwnL.empty Ty.int 3 R
  have hst6 := hst2.nothing
  obtain ⟨c', hst', hreg'⟩ := RegR.close (s := s) (F := F) (C := C) (xs := xs) (((hst6.front 3 rfl rfl).front 3 rfl rfl).front 3 rfl rfl) hF hC hL hsr hag hav hf hc hok hkn
  exact ⟨_, _, _, rfl, hst'.keepN 2 rfl, c', _, rfl, by rw [hb1_]; exact hreg', by rw [hb2_]; exact ho5⟩
 ·
  have q7 := of_decide_eq_false c3
  refine W_cond_false (by show Value.bool _ = _; exact congrArg Value.bool c3) ?_
  refine W_skip ?_
  refine W_seq ?_
  obtain ⟨j8, rfl, hkd9⟩ := verR_known (F := F) (C := C) (kind := kind) (n := nn) (by omega)
  refine W_region_lit ?_
  refine Lq (.slice none 0 0) rfl rfl rfl rfl ?_
  refine L_nil ?_
  refine W_seq ?_
  refine W_seq ?_
  have ho10 := OwnL.empty Ty.int 3 R
  have hst11 := hst2.nothing
  refine W_region_lit ?_
  refine Lq (int 0) rfl rfl rfl rfl ?_
  refine L_nil ?_
  refine W_block ?_
  refine W_loop (I := fun σ w_ m_ => ∃ (σ0 : Fr) (k_ : Nat) (vo : Value) (co : Hp), σ = upd (upd (upd (upd (upd (upd (upd (upd (upd (upd (upd σ0 0 (ptr m 0)) 1 (int kind)) 2 (int (j8 : Int))) 6 (.slice none 0 0)) 7 vo) 8 (int (k_ : Int))) 13 (ptr m 0)) 14 (int kind)) 15 (int (j8 : Int))) 16 (int (verR F C kind (j8 : Int)))) 17 (.bool (decide (verR F C kind (j8 : Int) < 0))) ∧ mks (σ0 0) = [] ∧ Step w R [c] w_ R [one m (.cells #[vF, vC, vL] 87 (0, 0)), cF, cC, co] ∧ OwnL Ty.int 3 R vo (heldT F C xs k_) co ∧ k_ ≤ xs.length ∧ m_ = xs.length - k_) (m := xs.length - 0) ?_ ?_
  ·
   exact ⟨_, 0, (.slice none 0 0), non, (upd_of (upd_of (upd_of (upd_of (upd_of (upd_of (upd_of (upd_of (upd_of (upd_of (upd_of rfl rfl) rfl) rfl) rfl) rfl) rfl) rfl) rfl) rfl) rfl) rfl), rfl, (((hst11.front 3 rfl rfl).front 3 rfl rfl).front 3 rfl rfl), ho10, (by omega), rfl⟩
  ·
   rintro m22 σ_ w14 ⟨s18, k_19, vo20, co21, rfl, hmk12, hst13, hi16, hf17, rfl⟩
   refine W_seq ?_
   refine W_seq ?_
   refine W_region_lit ?_
   refine Lq (int (k_19 : Int)) rfl rfl rfl rfl ?_
   refine Lq (ptr m 0) rfl rfl rfl rfl ?_
   refine Lq (ptr m 0) rfl rfl rfl rfl ?_
   refine Lq (ptr m 2) rfl rfl rfl (by kernel_rfl) ?_
   refine Lq vL rfl rfl rfl (x_load rfl rfl (run_loadVar_one ti_85 (hst13.b 0) rfl)) ?_
   obtain ⟨a23, cap24, e25, hc26⟩ := hL.shape
   subst e25
   refine Lq (int (xs.length : Int)) rfl rfl rfl (x_len_slice rfl sl_85 rfl) ?_
   refine Lq (.bool (decide ((k_19 : Int) < (xs.length : Int)))) rfl rfl rfl (by kernel_rfl) ?_
   refine L_nil ?_
   rcases Bool.eq_false_or_eq_true (decide ((k_19 : Int) < (xs.length : Int))) with c27 | c27
   ·
    have q28 := of_decide_eq_true c27
    refine W_cond_true (by show Value.bool _ = _; exact congrArg Value.bool c27) ?_
    refine W_skip ?_
    refine W_seq ?_
    refine W_block ?_
    refine W_seq ?_
    refine W_region_lit ?_
    refine Lq (ptr m 0) rfl rfl rfl rfl ?_
    refine Lq (ptr m 0) rfl rfl rfl rfl ?_
    refine Lq (ptr m 0) rfl rfl rfl rfl ?_
    refine Lq (ptr m 2) rfl rfl rfl (by kernel_rfl) ?_
    refine Lq (.slice a23 xs.length cap24) rfl rfl rfl (x_load rfl rfl (run_loadVar_one ti_85 (hst13.b 0) rfl)) ?_
    refine Lq (int (k_19 : Int)) rfl rfl rfl rfl ?_
    obtain ⟨b29, off30, cap31, cs32, T33, fz34, e35, hc36, hb37, he38⟩ := hL.open (by omega)
    cases e35
    obtain ⟨cl39, hs40, hr41⟩ := he38.at k_19 (by omega)
    obtain ⟨x42, hx43⟩ : ∃ x_, x_ = (xs[k_19]'(by omega)) := ⟨_, rfl⟩
    rw [← hx43] at hr41
    obtain ⟨u44, e45, hu46⟩ := tyMo_open hr41
    subst e45
    refine Lq (ptr b29 (off30 + k_19 * 2)) rfl rfl rfl (x_indexAddr' rfl sl_85 ti_103 rfl rfl (by omega)) ?_
    refine Lq (ptr b29 (off30 + k_19 * 2 + 1)) rfl rfl rfl (by kernel_rfl) ?_
    refine Lq u44 rfl rfl rfl (x_load rfl rfl (run_loadVar_one ti_29 (hst13.rle' _ _ hb37) (seg_get (j := 1) hs40 rfl))) ?_
    refine L_callG hst13 (v := (.bool (curR F C x42.2))) rfl rfl rfl (x_call (vs := #[(ptr m 0), u44]) rfl rfl (by kernel_rfl) ent_49) (currentR_spec (F := F) (C := C) (xs := xs) (hst13.g 0) (OwnL.freeze hF hst13.rle' (hst13.g 1)) (OwnL.freeze hC hst13.rle' (hst13.g 2)) (RdS.mono hL hst13.rle') (Le.refl _) (by omega) (by omega) hx (RdS.mono hu46 hst13.rle') (by rw [hx43]; exact hbig (by omega))) (fun w47 hst48 => ?_)
    refine Lq (.bool (curR F C x42.2)) rfl rfl rfl rfl ?_
    refine L_nil ?_
    refine W_seq ?_
    refine W_region_lit ?_
    refine Lq (.bool (curR F C x42.2)) rfl rfl rfl rfl ?_
    refine L_nil ?_
    rcases Bool.eq_false_or_eq_true (curR F C x42.2) with c49 | c49
    ·
     refine W_cond_true (by show Value.bool _ = _; exact congrArg Value.bool c49) ?_
     have hhl_ := heldT_len F C xs k_19
     refine W_region_lit ?_
     refine Lq vo20 rfl rfl rfl rfl ?_
     refine Lq (int (k_19 : Int)) rfl rfl rfl rfl ?_
     refine L_new hst48 (v := fun b => .slice (some ⟨b, 0, none⟩) 1 1) (ob := .cells #[(int (k_19 : Int))] 3 (0, 0)) rfl rfl rfl (by kernel_rfl) (fun b50 w51 hst52 => ?_)
     refine L_append hst52 (t := 31) (e := 3) (ys := [(k_19 : Int)]) (src := [(int (k_19 : Int))]) 4 rfl rfl rfl rfl rfl rfl sl_31 ti_3 rfl rfl rfl hi16 (src_own (hst52.b 0)) (Encs.one (t := Ty.int) (c := [_]) rfl) rfl (by first | omega | (simp only [List.length_append, List.length_cons, List.length_nil]; omega)) (by first | (simp only [maxLen]; omega) | (simp only [List.length_append, List.length_cons, List.length_nil, maxLen]; omega)) (fun v53 c54 w55 ho56 hst57 => ?_)
     refine Lq v53 rfl rfl rfl rfl ?_
     refine L_nil ?_
     refine W_region_lit ?_
     refine Lq (int (k_19 : Int)) rfl rfl rfl rfl ?_
     refine Lq (int ((k_19 + 1 : Nat) : Int)) rfl rfl rfl (x_add_nat rfl rfl rfl (by omega)) ?_
     refine Lq (int ((k_19 + 1 : Nat) : Int)) rfl rfl rfl rfl ?_
     refine L_nil ?_
     refine ⟨xs.length - (k_19 + 1), by first | omega | (simp only [List.length_append, List.length_cons, List.length_nil]; omega), ?_⟩
     exact ⟨_, (k_19 + 1), v53, c54, (upd_of (upd_of (upd_of (upd_of (upd_of (upd_of (upd_of (upd_of (upd_of (upd_of (upd_of rfl rfl) rfl) rfl) rfl) rfl) rfl) rfl) rfl) rfl) rfl) rfl), hmk12, ((((hst57.front 4 rfl rfl).front 4 rfl rfl).front 4 rfl rfl).keepN 4 rfl), (by rw [heldT_yes (by omega) (by rw [← hx43]; exact c49)]; exact ho56), (by omega), rfl⟩
    ·
     refine W_cond_false (by show Value.bool _ = _; exact congrArg Value.bool c49) ?_
     refine W_skip ?_
     refine W_region_lit ?_
     refine Lq (int (k_19 : Int)) rfl rfl rfl rfl ?_
     refine Lq (int ((k_19 + 1 : Nat) : Int)) rfl rfl rfl (x_add_nat rfl rfl rfl (by omega)) ?_
     refine Lq (int ((k_19 + 1 : Nat) : Int)) rfl rfl rfl rfl ?_
     refine L_nil ?_
     refine ⟨xs.length - (k_19 + 1), by first | omega | (simp only [List.length_append, List.length_cons, List.length_nil]; omega), ?_⟩
     exact ⟨_, (k_19 + 1), vo20, co21, (upd_of (upd_of (upd_of (upd_of (upd_of (upd_of (upd_of (upd_of (upd_of (upd_of (upd_of rfl rfl) rfl) rfl) rfl) rfl) rfl) rfl) rfl) rfl) rfl) rfl), hmk12, ((((hst48.front 3 rfl rfl).front 3 rfl rfl).front 3 rfl rfl).front 3 rfl rfl), (by rw [heldT_no (by omega) (by rw [← hx43]; exact c49)]; exact hi16), (by omega), rfl⟩
   ·
    have q58 := of_decide_eq_false c27
    refine W_cond_false (by show Value.bool _ = _; exact congrArg Value.bool c27) ?_
    refine W_exit ?_
    refine W_seq ?_
    refine W_seq ?_
    obtain ⟨R59, hst60, hle61, hc62⟩ := Step.frz (hst13.front 3 rfl rfl)
    have hm63 := OwnL.mono hF hle61
    have hm64 := OwnL.mono hC hle61
    have e66 : k_19 = xs.length := by omega
    have hrd65 := OwnL.freeze hi16 hle61 hc62
    rw [e66] at hrd65
    have hhl_ := heldT_len F C xs xs.length
    refine W_region_lit ?_
    refine Lq (int kind) rfl rfl rfl rfl ?_
    refine Lq (.bool (kind == 1)) rfl rfl rfl (by kernel_rfl) ?_
    refine L_nil ?_
    rcases Bool.eq_false_or_eq_true (kind == 1) with c67 | c67
    ·
     have q68 := eq_of_beq c67
     refine W_cond_true (by show Value.bool _ = _; exact congrArg Value.bool c67) ?_
     have hkk_ : kind = 1 := by omega
     have hbb_ := F_le hok hav (j := j8) (by omega) (by rw [← hkk_]; omega)
     refine W_region_lit ?_
     refine Lq (ptr m 0) rfl rfl rfl rfl ?_
     refine Lq (ptr m 0) rfl rfl rfl rfl ?_
     refine Lq (ptr m 0) rfl rfl rfl (by kernel_rfl) ?_
     refine Lq vF rfl rfl rfl (x_load rfl rfl (run_loadVar_one ti_31 (hst60.b 0) rfl)) ?_
     refine Lq (int (j8 : Int)) rfl rfl rfl rfl ?_
     obtain ⟨a69, cap70, e71, hc72⟩ := hm63.value
     subst e71
     obtain ⟨b73, cap74, N75, e76, hc77, hrow78, hback79⟩ := OwnL.row hm63 (by omega)
     obtain ⟨rfl, hl80, rfl⟩ := Value.slice.inj e76
     try rw [← hl80] at hback79
     obtain ⟨cl81, cs82, hr83, hcb84, hsg85⟩ := Row.at hrow78 j8 (by omega)
     obtain ⟨y86, hy87⟩ : ∃ y_, y_ = (F[j8]'(by omega)) := ⟨_, rfl⟩
     rw [← hy87] at hr83
     have he88 : cl81 = [.int .i64 y86] := hr83
     subst he88
     refine Lq (ptr b73 (0 + j8 * 1)) rfl rfl rfl (x_indexAddr' rfl sl_31 ti_3 rfl rfl (by omega)) ?_
     refine Lq (int y86) rfl rfl rfl (x_load rfl rfl (run_loadVar_one ti_3 ((hst60.g 1) _ _ hcb84) (seg_get (j := 0) hsg85 rfl))) ?_
     refine Lq (int (y86 + 1)) rfl rfl rfl (x_add rfl rfl rfl (by constructor <;> omega)) ?_
     obtain ⟨cl89, cs90, hr91, hcb92, hsg93⟩ := Row.at hrow78 j8 (by omega)
     obtain ⟨y94, hy95⟩ : ∃ y_, y_ = (F[j8]'(by omega)) := ⟨_, rfl⟩
     rw [← hy95] at hr91
     have he96 : cl89 = [.int .i64 y94] := hr91
     subst he96
     refine Lq (ptr b73 (0 + j8 * 1)) rfl rfl rfl (x_indexAddr' rfl sl_31 ti_3 rfl rfl (by omega)) ?_
     obtain ⟨c97, w98, hr99, hrow100, hst101⟩ := Row.store (P := Try.prog) (v := (int (y86 + 1))) (y := y86 + 1) hrow78 (hst60.front 1 rfl rfl) ti_3 j8 (by omega) rfl
     refine L_skip rfl rfl (x_store rfl rfl rfl hr99) ?_
     refine L_nil ?_
     refine W_seq ?_
     refine W_region_lit ?_
     refine Lq (.slice none 0 0) rfl rfl rfl rfl ?_
     refine L_nil ?_
     refine W_seq ?_
     refine W_seq ?_
     obtain ⟨F', hFe_⟩ : ∃ l_, l_ = (F.set j8 (y86 + 1)) := ⟨_, rfl⟩
     have hFo_ := (hback79 R59 (F.set j8 (y86 + 1)) c97 (by first | rfl | (simp only [List.length_set]; done) | (simp only [List.length_set]; omega) | omega) hrow100)
     rw [← hFe_] at hFo_
     have hav2 : AgrV (s.bump kind (j8 : Int)) F' C := by rw [hFe_, hkk_, hy87]; exact AgrV.bump1 hav (by omega) (by rw [hav, ← hkk_]; omega)
     have hfl_ : F'.length = F.length := by rw [hFe_, List.length_set]
     have ho102 := OwnL.empty Ty.int 3 R59
     have hst103 := hst101.nothing
     refine W_region_lit ?_
     refine Lq (int 0) rfl rfl rfl rfl ?_
     refine L_nil ?_
     refine W_block ?_
     refine W_loop (I := fun σ w_ m_ => ∃ (σ0 : Fr) (k_ : Nat) (vo : Value) (co : Hp), σ = upd (upd (upd (upd (upd (upd (upd (upd (upd (upd (upd (upd (upd (upd (upd (upd (upd (upd (upd (upd (upd (upd (upd (upd (upd (upd (upd (upd (upd (upd (upd σ0 0 (ptr m 0)) 1 (int kind)) 2 (int (j8 : Int))) 6 (.slice none 0 0)) 7 vo20) 8 (int (k_19 : Int))) 10 vo) 11 (int (k_ : Int))) 13 (ptr m 0)) 14 (int kind)) 15 (int (j8 : Int))) 16 (int (verR F C kind (j8 : Int)))) 17 (.bool (decide (verR F C kind (j8 : Int) < 0)))) 18 (int (k_19 : Int))) 19 (ptr m 0)) 20 (ptr m 0)) 21 (ptr m 2)) 22 (.slice a23 xs.length cap24)) 23 (int (xs.length : Int))) 24 (.bool (decide ((k_19 : Int) < (xs.length : Int))))) 42 (int kind)) 43 (.bool (kind == 1))) 44 (ptr m 0)) 45 (ptr m 0)) 46 (ptr m 0)) 47 (.slice (some ⟨b73, 0, none⟩) F.length cap70)) 48 (int (j8 : Int))) 49 (ptr b73 (0 + j8 * 1))) 50 (int y86)) 51 (int (y86 + 1))) 52 (ptr b73 (0 + j8 * 1)) ∧ mks (σ0 0) = [] ∧ Step w R [c] w_ R59 [one m (.cells #[(.slice (some ⟨b73, 0, none⟩) F.length cap70), vC, (.slice a23 xs.length cap24)] 87 (0, 0)), c97, cC, co] ∧ OwnL Ty.int 3 R59 vo (outT F' C xs (List.take k_ (heldT F C xs xs.length))) co ∧ k_ ≤ (heldT F C xs xs.length).length ∧ m_ = (heldT F C xs xs.length).length - k_) (m := (heldT F C xs xs.length).length - 0) ?_ ?_
     ·
      exact ⟨_, 0, (.slice none 0 0), non, (upd_of (upd_of (upd_of (upd_of (upd_of (upd_of (upd_of (upd_of (upd_of (upd_of (upd_of (upd_of (upd_of (upd_of (upd_of (upd_of (upd_of (upd_of (upd_of (upd_of (upd_of (upd_of (upd_of (upd_of (upd_of (upd_of (upd_of (upd_of (upd_of (upd_of (upd_of rfl rfl) rfl) rfl) rfl) rfl) rfl) rfl) rfl) rfl) rfl) rfl) rfl) rfl) rfl) rfl) rfl) rfl) rfl) rfl) rfl) rfl) rfl) rfl) rfl) rfl) rfl) rfl) rfl) rfl) rfl) rfl), hmk12, (((hst103.front 3 rfl rfl).front 2 rfl rfl).front 3 rfl rfl), ho102, (by omega), rfl⟩
     ·
      rintro m114 σ_ w106 ⟨s110, k_111, vo112, co113, rfl, hmk104, hst105, hi108, hf109, rfl⟩
      refine W_seq ?_
      refine W_seq ?_
      refine W_region_lit ?_
      refine Lq (int (k_111 : Int)) rfl rfl rfl rfl ?_
      refine Lq vo20 rfl rfl rfl rfl ?_
      obtain ⟨a115, cap116, e117, hc118⟩ := hrd65.shape
      subst e117
      refine Lq (int (((heldT F C xs xs.length).length : Nat) : Int)) rfl rfl rfl (x_len_slice rfl sl_31 rfl) ?_
      refine Lq (.bool (decide ((k_111 : Int) < (((heldT F C xs xs.length).length : Nat) : Int)))) rfl rfl rfl (by kernel_rfl) ?_
      refine L_nil ?_
      rcases Bool.eq_false_or_eq_true (decide ((k_111 : Int) < (((heldT F C xs xs.length).length : Nat) : Int))) with c119 | c119
      ·
       have q120 := of_decide_eq_true c119
       refine W_cond_true (by show Value.bool _ = _; exact congrArg Value.bool c119) ?_
       refine W_skip ?_
       refine W_seq ?_
       refine W_block ?_
       refine W_seq ?_
       refine W_region_draw [] (fun w => Le R59 (hp w) ∧ Le (one m (.cells #[(.slice (some ⟨b73, 0, none⟩) F.length cap70), vC, (.slice a23 xs.length cap24)] 87 (0, 0))) (hp w) ∧ Le c97 (hp w) ∧ Le cC (hp w) ∧ Le co113 (hp w)) hmix (by decide +kernel) (fun _ _ h => h) ?_
       have hst122 := hst105.draws (w106.drawn + 1)
       generalize draws w106 (w106.drawn + 1) = w121 at hst122 ⊢
       refine LP (ptr m 0) 0 rfl rfl rfl (fun u124 => rfl) hst122.a4 ?_
       refine LP (ptr m 0) 1 rfl rfl rfl (fun u127 => rfl) hst122.a4 ?_
       refine LP (ptr m 0) 2 rfl rfl rfl (fun u130 => rfl) hst122.a4 ?_
       refine LP (ptr m 2) 3 rfl rfl rfl (fun u133 => (by kernel_rfl)) hst122.a4 ?_
       refine LT (.slice a23 xs.length cap24) 4 rfl rfl rfl (fun u136 hF137 => (x_load rfl rfl (run_loadVar_one ti_85 (hF137.2.1 _ _ (one_self _ _)) rfl))) hst122.a4 ?_
       refine LP (.slice a115 ((heldT F C xs xs.length).length) cap116) 5 rfl rfl rfl (fun u139 => rfl) hst122.a4 ?_
       refine LP (int (k_111 : Int)) 6 rfl rfl rfl (fun u142 => rfl) hst122.a4 ?_
       obtain ⟨b147, off148, cap149, cs150, T151, fz152, e153, hc154, hb155, he156⟩ := hrd65.open (by omega)
       cases e153
       obtain ⟨cl157, hs158, hr159⟩ := he156.at k_111 (by omega)
       obtain ⟨y160, hy161⟩ : ∃ y_, y_ = ((heldT F C xs xs.length)[k_111]'(by omega)) := ⟨_, rfl⟩
       rw [← hy161] at hr159
       have he162 : cl157 = [.int .i64 y160] := hr159
       subst he162
       obtain ⟨j163, rfl, hl164⟩ : ∃ j_ : Nat, y160 = (j_ : Int) ∧ j_ < xs.length := by rw [hy161]; exact held_open (by omega)
       refine LP (ptr b147 (off148 + k_111 * 1)) 7 rfl rfl rfl (fun u145 => (x_indexAddr' rfl sl_31 ti_3 rfl rfl (by omega))) hst122.a4 ?_
       refine LT (int (j163 : Int)) 8 rfl rfl rfl (fun u166 hF167 => (x_load rfl rfl (run_loadVar_one ti_3 (hF167.1 _ _ hb155) (seg_get (j := 0) hs158 rfl)))) hst122.a4 ?_
       obtain ⟨b171, off172, cap173, cs174, T175, fz176, e177, hc178, hb179, he180⟩ := hL.open (by omega)
       cases e177
       obtain ⟨cl181, hs182, hr183⟩ := he180.at j163 (by omega)
       obtain ⟨x184, hx185⟩ : ∃ x_, x_ = (xs[j163]'(by omega)) := ⟨_, rfl⟩
       rw [← hx185] at hr183
       obtain ⟨u186, e187, hu188⟩ := tyMo_open hr183
       subst e187
       refine LP (ptr b171 (off172 + j163 * 2)) 9 rfl rfl rfl (fun u169 => (x_indexAddr' rfl sl_85 ti_103 rfl rfl (by omega))) hst122.a4 ?_
       refine LP (ptr b171 (off172 + j163 * 2 + 1)) 10 rfl rfl rfl (fun u190 => (by kernel_rfl)) hst122.a4 ?_
       refine LT u186 11 rfl rfl rfl (fun u193 hF194 => (x_load rfl rfl (run_loadVar_one ti_29 ((Le.trans hle61 hF194.1) _ _ hb179) (seg_get (j := 1) hs182 rfl)))) hst122.a4 ?_
       refine LA_all [12] (by decide +kernel) (by simp) ?_
       intro i_ hi_
       simp only [List.mem_cons, List.not_mem_nil, or_false] at hi_
       subst hi_
       refine One_call (i := 12) rfl rfl rfl (Want.plain rfl) (x_call (vs := #[(ptr m 0), u186]) rfl rfl (by kernel_rfl) ent_49) (currentR_spec (F := F') (C := C) (xs := xs) (hst122.g 0) (OwnL.freeze hFo_ hst122.rle' (hst122.g 1)) (OwnL.freeze hm64 hst122.rle' (hst122.g 2)) (RdS.mono hL (Le.trans hle61 hst122.rle')) (Le.refl _) (by omega) (by omega) hx (RdS.mono hu188 (Le.trans hle61 hst122.rle')) (by rw [hx185]; exact hbig (by omega))) ?_
       rintro e200 w198 ⟨rfl, hw201⟩
       have hst199 := hst122.grown hw201
       refine ⟨_, rfl, (fun _ => hst199.a4), ?_⟩
       refine LP (.bool (curR F' C x184.2)) 13 rfl rfl rfl (fun u203 => rfl) hst199.a4 ?_
       refine LA_done (by decide +kernel) ?_
       refine W_seq ?_
       refine W_region_lit ?_
       refine Lq (.bool (curR F' C x184.2)) rfl rfl rfl rfl ?_
       refine Lq (.bool (!(curR F' C x184.2))) rfl rfl rfl rfl ?_
       refine L_nil ?_
       rcases Bool.eq_false_or_eq_true (curR F' C x184.2) with c205 | c205
       ·
        refine W_cond_false (by show Value.bool _ = _; exact congrArg Value.bool (by rw [c205]; rfl)) ?_
        refine W_skip ?_
        refine W_region_lit ?_
        refine Lq (int (k_111 : Int)) rfl rfl rfl rfl ?_
        refine Lq (int ((k_111 + 1 : Nat) : Int)) rfl rfl rfl (x_add_nat rfl rfl rfl (by omega)) ?_
        refine Lq (int ((k_111 + 1 : Nat) : Int)) rfl rfl rfl rfl ?_
        refine L_nil ?_
        refine ⟨(heldT F C xs xs.length).length - (k_111 + 1), by first | omega | (simp only [List.length_append, List.length_cons, List.length_nil]; omega), ?_⟩
        exact ⟨_, (k_111 + 1), vo112, co113, (upd_of (upd_of (upd_of (upd_of (upd_of (upd_of (upd_of (upd_of (upd_of (upd_of (upd_of (upd_of (upd_of (upd_of (upd_of (upd_of (upd_of (upd_of (upd_of (upd_of (upd_of (upd_of (upd_of (upd_of (upd_of (upd_of (upd_of (upd_of (upd_of (upd_of (upd_of rfl rfl) rfl) rfl) rfl) rfl) rfl) rfl) rfl) rfl) rfl) rfl) rfl) rfl) rfl) rfl) rfl) rfl) rfl) rfl) rfl) rfl) rfl) rfl) rfl) rfl) rfl) rfl) rfl) rfl) rfl) rfl), hmk104, ((((hst199.front 3 rfl rfl).front 3 rfl rfl).front 3 rfl rfl).front 3 rfl rfl), (by rw [outT_no (by omega) (by omega) hy161.symm (by rw [← hx185]; exact c205)]; exact hi108), (by omega), rfl⟩
       ·
        refine W_cond_true (by show Value.bool _ = _; exact congrArg Value.bool (by rw [c205]; rfl)) ?_
        have hol_ := outT_len F' C xs (List.take k_111 (heldT F C xs xs.length))
        have hol2_ : (List.take k_111 (heldT F C xs xs.length)).length ≤ 1000000 := by rw [List.length_take]; omega
        refine W_region_draw [] (fun w => Le R59 (hp w) ∧ Le (one m (.cells #[(.slice (some ⟨b73, 0, none⟩) F.length cap70), vC, (.slice (some ⟨b171, off172, none⟩) xs.length cap24)] 87 (0, 0))) (hp w)) hmix (by decide +kernel) (fun _ _ h => h) ?_
        have hst207 := hst199.draws (w198.drawn + 1)
        generalize draws w198 (w198.drawn + 1) = w206 at hst207 ⊢
        refine LP vo112 0 rfl rfl rfl (fun u209 => rfl) ⟨hst207.rle', hst207.g 0⟩ ?_
        refine LP (ptr m 0) 1 rfl rfl rfl (fun u212 => rfl) ⟨hst207.rle', hst207.g 0⟩ ?_
        refine LP (ptr m 0) 2 rfl rfl rfl (fun u215 => rfl) ⟨hst207.rle', hst207.g 0⟩ ?_
        refine LP (ptr m 2) 3 rfl rfl rfl (fun u218 => (by kernel_rfl)) ⟨hst207.rle', hst207.g 0⟩ ?_
        refine LT (.slice (some ⟨b171, off172, none⟩) xs.length cap24) 4 rfl rfl rfl (fun u221 hF222 => (x_load rfl rfl (run_loadVar_one ti_85 (hF222.2 _ _ (one_self _ _)) rfl))) ⟨hst207.rle', hst207.g 0⟩ ?_
        refine LP (.slice (some ⟨b147, off148, none⟩) ((heldT F C xs xs.length).length) cap116) 5 rfl rfl rfl (fun u224 => rfl) ⟨hst207.rle', hst207.g 0⟩ ?_
        refine LP (int (k_111 : Int)) 6 rfl rfl rfl (fun u227 => rfl) ⟨hst207.rle', hst207.g 0⟩ ?_
        obtain ⟨cl232, hs233, hr234⟩ := he156.at k_111 (by omega)
        rw [← hy161] at hr234
        have he235 : cl232 = [.int .i64 (j163 : Int)] := hr234
        subst he235
        refine LP (ptr b147 (off148 + k_111 * 1)) 7 rfl rfl rfl (fun u230 => (x_indexAddr' rfl sl_31 ti_3 rfl rfl (by omega))) ⟨hst207.rle', hst207.g 0⟩ ?_
        refine LT (int (j163 : Int)) 8 rfl rfl rfl (fun u237 hF238 => (x_load rfl rfl (run_loadVar_one ti_3 (hF238.1 _ _ hb155) (seg_get (j := 0) hs233 rfl)))) ⟨hst207.rle', hst207.g 0⟩ ?_
        obtain ⟨cl242, hs243, hr244⟩ := he180.at j163 (by omega)
        rw [← hx185] at hr244
        obtain ⟨u245, e246, hu247⟩ := tyMo_open hr244
        subst e246
        refine LP (ptr b171 (off172 + j163 * 2)) 9 rfl rfl rfl (fun u240 => (x_indexAddr' rfl sl_85 ti_103 rfl rfl (by omega))) ⟨hst207.rle', hst207.g 0⟩ ?_
        refine LP (ptr b171 (off172 + j163 * 2)) 10 rfl rfl rfl (fun u249 => (by kernel_rfl)) ⟨hst207.rle', hst207.g 0⟩ ?_
        refine LT (int x184.1) 11 rfl rfl rfl (fun u252 hF253 => (x_load rfl rfl (run_loadVar_one ti_3 ((Le.trans hle61 hF253.1) _ _ hb179) (seg_get (j := 0) hs243 rfl)))) ⟨hst207.rle', hst207.g 0⟩ ?_
        refine LA_all [12] (by decide +kernel) (by simp) ?_
        intro i_ hi_
        simp only [List.mem_cons, List.not_mem_nil, or_false] at hi_
        subst hi_
        refine One_new hst207 (i := 12) (v := fun b => .slice (some ⟨b, 0, none⟩) 1 1) (ob := .cells #[(int x184.1)] 3 (0, 0)) rfl rfl rfl (Want.plain rfl) (by kernel_rfl) (fun b257 w258 hst259 => ?_)
        refine ⟨(fun _ => ⟨hst259.rle', hst259.g 1⟩), ?_⟩
        refine LA_all [13] (by decide +kernel) (by simp) ?_
        intro i_ hi_
        simp only [List.mem_cons, List.not_mem_nil, or_false] at hi_
        subst hi_
        refine One_append (j := 13) hst259 (t := 31) (e := 3) (ys := [x184.1]) (src := [(int x184.1)]) 4 rfl rfl rfl (Want.plain rfl) rfl rfl rfl sl_31 ti_3 rfl rfl rfl hi108 (src_own (hst259.b 0)) (Encs.one (t := Ty.int) (c := [_]) rfl) rfl (by first | omega | (simp only [List.length_append, List.length_cons, List.length_nil]; omega)) (by first | (simp only [maxLen]; omega) | (simp only [List.length_append, List.length_cons, List.length_nil, maxLen]; omega)) (fun v263 c264 w265 ho266 hst267 => ?_)
        refine ⟨(fun _ => ⟨hst267.rle', hst267.g 2⟩), ?_⟩
        refine LP v263 14 rfl rfl rfl (fun u269 => rfl) ⟨hst267.rle', hst267.g 2⟩ ?_
        refine LA_done (by decide +kernel) ?_
        refine W_region_lit ?_
        refine Lq (int (k_111 : Int)) rfl rfl rfl rfl ?_
        refine Lq (int ((k_111 + 1 : Nat) : Int)) rfl rfl rfl (x_add_nat rfl rfl rfl (by omega)) ?_
        refine Lq (int ((k_111 + 1 : Nat) : Int)) rfl rfl rfl rfl ?_
        refine L_nil ?_
        refine ⟨(heldT F C xs xs.length).length - (k_111 + 1), by first | omega | (simp only [List.length_append, List.length_cons, List.length_nil]; omega), ?_⟩
        exact ⟨_, (k_111 + 1), v263, c264, (upd_of (upd_of (upd_of (upd_of (upd_of (upd_of (upd_of (upd_of (upd_of (upd_of (upd_of (upd_of (upd_of (upd_of (upd_of (upd_of (upd_of (upd_of (upd_of (upd_of (upd_of (upd_of (upd_of (upd_of (upd_of (upd_of (upd_of (upd_of (upd_of (upd_of (upd_of rfl rfl) rfl) rfl) rfl) rfl) rfl) rfl) rfl) rfl) rfl) rfl) rfl) rfl) rfl) rfl) rfl) rfl) rfl) rfl) rfl) rfl) rfl) rfl) rfl) rfl) rfl) rfl) rfl) rfl) rfl) rfl), hmk104, ((((hst267.front 4 rfl rfl).front 4 rfl rfl).front 4 rfl rfl).keepN 4 rfl), (by rw [outT_yes (by omega) (by omega) hy161.symm (by rw [← hx185]; exact c205), ← hx185]; exact ho266), (by omega), rfl⟩
      ·
       have q271 := of_decide_eq_false c119
       refine W_cond_false (by show Value.bool _ = _; exact congrArg Value.bool c119) ?_
       refine W_exit ?_
       refine W_seq ?_
       refine W_region_lit ?_
       refine Lq vo112 rfl rfl rfl rfl ?_
       refine Lq vo112 rfl rfl rfl rfl ?_
       refine L_nil ?_
       refine W_ret ?_
       refine ⟨_, _, res_run (rs := [.tmp 6]) (vs := [vo112]) Try.results33 (.cons (.tmp rfl) .nil) hmk104, ?_⟩
       have hkl_ : k_111 = (heldT F C xs xs.length).length := by omega
       have ho_ := hi108
       rw [hkl_, List.take_length, bumpL_out hsr hag hav hav2 hok hkn (by rw [hav]; omega)] at ho_
       obtain ⟨c', hst', hreg'⟩ := RegR.close (s := s.bump kind (j8 : Int)) (F := F') (C := C) (xs := xs) ((((hst105.front 3 rfl rfl).front 3 rfl rfl).front 3 rfl rfl).front 3 rfl rfl) hFo_ hm64 (RdS.mono hL hle61) hsr (hag.bump kind _) hav2 (by omega) (by omega) (hok.bump kind _) (hkn.bump hok kind _)
       exact ⟨_, _, _, rfl, hst'.keepN 2 rfl, c', _, rfl, hreg', ho_⟩
    ·
     have q272 := ne_of_beq_false c67
     refine W_cond_false (by show Value.bool _ = _; exact congrArg Value.bool c67) ?_
     have hkk_ : kind = 2 := by omega
     have hbb_ := C_le hok hav (j := j8) (by omega) (by rw [← hkk_]; omega)
     refine W_region_lit ?_
     refine Lq (ptr m 0) rfl rfl rfl rfl ?_
     refine Lq (ptr m 0) rfl rfl rfl rfl ?_
     refine Lq (ptr m 1) rfl rfl rfl (by kernel_rfl) ?_
     refine Lq vC rfl rfl rfl (x_load rfl rfl (run_loadVar_one ti_31 (hst60.b 0) rfl)) ?_
     refine Lq (int (j8 : Int)) rfl rfl rfl rfl ?_
     obtain ⟨a273, cap274, e275, hc276⟩ := hm64.value
     subst e275
     obtain ⟨b277, cap278, N279, e280, hc281, hrow282, hback283⟩ := OwnL.row hm64 (by omega)
     obtain ⟨rfl, hl284, rfl⟩ := Value.slice.inj e280
     try rw [← hl284] at hback283
     obtain ⟨cl285, cs286, hr287, hcb288, hsg289⟩ := Row.at hrow282 j8 (by omega)
     obtain ⟨y290, hy291⟩ : ∃ y_, y_ = (C[j8]'(by omega)) := ⟨_, rfl⟩
     rw [← hy291] at hr287
     have he292 : cl285 = [.int .i64 y290] := hr287
     subst he292
     refine Lq (ptr b277 (0 + j8 * 1)) rfl rfl rfl (x_indexAddr' rfl sl_31 ti_3 rfl rfl (by omega)) ?_
     refine Lq (int y290) rfl rfl rfl (x_load rfl rfl (run_loadVar_one ti_3 ((hst60.g 2) _ _ hcb288) (seg_get (j := 0) hsg289 rfl))) ?_
     refine Lq (int (y290 + 1)) rfl rfl rfl (x_add rfl rfl rfl (by constructor <;> omega)) ?_
     obtain ⟨cl293, cs294, hr295, hcb296, hsg297⟩ := Row.at hrow282 j8 (by omega)
     obtain ⟨y298, hy299⟩ : ∃ y_, y_ = (C[j8]'(by omega)) := ⟨_, rfl⟩
     rw [← hy299] at hr295
     have he300 : cl293 = [.int .i64 y298] := hr295
     subst he300
     refine Lq (ptr b277 (0 + j8 * 1)) rfl rfl rfl (x_indexAddr' rfl sl_31 ti_3 rfl rfl (by omega)) ?_
     obtain ⟨c301, w302, hr303, hrow304, hst305⟩ := Row.store (P := Try.prog) (v := (int (y290 + 1))) (y := y290 + 1) hrow282 (hst60.front 2 rfl rfl) ti_3 j8 (by omega) rfl
     refine L_skip rfl rfl (x_store rfl rfl rfl hr303) ?_
     refine L_nil ?_
     refine W_seq ?_
     refine W_region_lit ?_
     refine Lq (.slice none 0 0) rfl rfl rfl rfl ?_
     refine L_nil ?_
     refine W_seq ?_
     refine W_seq ?_
     obtain ⟨C', hFe_⟩ : ∃ l_, l_ = (C.set j8 (y290 + 1)) := ⟨_, rfl⟩
     have hFo_ := (hback283 R59 (C.set j8 (y290 + 1)) c301 (by first | rfl | (simp only [List.length_set]; done) | (simp only [List.length_set]; omega) | omega) hrow304)
     rw [← hFe_] at hFo_
     have hav2 : AgrV (s.bump kind (j8 : Int)) F C' := by rw [hFe_, hkk_, hy291]; exact AgrV.bump2 hav (by omega) (by rw [hav, ← hkk_]; omega)
     have hfl_ : C'.length = C.length := by rw [hFe_, List.length_set]
     have ho306 := OwnL.empty Ty.int 3 R59
     have hst307 := hst305.nothing
     refine W_region_lit ?_
     refine Lq (int 0) rfl rfl rfl rfl ?_
     refine L_nil ?_
     refine W_block ?_
     refine W_loop (I := fun σ w_ m_ => ∃ (σ0 : Fr) (k_ : Nat) (vo : Value) (co : Hp), σ = upd (upd (upd (upd (upd (upd (upd (upd (upd (upd (upd (upd (upd (upd (upd (upd (upd (upd (upd (upd (upd (upd (upd (upd (upd (upd (upd (upd (upd (upd (upd σ0 0 (ptr m 0)) 1 (int kind)) 2 (int (j8 : Int))) 6 (.slice none 0 0)) 7 vo20) 8 (int (k_19 : Int))) 10 vo) 11 (int (k_ : Int))) 13 (ptr m 0)) 14 (int kind)) 15 (int (j8 : Int))) 16 (int (verR F C kind (j8 : Int)))) 17 (.bool (decide (verR F C kind (j8 : Int) < 0)))) 18 (int (k_19 : Int))) 19 (ptr m 0)) 20 (ptr m 0)) 21 (ptr m 2)) 22 (.slice a23 xs.length cap24)) 23 (int (xs.length : Int))) 24 (.bool (decide ((k_19 : Int) < (xs.length : Int))))) 42 (int kind)) 43 (.bool (kind == 1))) 53 (ptr m 0)) 54 (ptr m 0)) 55 (ptr m 1)) 56 (.slice (some ⟨b277, 0, none⟩) C.length cap274)) 57 (int (j8 : Int))) 58 (ptr b277 (0 + j8 * 1))) 59 (int y290)) 60 (int (y290 + 1))) 61 (ptr b277 (0 + j8 * 1)) ∧ mks (σ0 0) = [] ∧ Step w R [c] w_ R59 [one m (.cells #[vF, (.slice (some ⟨b277, 0, none⟩) C.length cap274), (.slice a23 xs.length cap24)] 87 (0, 0)), cF, c301, co] ∧ OwnL Ty.int 3 R59 vo (outT F C' xs (List.take k_ (heldT F C xs xs.length))) co ∧ k_ ≤ (heldT F C xs xs.length).length ∧ m_ = (heldT F C xs xs.length).length - k_) (m := (heldT F C xs xs.length).length - 0) ?_ ?_
     ·
      exact ⟨_, 0, (.slice none 0 0), non, (upd_of (upd_of (upd_of (upd_of (upd_of (upd_of (upd_of (upd_of (upd_of (upd_of (upd_of (upd_of (upd_of (upd_of (upd_of (upd_of (upd_of (upd_of (upd_of (upd_of (upd_of (upd_of (upd_of (upd_of (upd_of (upd_of (upd_of (upd_of (upd_of (upd_of (upd_of rfl rfl) rfl) rfl) rfl) rfl) rfl) rfl) rfl) rfl) rfl) rfl) rfl) rfl) rfl) rfl) rfl) rfl) rfl) rfl) rfl) rfl) rfl) rfl) rfl) rfl) rfl) rfl) rfl) rfl) rfl) rfl), hmk12, (((hst307.front 1 rfl rfl).front 3 rfl rfl).front 3 rfl rfl), ho306, (by omega), rfl⟩
     ·
      rintro m318 σ_ w310 ⟨s314, k_315, vo316, co317, rfl, hmk308, hst309, hi312, hf313, rfl⟩
      refine W_seq ?_
      refine W_seq ?_
      refine W_region_lit ?_
      refine Lq (int (k_315 : Int)) rfl rfl rfl rfl ?_
      refine Lq vo20 rfl rfl rfl rfl ?_
      obtain ⟨a319, cap320, e321, hc322⟩ := hrd65.shape
      subst e321
      refine Lq (int (((heldT F C xs xs.length).length : Nat) : Int)) rfl rfl rfl (x_len_slice rfl sl_31 rfl) ?_
      refine Lq (.bool (decide ((k_315 : Int) < (((heldT F C xs xs.length).length : Nat) : Int)))) rfl rfl rfl (by kernel_rfl) ?_
      refine L_nil ?_
      rcases Bool.eq_false_or_eq_true (decide ((k_315 : Int) < (((heldT F C xs xs.length).length : Nat) : Int))) with c323 | c323
      ·
       have q324 := of_decide_eq_true c323
       refine W_cond_true (by show Value.bool _ = _; exact congrArg Value.bool c323) ?_
       refine W_skip ?_
       refine W_seq ?_
       refine W_block ?_
       refine W_seq ?_
       refine W_region_draw [] (fun w => Le R59 (hp w) ∧ Le (one m (.cells #[vF, (.slice (some ⟨b277, 0, none⟩) C.length cap274), (.slice a23 xs.length cap24)] 87 (0, 0))) (hp w) ∧ Le cF (hp w) ∧ Le c301 (hp w) ∧ Le co317 (hp w)) hmix (by decide +kernel) (fun _ _ h => h) ?_
       have hst326 := hst309.draws (w310.drawn + 1)
       generalize draws w310 (w310.drawn + 1) = w325 at hst326 ⊢
       refine LP (ptr m 0) 0 rfl rfl rfl (fun u328 => rfl) hst326.a4 ?_
       refine LP (ptr m 0) 1 rfl rfl rfl (fun u331 => rfl) hst326.a4 ?_
       refine LP (ptr m 0) 2 rfl rfl rfl (fun u334 => rfl) hst326.a4 ?_
       refine LP (ptr m 2) 3 rfl rfl rfl (fun u337 => (by kernel_rfl)) hst326.a4 ?_
       refine LT (.slice a23 xs.length cap24) 4 rfl rfl rfl (fun u340 hF341 => (x_load rfl rfl (run_loadVar_one ti_85 (hF341.2.1 _ _ (one_self _ _)) rfl))) hst326.a4 ?_
       refine LP (.slice a319 ((heldT F C xs xs.length).length) cap320) 5 rfl rfl rfl (fun u343 => rfl) hst326.a4 ?_
       refine LP (int (k_315 : Int)) 6 rfl rfl rfl (fun u346 => rfl) hst326.a4 ?_
       obtain ⟨b351, off352, cap353, cs354, T355, fz356, e357, hc358, hb359, he360⟩ := hrd65.open (by omega)
       cases e357
       obtain ⟨cl361, hs362, hr363⟩ := he360.at k_315 (by omega)
       obtain ⟨y364, hy365⟩ : ∃ y_, y_ = ((heldT F C xs xs.length)[k_315]'(by omega)) := ⟨_, rfl⟩
       rw [← hy365] at hr363
       have he366 : cl361 = [.int .i64 y364] := hr363
       subst he366
       obtain ⟨j367, rfl, hl368⟩ : ∃ j_ : Nat, y364 = (j_ : Int) ∧ j_ < xs.length := by rw [hy365]; exact held_open (by omega)
       refine LP (ptr b351 (off352 + k_315 * 1)) 7 rfl rfl rfl (fun u349 => (x_indexAddr' rfl sl_31 ti_3 rfl rfl (by omega))) hst326.a4 ?_
       refine LT (int (j367 : Int)) 8 rfl rfl rfl (fun u370 hF371 => (x_load rfl rfl (run_loadVar_one ti_3 (hF371.1 _ _ hb359) (seg_get (j := 0) hs362 rfl)))) hst326.a4 ?_
       obtain ⟨b375, off376, cap377, cs378, T379, fz380, e381, hc382, hb383, he384⟩ := hL.open (by omega)
       cases e381
       obtain ⟨cl385, hs386, hr387⟩ := he384.at j367 (by omega)
       obtain ⟨x388, hx389⟩ : ∃ x_, x_ = (xs[j367]'(by omega)) := ⟨_, rfl⟩
       rw [← hx389] at hr387
       obtain ⟨u390, e391, hu392⟩ := tyMo_open hr387
       subst e391
       refine LP (ptr b375 (off376 + j367 * 2)) 9 rfl rfl rfl (fun u373 => (x_indexAddr' rfl sl_85 ti_103 rfl rfl (by omega))) hst326.a4 ?_
       refine LP (ptr b375 (off376 + j367 * 2 + 1)) 10 rfl rfl rfl (fun u394 => (by kernel_rfl)) hst326.a4 ?_
       refine LT u390 11 rfl rfl rfl (fun u397 hF398 => (x_load rfl rfl (run_loadVar_one ti_29 ((Le.trans hle61 hF398.1) _ _ hb383) (seg_get (j := 1) hs386 rfl)))) hst326.a4 ?_
       refine LA_all [12] (by decide +kernel) (by simp) ?_
       intro i_ hi_
       simp only [List.mem_cons, List.not_mem_nil, or_false] at hi_
       subst hi_
       refine One_call (i := 12) rfl rfl rfl (Want.plain rfl) (x_call (vs := #[(ptr m 0), u390]) rfl rfl (by kernel_rfl) ent_49) (currentR_spec (F := F) (C := C') (xs := xs) (hst326.g 0) (OwnL.freeze hm63 hst326.rle' (hst326.g 1)) (OwnL.freeze hFo_ hst326.rle' (hst326.g 2)) (RdS.mono hL (Le.trans hle61 hst326.rle')) (Le.refl _) (by omega) (by omega) hx (RdS.mono hu392 (Le.trans hle61 hst326.rle')) (by rw [hx389]; exact hbig (by omega))) ?_
       rintro e404 w402 ⟨rfl, hw405⟩
       have hst403 := hst326.grown hw405
       refine ⟨_, rfl, (fun _ => hst403.a4), ?_⟩
       refine LP (.bool (curR F C' x388.2)) 13 rfl rfl rfl (fun u407 => rfl) hst403.a4 ?_
       refine LA_done (by decide +kernel) ?_
       refine W_seq ?_
       refine W_region_lit ?_
       refine Lq (.bool (curR F C' x388.2)) rfl rfl rfl rfl ?_
       refine Lq (.bool (!(curR F C' x388.2))) rfl rfl rfl rfl ?_
       refine L_nil ?_
       rcases Bool.eq_false_or_eq_true (curR F C' x388.2) with c409 | c409
       ·
        refine W_cond_false (by show Value.bool _ = _; exact congrArg Value.bool (by rw [c409]; rfl)) ?_
        refine W_skip ?_
        refine W_region_lit ?_
        refine Lq (int (k_315 : Int)) rfl rfl rfl rfl ?_
        refine Lq (int ((k_315 + 1 : Nat) : Int)) rfl rfl rfl (x_add_nat rfl rfl rfl (by omega)) ?_
        refine Lq (int ((k_315 + 1 : Nat) : Int)) rfl rfl rfl rfl ?_
        refine L_nil ?_
        refine ⟨(heldT F C xs xs.length).length - (k_315 + 1), by first | omega | (simp only [List.length_append, List.length_cons, List.length_nil]; omega), ?_⟩
        exact ⟨_, (k_315 + 1), vo316, co317, (upd_of (upd_of (upd_of (upd_of (upd_of (upd_of (upd_of (upd_of (upd_of (upd_of (upd_of (upd_of (upd_of (upd_of (upd_of (upd_of (upd_of (upd_of (upd_of (upd_of (upd_of (upd_of (upd_of (upd_of (upd_of (upd_of (upd_of (upd_of (upd_of (upd_of (upd_of rfl rfl) rfl) rfl) rfl) rfl) rfl) rfl) rfl) rfl) rfl) rfl) rfl) rfl) rfl) rfl) rfl) rfl) rfl) rfl) rfl) rfl) rfl) rfl) rfl) rfl) rfl) rfl) rfl) rfl) rfl) rfl), hmk308, ((((hst403.front 3 rfl rfl).front 3 rfl rfl).front 3 rfl rfl).front 3 rfl rfl), (by rw [outT_no (by omega) (by omega) hy365.symm (by rw [← hx389]; exact c409)]; exact hi312), (by omega), rfl⟩
       ·
        refine W_cond_true (by show Value.bool _ = _; exact congrArg Value.bool (by rw [c409]; rfl)) ?_
        have hol_ := outT_len F C' xs (List.take k_315 (heldT F C xs xs.length))
        have hol2_ : (List.take k_315 (heldT F C xs xs.length)).length ≤ 1000000 := by rw [List.length_take]; omega
        refine W_region_draw [] (fun w => Le R59 (hp w) ∧ Le (one m (.cells #[vF, (.slice (some ⟨b277, 0, none⟩) C.length cap274), (.slice (some ⟨b375, off376, none⟩) xs.length cap24)] 87 (0, 0))) (hp w)) hmix (by decide +kernel) (fun _ _ h => h) ?_
        have hst411 := hst403.draws (w402.drawn + 1)
        generalize draws w402 (w402.drawn + 1) = w410 at hst411 ⊢
        refine LP vo316 0 rfl rfl rfl (fun u413 => rfl) ⟨hst411.rle', hst411.g 0⟩ ?_
        refine LP (ptr m 0) 1 rfl rfl rfl (fun u416 => rfl) ⟨hst411.rle', hst411.g 0⟩ ?_
        refine LP (ptr m 0) 2 rfl rfl rfl (fun u419 => rfl) ⟨hst411.rle', hst411.g 0⟩ ?_
        refine LP (ptr m 2) 3 rfl rfl rfl (fun u422 => (by kernel_rfl)) ⟨hst411.rle', hst411.g 0⟩ ?_
        refine LT (.slice (some ⟨b375, off376, none⟩) xs.length cap24) 4 rfl rfl rfl (fun u425 hF426 => (x_load rfl rfl (run_loadVar_one ti_85 (hF426.2 _ _ (one_self _ _)) rfl))) ⟨hst411.rle', hst411.g 0⟩ ?_
        refine LP (.slice (some ⟨b351, off352, none⟩) ((heldT F C xs xs.length).length) cap320) 5 rfl rfl rfl (fun u428 => rfl) ⟨hst411.rle', hst411.g 0⟩ ?_
        refine LP (int (k_315 : Int)) 6 rfl rfl rfl (fun u431 => rfl) ⟨hst411.rle', hst411.g 0⟩ ?_
        obtain ⟨cl436, hs437, hr438⟩ := he360.at k_315 (by omega)
        rw [← hy365] at hr438
        have he439 : cl436 = [.int .i64 (j367 : Int)] := hr438
        subst he439
        refine LP (ptr b351 (off352 + k_315 * 1)) 7 rfl rfl rfl (fun u434 => (x_indexAddr' rfl sl_31 ti_3 rfl rfl (by omega))) ⟨hst411.rle', hst411.g 0⟩ ?_
        refine LT (int (j367 : Int)) 8 rfl rfl rfl (fun u441 hF442 => (x_load rfl rfl (run_loadVar_one ti_3 (hF442.1 _ _ hb359) (seg_get (j := 0) hs437 rfl)))) ⟨hst411.rle', hst411.g 0⟩ ?_
        obtain ⟨cl446, hs447, hr448⟩ := he384.at j367 (by omega)
        rw [← hx389] at hr448
        obtain ⟨u449, e450, hu451⟩ := tyMo_open hr448
        subst e450
        refine LP (ptr b375 (off376 + j367 * 2)) 9 rfl rfl rfl (fun u444 => (x_indexAddr' rfl sl_85 ti_103 rfl rfl (by omega))) ⟨hst411.rle', hst411.g 0⟩ ?_
        refine LP (ptr b375 (off376 + j367 * 2)) 10 rfl rfl rfl (fun u453 => (by kernel_rfl)) ⟨hst411.rle', hst411.g 0⟩ ?_
        refine LT (int x388.1) 11 rfl rfl rfl (fun u456 hF457 => (x_load rfl rfl (run_loadVar_one ti_3 ((Le.trans hle61 hF457.1) _ _ hb383) (seg_get (j := 0) hs447 rfl)))) ⟨hst411.rle', hst411.g 0⟩ ?_
        refine LA_all [12] (by decide +kernel) (by simp) ?_
        intro i_ hi_
        simp only [List.mem_cons, List.not_mem_nil, or_false] at hi_
        subst hi_
        refine One_new hst411 (i := 12) (v := fun b => .slice (some ⟨b, 0, none⟩) 1 1) (ob := .cells #[(int x388.1)] 3 (0, 0)) rfl rfl rfl (Want.plain rfl) (by kernel_rfl) (fun b461 w462 hst463 => ?_)
        refine ⟨(fun _ => ⟨hst463.rle', hst463.g 1⟩), ?_⟩
        refine LA_all [13] (by decide +kernel) (by simp) ?_
        intro i_ hi_
        simp only [List.mem_cons, List.not_mem_nil, or_false] at hi_
        subst hi_
        refine One_append (j := 13) hst463 (t := 31) (e := 3) (ys := [x388.1]) (src := [(int x388.1)]) 4 rfl rfl rfl (Want.plain rfl) rfl rfl rfl sl_31 ti_3 rfl rfl rfl hi312 (src_own (hst463.b 0)) (Encs.one (t := Ty.int) (c := [_]) rfl) rfl (by first | omega | (simp only [List.length_append, List.length_cons, List.length_nil]; omega)) (by first | (simp only [maxLen]; omega) | (simp only [List.length_append, List.length_cons, List.length_nil, maxLen]; omega)) (fun v467 c468 w469 ho470 hst471 => ?_)
        refine ⟨(fun _ => ⟨hst471.rle', hst471.g 2⟩), ?_⟩
        refine LP v467 14 rfl rfl rfl (fun u473 => rfl) ⟨hst471.rle', hst471.g 2⟩ ?_
        refine LA_done (by decide +kernel) ?_
        refine W_region_lit ?_
        refine Lq (int (k_315 : Int)) rfl rfl rfl rfl ?_
        refine Lq (int ((k_315 + 1 : Nat) : Int)) rfl rfl rfl (x_add_nat rfl rfl rfl (by omega)) ?_
        refine Lq (int ((k_315 + 1 : Nat) : Int)) rfl rfl rfl rfl ?_
        refine L_nil ?_
        refine ⟨(heldT F C xs xs.length).length - (k_315 + 1), by first | omega | (simp only [List.length_append, List.length_cons, List.length_nil]; omega), ?_⟩
        exact ⟨_, (k_315 + 1), v467, c468, (upd_of (upd_of (upd_of (upd_of (upd_of (upd_of (upd_of (upd_of (upd_of (upd_of (upd_of (upd_of (upd_of (upd_of (upd_of (upd_of (upd_of (upd_of (upd_of (upd_of (upd_of (upd_of (upd_of (upd_of (upd_of (upd_of (upd_of (upd_of (upd_of (upd_of (upd_of rfl rfl) rfl) rfl) rfl) rfl) rfl) rfl) rfl) rfl) rfl) rfl) rfl) rfl) rfl) rfl) rfl) rfl) rfl) rfl) rfl) rfl) rfl) rfl) rfl) rfl) rfl) rfl) rfl) rfl) rfl) rfl), hmk308, ((((hst471.front 4 rfl rfl).front 4 rfl rfl).front 4 rfl rfl).keepN 4 rfl), (by rw [outT_yes (by omega) (by omega) hy365.symm (by rw [← hx389]; exact c409), ← hx389]; exact ho470), (by omega), rfl⟩
      ·
       have q475 := of_decide_eq_false c323
       refine W_cond_false (by show Value.bool _ = _; exact congrArg Value.bool c323) ?_
       refine W_exit ?_
       refine W_seq ?_
       refine W_region_lit ?_
       refine Lq vo316 rfl rfl rfl rfl ?_
       refine Lq vo316 rfl rfl rfl rfl ?_
       refine L_nil ?_
       refine W_ret ?_
       refine ⟨_, _, res_run (rs := [.tmp 6]) (vs := [vo316]) Try.results33 (.cons (.tmp rfl) .nil) hmk308, ?_⟩
       have hkl_ : k_315 = (heldT F C xs xs.length).length := by omega
       have ho_ := hi312
       rw [hkl_, List.take_length, bumpL_out hsr hag hav hav2 hok hkn (by rw [hav]; omega)] at ho_
       obtain ⟨c', hst', hreg'⟩ := RegR.close (s := s.bump kind (j8 : Int)) (F := F) (C := C') (xs := xs) ((((hst309.front 3 rfl rfl).front 3 rfl rfl).front 3 rfl rfl).front 3 rfl rfl) hm63 hFo_ (RdS.mono hL hle61) hsr (hag.bump kind _) hav2 (by omega) (by omega) (hok.bump kind _) (hkn.bump hok kind _)
       exact ⟨_, _, _, rfl, hst'.keepN 2 rfl, c', _, rfl, hreg', ho_⟩

theorem NewR_spec {w : World} {R : Hp} {f c : Nat} (hs : Sats w R []) (hf : f ≤ 24) (hc : c ≤ 12) :
    Calls Try.prog 17 #[int (f : Int), int (c : Int)] w (Comes' w R [] fun v' R' L' => ∃ p c', v' = ptr p 0 ∧ L' = [c'] ∧ RegR R' p (RS.new f c) c') := by
 have hst := Step.refl hs
 refine calls_of_W (n := 39) Try.func17 rfl Try.ntmps17 (Nat.le_of_ble_eq_true rfl) ?_
 refine W_seq ?_
 refine W_region_lit ?_
 refine Lq (.pointer none) rfl rfl rfl rfl ?_
 refine L_nil ?_
 refine W_seq ?_
 refine W_region_lit ?_
 refine Lq (.agg #[(.slice none 0 0), (.slice none 0 0), (.slice none 0 0)]) rfl rfl rfl (by kernel_rfl) ?_
 refine L_new hst (v := fun b => ptr b 0) (ob := .cells #[(.slice none 0 0), (.slice none 0 0), (.slice none 0 0)] 87 (0, 0)) rfl rfl rfl (by kernel_rfl) (fun b1 w2 hst3 => ?_)
 refine Lq (ptr b1 0) rfl rfl rfl rfl ?_
 refine L_nil ?_
 refine W_seq ?_
 refine W_seq ?_
 have ho4 := OwnL.empty Ty.int 3 R
 have hst5 := hst3.nothing
 refine W_region_lit ?_
 refine Lq (int 0) rfl rfl rfl rfl ?_
 refine L_nil ?_
 refine W_block ?_
 refine W_loop (I := fun σ w_ m_ => ∃ (σ0 : Fr) (k_ : Nat) (vo : Value) (co : Hp), σ = upd (upd (upd (upd (upd (upd (upd σ0 0 (int (f : Int))) 1 (int (c : Int))) 4 (.pointer none)) 5 (ptr b1 0)) 6 (int (k_ : Int))) 8 (.agg #[(.slice none 0 0), (.slice none 0 0), (.slice none 0 0)])) 9 (ptr b1 0) ∧ mks (σ0 0) = [] ∧ Step w R [] w_ R [one b1 (.cells #[vo, (.slice none 0 0), (.slice none 0 0)] 87 (0, 0)), co] ∧ OwnL Ty.int 3 R vo (List.replicate k_ (1 : Int)) co ∧ k_ ≤ f ∧ m_ = f - k_) (m := f - 0) ?_ ?_
 ·
  exact ⟨_, 0, (.slice none 0 0), non, (upd_of (upd_of (upd_of (upd_of (upd_of (upd_of (upd_of rfl rfl) rfl) rfl) rfl) rfl) rfl) rfl), rfl, (hst5.front 1 rfl rfl), ho4, (by omega), rfl⟩
 ·
  rintro m16 σ_ w8 ⟨s12, k_13, vo14, co15, rfl, hmk6, hst7, hi10, hf11, rfl⟩
  refine W_seq ?_
  refine W_seq ?_
  refine W_region_lit ?_
  refine Lq (int (k_13 : Int)) rfl rfl rfl rfl ?_
  refine Lq (int (f : Int)) rfl rfl rfl rfl ?_
  refine Lq (.bool (decide ((k_13 : Int) < (f : Int)))) rfl rfl rfl (by kernel_rfl) ?_
  refine L_nil ?_
  rcases Bool.eq_false_or_eq_true (decide ((k_13 : Int) < (f : Int))) with c17 | c17
  ·
   have q18 := of_decide_eq_true c17
   refine W_cond_true (by show Value.bool _ = _; exact congrArg Value.bool c17) ?_
   refine W_skip ?_
   refine W_seq ?_
   refine W_block ?_
   have hrl_ : (List.replicate k_13 (1 : Int)).length ≤ 24 := by rw [List.length_replicate]; omega
   refine W_region_lit ?_
   refine Lq (ptr b1 0) rfl rfl rfl rfl ?_
   refine Lq (ptr b1 0) rfl rfl rfl rfl ?_
   refine Lq (ptr b1 0) rfl rfl rfl rfl ?_
   refine Lq (ptr b1 0) rfl rfl rfl (by kernel_rfl) ?_
   refine Lq vo14 rfl rfl rfl (x_load rfl rfl (run_loadVar_one ti_31 (hst7.b 0) rfl)) ?_
   refine L_new hst7 (v := fun b => .slice (some ⟨b, 0, none⟩) 1 1) (ob := .cells #[(int 1)] 3 (0, 0)) rfl rfl rfl (by kernel_rfl) (fun b19 w20 hst21 => ?_)
   refine L_append hst21 (t := 31) (e := 3) (ys := [1]) (src := [(int 1)]) 2 rfl rfl rfl rfl rfl rfl sl_31 ti_3 rfl rfl rfl hi10 (src_own (hst21.b 0)) (Encs.one (t := Ty.int) (c := [_]) rfl) rfl (by first | omega | (simp only [List.length_append, List.length_cons, List.length_nil]; omega)) (by first | (simp only [maxLen]; omega) | (simp only [List.length_append, List.length_cons, List.length_nil, maxLen]; omega)) (fun v22 c23 w24 ho25 hst26 => ?_)
   refine Lq (ptr b1 0) rfl rfl rfl rfl ?_
   refine Lq (ptr b1 0) rfl rfl rfl (by kernel_rfl) ?_
   obtain ⟨a27, cap28, e29, hc30⟩ := ho25.value
   subst e29
   refine L_store hst26 2 ti_31 rfl rfl rfl rfl rfl rfl rfl rfl rfl rfl rfl (fun w31 hst32 => ?_)
   change Step _ _ _ _ _ [c23, one b19 (.cells #[(int 1)] 3 (0, 0)), one b1 (.cells #[(.slice a27 (((List.replicate k_13 (1 : Int)) ++ [1]).length) cap28), (.slice none 0 0), (.slice none 0 0)] 87 (0, 0))] at hst32
   refine L_nil ?_
   refine W_region_lit ?_
   refine Lq (int (k_13 : Int)) rfl rfl rfl rfl ?_
   refine Lq (int ((k_13 + 1 : Nat) : Int)) rfl rfl rfl (x_add_nat rfl rfl rfl (by omega)) ?_
   refine Lq (int ((k_13 + 1 : Nat) : Int)) rfl rfl rfl rfl ?_
   refine L_nil ?_
   refine ⟨f - (k_13 + 1), by first | omega | (simp only [List.length_append, List.length_cons, List.length_nil]; omega), ?_⟩
   exact ⟨_, (k_13 + 1), (.slice a27 (((List.replicate k_13 (1 : Int)) ++ [1]).length) cap28), c23, (upd_of (upd_of (upd_of (upd_of (upd_of (upd_of (upd_of rfl rfl) rfl) rfl) rfl) rfl) rfl) rfl), hmk6, ((hst32.front 2 rfl rfl).keepN 2 rfl), (by rw [← rep_succ]; exact ho25), (by omega), rfl⟩
  ·
   have q33 := of_decide_eq_false c17
   refine W_cond_false (by show Value.bool _ = _; exact congrArg Value.bool c17) ?_
   refine W_exit ?_
   refine W_seq ?_
   refine W_seq ?_
   have ho34 := OwnL.empty Ty.int 3 R
   have hst35 := hst7.nothing
   refine W_region_lit ?_
   refine Lq (int 0) rfl rfl rfl rfl ?_
   refine L_nil ?_
   refine W_block ?_
   refine W_loop (I := fun σ w_ m_ => ∃ (σ0 : Fr) (k_ : Nat) (vo : Value) (co : Hp), σ = upd (upd (upd (upd (upd (upd (upd (upd (upd (upd (upd σ0 0 (int (f : Int))) 1 (int (c : Int))) 4 (.pointer none)) 5 (ptr b1 0)) 6 (int (k_13 : Int))) 7 (int (k_ : Int))) 8 (.agg #[(.slice none 0 0), (.slice none 0 0), (.slice none 0 0)])) 9 (ptr b1 0)) 10 (int (k_13 : Int))) 11 (int (f : Int))) 12 (.bool (decide ((k_13 : Int) < (f : Int)))) ∧ mks (σ0 0) = [] ∧ Step w R [] w_ R [one b1 (.cells #[vo14, vo, (.slice none 0 0)] 87 (0, 0)), co15, co] ∧ OwnL Ty.int 3 R vo (List.replicate k_ (1 : Int)) co ∧ k_ ≤ c ∧ m_ = c - k_) (m := c - 0) ?_ ?_
   ·
    exact ⟨_, 0, (.slice none 0 0), non, (upd_of (upd_of (upd_of (upd_of (upd_of (upd_of (upd_of (upd_of (upd_of (upd_of (upd_of rfl rfl) rfl) rfl) rfl) rfl) rfl) rfl) rfl) rfl) rfl) rfl), hmk6, ((hst35.front 2 rfl rfl).front 2 rfl rfl), ho34, (by omega), rfl⟩
   ·
    rintro m46 σ_ w38 ⟨s42, k_43, vo44, co45, rfl, hmk36, hst37, hi40, hf41, rfl⟩
    refine W_seq ?_
    refine W_seq ?_
    refine W_region_lit ?_
    refine Lq (int (k_43 : Int)) rfl rfl rfl rfl ?_
    refine Lq (int (c : Int)) rfl rfl rfl rfl ?_
    refine Lq (.bool (decide ((k_43 : Int) < (c : Int)))) rfl rfl rfl (by kernel_rfl) ?_
    refine L_nil ?_
    rcases Bool.eq_false_or_eq_true (decide ((k_43 : Int) < (c : Int))) with c47 | c47
    ·
     have q48 := of_decide_eq_true c47
     refine W_cond_true (by show Value.bool _ = _; exact congrArg Value.bool c47) ?_
     refine W_skip ?_
     refine W_seq ?_
     refine W_block ?_
     have hrl_ : (List.replicate k_43 (1 : Int)).length ≤ 24 := by rw [List.length_replicate]; omega
     refine W_region_lit ?_
     refine Lq (ptr b1 0) rfl rfl rfl rfl ?_
     refine Lq (ptr b1 0) rfl rfl rfl rfl ?_
     refine Lq (ptr b1 0) rfl rfl rfl rfl ?_
     refine Lq (ptr b1 1) rfl rfl rfl (by kernel_rfl) ?_
     refine Lq vo44 rfl rfl rfl (x_load rfl rfl (run_loadVar_one ti_31 (hst37.b 0) rfl)) ?_
     refine L_new hst37 (v := fun b => .slice (some ⟨b, 0, none⟩) 1 1) (ob := .cells #[(int 1)] 3 (0, 0)) rfl rfl rfl (by kernel_rfl) (fun b49 w50 hst51 => ?_)
     refine L_append hst51 (t := 31) (e := 3) (ys := [1]) (src := [(int 1)]) 3 rfl rfl rfl rfl rfl rfl sl_31 ti_3 rfl rfl rfl hi40 (src_own (hst51.b 0)) (Encs.one (t := Ty.int) (c := [_]) rfl) rfl (by first | omega | (simp only [List.length_append, List.length_cons, List.length_nil]; omega)) (by first | (simp only [maxLen]; omega) | (simp only [List.length_append, List.length_cons, List.length_nil, maxLen]; omega)) (fun v52 c53 w54 ho55 hst56 => ?_)
     refine Lq (ptr b1 0) rfl rfl rfl rfl ?_
     refine Lq (ptr b1 1) rfl rfl rfl (by kernel_rfl) ?_
     obtain ⟨a57, cap58, e59, hc60⟩ := ho55.value
     subst e59
     refine L_store hst56 2 ti_31 rfl rfl rfl rfl rfl rfl rfl rfl rfl rfl rfl (fun w61 hst62 => ?_)
     change Step _ _ _ _ _ [c53, one b49 (.cells #[(int 1)] 3 (0, 0)), one b1 (.cells #[vo14, (.slice a57 (((List.replicate k_43 (1 : Int)) ++ [1]).length) cap58), (.slice none 0 0)] 87 (0, 0)), co15] at hst62
     refine L_nil ?_
     refine W_region_lit ?_
     refine Lq (int (k_43 : Int)) rfl rfl rfl rfl ?_
     refine Lq (int ((k_43 + 1 : Nat) : Int)) rfl rfl rfl (x_add_nat rfl rfl rfl (by omega)) ?_
     refine Lq (int ((k_43 + 1 : Nat) : Int)) rfl rfl rfl rfl ?_
     refine L_nil ?_
     refine ⟨c - (k_43 + 1), by first | omega | (simp only [List.length_append, List.length_cons, List.length_nil]; omega), ?_⟩
     exact ⟨_, (k_43 + 1), (.slice a57 (((List.replicate k_43 (1 : Int)) ++ [1]).length) cap58), c53, (upd_of (upd_of (upd_of (upd_of (upd_of (upd_of (upd_of (upd_of (upd_of (upd_of (upd_of rfl rfl) rfl) rfl) rfl) rfl) rfl) rfl) rfl) rfl) rfl) rfl), hmk36, (((hst62.front 3 rfl rfl).front 3 rfl rfl).keepN 3 rfl), (by rw [← rep_succ]; exact ho55), (by omega), rfl⟩
    ·
     have q63 := of_decide_eq_false c47
     refine W_cond_false (by show Value.bool _ = _; exact congrArg Value.bool c47) ?_
     refine W_exit ?_
     refine W_seq ?_
     refine W_region_lit ?_
     refine Lq (ptr b1 0) rfl rfl rfl rfl ?_
     refine Lq (ptr b1 0) rfl rfl rfl rfl ?_
     refine L_nil ?_
     refine W_ret ?_
     refine ⟨_, _, res_run (rs := [.tmp 4]) (vs := [(ptr b1 0)]) Try.results17 (.cons (.tmp rfl) .nil) hmk36, ?_⟩
     obtain ⟨c', hst', hreg'⟩ := RegR.close (s := RS.new f c) (F := (List.replicate k_13 1)) (C := (List.replicate k_43 1)) (xs := []) (((hst37.front 2 rfl rfl).front 2 rfl rfl).front 2 rfl rfl) hi10 hi40 (RdS.empty tyMo _) List.Pairwise.nil (fun _ => rfl) (by rw [show k_13 = f by omega, show k_43 = c by omega]; exact new_agr f c) (by rw [List.length_replicate]; omega) (by rw [List.length_replicate]; omega) (RS.Ok.new f c) (Kn.new f c)
     exact ⟨_, _, _, rfl, hst'.keepN 1 rfl, _, c', rfl, rfl, hreg'⟩

end Go.Fx.Ytlfabjfajcbdcaa
