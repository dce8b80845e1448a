/-
  Chapter 14: words, printed by genp.py
-/
import Derived.Test.YtdkjoljcffkpkaaDoorPr4
set_option linter.unusedSimpArgs false
set_option linter.unusedVariables false
namespace Go.Fx.YtdkjoljcffkpkaaDoor
open Go Go.Fx Go.Proofs
set_option maxRecDepth 20000

theorem ent_57 : Ent Tryd.prog 57 := fun _ _ => by kernel_rfl
theorem ent_58 : Ent Tryd.prog 58 := fun _ _ => by kernel_rfl
theorem sl_115 : SL Tryd.prog 115 20 := Tryd.underlying115
theorem sl_73 : SL Tryd.prog 73 9 := Tryd.underlying73
theorem ti_20 : TI Tryd.prog 20 false 1 16 .nilIface := ⟨by kernel_rfl, by kernel_rfl⟩
theorem ti_9 : TI Tryd.prog 9 false 1 16 (.string ⟨#[]⟩) := ⟨by kernel_rfl, by kernel_rfl⟩

theorem words_spec {w : World} {R : Hp} {v : Value} {xs : List Wd} (hT : Tab R) (hR : Le R (hp w)) (hv : RdS tyWd R v xs) (hok : ∀ x ∈ xs, x.Ok) (hlen : xs.length ≤ 8) :
    Calls Tryd.prog 40 #[v] w fun e w' => e = .returned (.string (joinW xs)) ∧ Grow w w' := by
 have hst := Step.ro hR
 refine calls_of_W (n := 33) Tryd.func40 rfl Tryd.ntmps40 (Nat.le_of_ble_eq_true rfl) ?_
 refine W_seq ?_
 refine W_region_lit ?_
 refine Lq (.string ⟨#[]⟩) rfl rfl rfl rfl ?_
 refine L_nil ?_
 refine W_seq ?_
 refine W_region_lit ?_
 refine Lq (.slice none 0 0) rfl rfl rfl rfl ?_
 refine L_nil ?_
 refine W_seq ?_
 refine W_seq ?_
 have ho1 := OwnL.empty Ty.str 9 R
 have hst2 := hst.nothing
 refine W_region_lit ?_
 refine Lq v rfl rfl rfl rfl ?_
 obtain ⟨a3, cap4, e5, hc6⟩ := hv.shape
 subst e5
 refine Lq (int (xs.length : Int)) rfl rfl rfl (x_len_slice rfl sl_115 rfl) ?_
 refine Lq (int 0) rfl rfl rfl rfl ?_
 refine L_nil ?_
 refine W_block ?_
 refine W_loop (I := fun σ w_ m_ => ∃ (σ0 : Fr) (k_ : Nat) (vo : Value) (co : Hp), σ = upd (upd (upd (upd (upd (upd σ0 0 (.slice a3 xs.length cap4)) 2 (.string ⟨#[]⟩)) 3 vo) 8 (.slice a3 xs.length cap4)) 9 (int (xs.length : Int))) 10 (int (k_ : Int)) ∧ mks (σ0 0) = [] ∧ Step w R [] w_ R [co] ∧ OwnL Ty.str 9 R vo (List.map Wd.txt (List.take k_ xs)) co ∧ k_ ≤ xs.length ∧ m_ = xs.length - k_) (m := xs.length - 0) ?_ ?_
 ·
  exact ⟨_, 0, (.slice none 0 0), non, (upd_of (upd_of (upd_of (upd_of (upd_of (upd_of rfl rfl) rfl) rfl) rfl) rfl) rfl), rfl, hst2, ho1, (by omega), rfl⟩
 ·
  rintro m17 σ_ w9 ⟨s13, k_14, vo15, co16, rfl, hmk7, hst8, hi11, hf12, rfl⟩
  refine W_seq ?_
  refine W_region_lit ?_
  refine Lq (.bool (decide ((k_14 : Int) < (xs.length : Int)))) rfl rfl rfl (by kernel_rfl) ?_
  refine L_nil ?_
  refine W_seq ?_
  rcases Bool.eq_false_or_eq_true (decide ((k_14 : Int) < (xs.length : Int))) with c18 | c18
  ·
   have q19 := of_decide_eq_true c18
   refine W_cond_true (by show Value.bool _ = _; exact congrArg Value.bool c18) ?_
   refine W_skip ?_
   refine W_seq ?_
   refine W_block ?_
   refine W_seq ?_
   have hln := len_txts (l := xs) (k := k_14) (by omega)
   rcases hx21 : (xs[k_14]'(by omega)) with n22 | n22
   ·
    refine W_region_lit ?_
    obtain ⟨b23, off24, cap25, cs26, T27, fz28, e29, hc30, hb31, he32⟩ := hv.open (by omega)
    cases e29
    obtain ⟨cl33, hs34, hr35⟩ := he32.at k_14 (by omega)
    obtain rfl := tyWd_i hr35 hx21
    refine Lq (ptr b23 (off24 + k_14 * 1)) rfl rfl rfl (x_indexAddr' rfl sl_115 ti_20 rfl rfl (by omega)) ?_
    refine Lq (.iface 3 (int n22)) rfl rfl rfl (x_load rfl rfl (run_loadVar_one ti_20 (hst8.rle' _ _ hb31) (seg_get (j := 0) hs34 rfl))) ?_
    refine Lq (.iface 3 (int n22)) rfl rfl rfl rfl ?_
    refine L_nil ?_
    refine W_seq ?_
    refine W_region_lit ?_
    refine Lq (.iface 3 (int n22)) rfl rfl rfl rfl ?_
    refine L_nil ?_
    refine W_block ?_
    refine W_seq ?_
    refine W_region_lit ?_
    refine Lq (.tuple #[(int n22), (.bool true)]) rfl rfl rfl (by kernel_rfl) ?_
    refine Lq (.bool true) rfl rfl rfl (by kernel_rfl) ?_
    refine Lq (int n22) rfl rfl rfl (by kernel_rfl) ?_
    refine L_nil ?_
    refine W_cond_true (by show Value.bool _ = _; exact congrArg Value.bool rfl) ?_
    refine W_seq ?_
    refine W_region_lit ?_
    refine Lq (int n22) rfl rfl rfl rfl ?_
    refine L_nil ?_
    refine W_region_lit ?_
    refine Lq vo15 rfl rfl rfl rfl ?_
    refine Lq (int n22) rfl rfl rfl rfl ?_
    refine L_callG hst8 (v := (.string ((Wd.i n22).txt))) rfl rfl rfl (x_call (vs := #[(int n22)]) rfl rfl (by kernel_rfl) ent_57) (Itoa_G hT hst8.rle' (Wd.Ok.i hok (List.getElem_mem _) hx21)) (fun w36 hst37 => ?_)
    refine L_new hst37 (v := fun b => .slice (some ⟨b, 0, none⟩) 1 1) (ob := .cells #[(.string ((Wd.i n22).txt))] 9 (0, 0)) rfl rfl rfl (by kernel_rfl) (fun b38 w39 hst40 => ?_)
    refine L_append hst40 (t := 73) (e := 9) (ys := [(Wd.i n22).txt]) (src := [(.string ((Wd.i n22).txt))]) 1 rfl rfl rfl rfl rfl rfl sl_73 ti_9 rfl rfl rfl hi11 (src_own (hst40.b 0)) (str_mk _ _) rfl (by first | omega | (simp only [List.length_append, List.length_cons, List.length_nil]; omega)) (by first | (simp only [maxLen]; omega) | (simp only [List.length_append, List.length_cons, List.length_nil, maxLen]; omega)) (fun v41 c42 w43 ho44 hst45 => ?_)
    refine Lq v41 rfl rfl rfl rfl ?_
    refine L_nil ?_
    refine W_region_lit ?_
    refine Lq (int ((k_14 + 1 : Nat) : Int)) rfl rfl rfl (x_add_nat rfl rfl rfl (by omega)) ?_
    refine Lq (int ((k_14 + 1 : Nat) : Int)) rfl rfl rfl rfl ?_
    refine L_nil ?_
    refine ⟨xs.length - (k_14 + 1), by first | omega | (simp only [List.length_append, List.length_cons, List.length_nil]; omega), ?_⟩
    exact ⟨_, (k_14 + 1), v41, c42, (upd_of (upd_of (upd_of (upd_of (upd_of (upd_of rfl rfl) rfl) rfl) rfl) rfl) rfl), hmk7, (hst45.keepN 1 rfl), (by rw [take_txt (by omega) hx21]; exact ho44), (by omega), rfl⟩
   ·
    refine W_region_lit ?_
    obtain ⟨b46, off47, cap48, cs49, T50, fz51, e52, hc53, hb54, he55⟩ := hv.open (by omega)
    cases e52
    obtain ⟨cl56, hs57, hr58⟩ := he55.at k_14 (by omega)
    obtain rfl := tyWd_s hr58 hx21
    refine Lq (ptr b46 (off47 + k_14 * 1)) rfl rfl rfl (x_indexAddr' rfl sl_115 ti_20 rfl rfl (by omega)) ?_
    refine Lq (.iface 9 (.string n22)) rfl rfl rfl (x_load rfl rfl (run_loadVar_one ti_20 (hst8.rle' _ _ hb54) (seg_get (j := 0) hs57 rfl))) ?_
    refine Lq (.iface 9 (.string n22)) rfl rfl rfl rfl ?_
    refine L_nil ?_
    refine W_seq ?_
    refine W_region_lit ?_
    refine Lq (.iface 9 (.string n22)) rfl rfl rfl rfl ?_
    refine L_nil ?_
    refine W_block ?_
    refine W_seq ?_
    refine W_region_lit ?_
    refine Lq (.tuple #[(int 0), (.bool false)]) rfl rfl rfl (by kernel_rfl) ?_
    refine Lq (.bool false) rfl rfl rfl (by kernel_rfl) ?_
    refine Lq (int 0) rfl rfl rfl (by kernel_rfl) ?_
    refine L_nil ?_
    refine W_cond_false (by show Value.bool _ = _; exact congrArg Value.bool rfl) ?_
    refine W_seq ?_
    refine W_region_lit ?_
    refine Lq (.tuple #[(.string n22), (.bool true)]) rfl rfl rfl (by kernel_rfl) ?_
    refine Lq (.bool true) rfl rfl rfl (by kernel_rfl) ?_
    refine Lq (.string n22) rfl rfl rfl (by kernel_rfl) ?_
    refine L_nil ?_
    refine W_cond_true (by show Value.bool _ = _; exact congrArg Value.bool rfl) ?_
    refine W_seq ?_
    refine W_region_lit ?_
    refine Lq (.string n22) rfl rfl rfl rfl ?_
    refine L_nil ?_
    refine W_region_lit ?_
    refine Lq vo15 rfl rfl rfl rfl ?_
    refine Lq (.string n22) rfl rfl rfl rfl ?_
    refine L_new hst8 (v := fun b => .slice (some ⟨b, 0, none⟩) 1 1) (ob := .cells #[(.string n22)] 9 (0, 0)) rfl rfl rfl (by kernel_rfl) (fun b59 w60 hst61 => ?_)
    refine L_append hst61 (t := 73) (e := 9) (ys := [n22]) (src := [(.string n22)]) 1 rfl rfl rfl rfl rfl rfl sl_73 ti_9 rfl rfl rfl hi11 (src_own (hst61.b 0)) (str_mk _ _) rfl (by first | omega | (simp only [List.length_append, List.length_cons, List.length_nil]; omega)) (by first | (simp only [maxLen]; omega) | (simp only [List.length_append, List.length_cons, List.length_nil, maxLen]; omega)) (fun v62 c63 w64 ho65 hst66 => ?_)
    refine Lq v62 rfl rfl rfl rfl ?_
    refine L_nil ?_
    refine W_region_lit ?_
    refine Lq (int ((k_14 + 1 : Nat) : Int)) rfl rfl rfl (x_add_nat rfl rfl rfl (by omega)) ?_
    refine Lq (int ((k_14 + 1 : Nat) : Int)) rfl rfl rfl rfl ?_
    refine L_nil ?_
    refine ⟨xs.length - (k_14 + 1), by first | omega | (simp only [List.length_append, List.length_cons, List.length_nil]; omega), ?_⟩
    exact ⟨_, (k_14 + 1), v62, c63, (upd_of (upd_of (upd_of (upd_of (upd_of (upd_of rfl rfl) rfl) rfl) rfl) rfl) rfl), hmk7, (hst66.keepN 1 rfl), (by rw [take_txt (by omega) hx21]; exact ho65), (by omega), rfl⟩
  ·
   have q67 := of_decide_eq_false c18
   refine W_cond_false (by show Value.bool _ = _; exact congrArg Value.bool c18) ?_
   refine W_exit ?_
   refine W_seq ?_
   refine W_region_lit ?_
   refine Lq vo15 rfl rfl rfl rfl ?_
   refine L_callG hst8 (v := (.string (joinW xs))) rfl rfl rfl (x_call (vs := #[vo15, (.string ⟨#[32]⟩)]) rfl rfl (by kernel_rfl) ent_58) (by have h_ := Join_G (w := w9) hi11 (hst8.g 0) (by rw [List.length_map, List.length_take]; omega) (joinW_room hok hlen (by omega)); rw [← joinW_eq (by omega)] at h_; exact h_) (fun w68 hst69 => ?_)
   refine Lq (.string (joinW xs)) rfl rfl rfl rfl ?_
   refine L_nil ?_
   refine W_ret ?_
   refine ⟨_, _, res_run (rs := [.tmp 2]) (vs := [(.string (joinW xs))]) Tryd.results40 (.cons (.tmp rfl) .nil) hmk7, ?_⟩
   exact ⟨rfl, hst69.grow⟩

end Go.Fx.YtdkjoljcffkpkaaDoor
