/-
  Sq8, Sp11, Sq9, Sp12, Sp13, Sp14, ClP, Sp18, Sq10, Sp19, Sp15, Sp16, Sq14, Sp20, Sq15, Sp21, put together.
-/
import Derived.Test.YtjpdhfhiimbpgaaGreatDoorPP3
import Derived.Test.YtjpdhfhiimbpgaaGreatDoorCards
import Derived.Test.YtjpdhfhiimbpgaaGreatDoorTie
import Derived.WalkKit
import Derived.ProofKit
import Derived.OpenShut
import Derived.Deep.DeepHandedRow
import Derived.Lib.LaidTab
set_option linter.unusedSimpArgs false
set_option linter.unusedVariables false
namespace Go.Fx.YtjpdhfhiimbpgaaGreatDoor
open Go Go.Fx Go.Proofs
set_option maxRecDepth 20000
theorem ent_11 : Ent Tryz.prog 11 := fun _ _ => by kernel_rfl
theorem ent_12 : Ent Tryz.prog 12 := fun _ _ => by kernel_rfl
theorem ent_16 : Ent Tryz.prog 16 := fun _ _ => by kernel_rfl
theorem ent_19 : Ent Tryz.prog 19 := fun _ _ => by kernel_rfl
theorem ent_27 : Ent Tryz.prog 27 := fun _ _ => by kernel_rfl
theorem ent_28 : Ent Tryz.prog 28 := fun _ _ => by kernel_rfl
theorem ent_29 : Ent Tryz.prog 29 := fun _ _ => by kernel_rfl
theorem ent_31 : Ent Tryz.prog 31 := fun _ _ => by kernel_rfl
theorem ent_38 : Ent Tryz.prog 38 := fun _ _ => by kernel_rfl
theorem ent_46 : Ent Tryz.prog 46 := fun _ _ => by kernel_rfl
theorem sl_22 : SL Tryz.prog 22 35 := Tryz.underlying22
theorem ti_35 : TI Tryz.prog 35 true 4 32 (.agg #[(.int .i64 0), (.int .i64 0), (.int .i64 0), (.int .i64 0)]) := ⟨by kernel_rfl, by kernel_rfl⟩
theorem EqualR_spec {w : World} {R : Hp} {v u : Value} {xs ys : List Str} (hR : Le R (hp w)) (hv : RdS Ty.str R v xs) (hu : RdS Ty.str R u ys) (hmax : xs.length ≤ 1000000) (hmay : ys.length ≤ 1000000) :
    Calls Tryz.prog 23 #[v, u] w fun e w' => e = .returned (.bool (decide (xs = ys))) ∧ Grow w w' := by
 have hst := Step.ro hR
 refine calls_of_W (n := 26) Tryz.func23 rfl Tryz.ntmps23 (Nat.le_of_ble_eq_true rfl) ?_
 refine W_seq ?_
 refine W_region_lit ?_
 refine Lq (.bool false) rfl rfl rfl rfl ?_
 refine L_nil ?_
 refine W_seq ?_
 refine W_seq ?_
 refine W_region_lit ?_
 refine Lq v rfl rfl rfl rfl ?_
 obtain ⟨a1, cap2, e3, hc4⟩ := hv.shape
 subst e3
 refine Lq (int (xs.length : Int)) rfl rfl rfl (x_len_slice rfl sl_42 rfl) ?_
 refine Lq u rfl rfl rfl rfl ?_
 obtain ⟨a5, cap6, e7, hc8⟩ := hu.shape
 subst e7
 refine Lq (int (ys.length : Int)) rfl rfl rfl (x_len_slice rfl sl_42 rfl) ?_
 refine Lq (.bool ((xs.length : Int) != (ys.length : Int))) rfl rfl rfl (by kernel_rfl) ?_
 refine L_nil ?_
 rcases Bool.eq_false_or_eq_true ((xs.length : Int) != (ys.length : Int)) with c9 | c9
 ·
  have q10 : ¬ (xs.length : Int) = (ys.length : Int) := by simpa using c9
  refine W_cond_true (by show Value.bool _ = _; exact congrArg Value.bool c9) ?_
  refine W_seq ?_
  refine W_region_lit ?_
  refine Lq (.bool false) rfl rfl rfl rfl ?_
  refine L_nil ?_
  refine W_ret ?_
  refine ⟨_, _, res_run (rs := [.tmp 4]) (vs := [(.bool false)]) Tryz.results23 (.cons (.tmp rfl) .nil) rfl, ?_⟩
  exact ⟨ret_bool (decide_eq_false (fun h => by have := congrArg List.length h; omega)).symm, hst.grow⟩
 ·
  have q11 : (xs.length : Int) = (ys.length : Int) := by simpa using c9
  refine W_cond_false (by show Value.bool _ = _; exact congrArg Value.bool c9) ?_
  refine W_skip ?_
  refine W_seq ?_
  refine W_seq ?_
  refine W_region_lit ?_
  refine Lq (int 0) rfl rfl rfl rfl ?_
  refine L_nil ?_
  refine W_block ?_
  refine W_loop (I := fun σ w_ m_ => ∃ (σ0 : Fr) (k : Nat), σ = upd (upd (upd (upd (upd (upd (upd (upd σ0 0 (.slice a1 xs.length cap2)) 1 (.slice a5 ys.length cap6)) 5 (int (k : Int))) 6 (.slice a1 xs.length cap2)) 7 (int (xs.length : Int))) 8 (.slice a5 ys.length cap6)) 9 (int (ys.length : Int))) 10 (.bool ((xs.length : Int) != (ys.length : Int))) ∧ mks (σ0 0) = [] ∧ Step w R [] w_ R [] ∧ k ≤ xs.length ∧ (∀ j, j < k → xs[j]? = ys[j]?) ∧ m_ = xs.length - k) (m := xs.length - 0) ?_ ?_
  ·
   exact ⟨_, 0, (upd_of (upd_of (upd_of (upd_of (upd_of (upd_of (upd_of (upd_of rfl rfl) rfl) rfl) rfl) rfl) rfl) rfl) rfl), rfl, hst, (by omega), (fun j h => absurd h (by omega)), rfl⟩
  ·
   rintro m20 σ_ w14 ⟨s18, k19, rfl, hmk12, hst13, hf16, hf17, rfl⟩
   refine W_seq ?_
   refine W_seq ?_
   refine W_region_lit ?_
   refine Lq (int (k19 : Int)) rfl rfl rfl rfl ?_
   refine Lq (.slice a1 xs.length cap2) rfl rfl rfl rfl ?_
   refine Lq (int (xs.length : Int)) rfl rfl rfl (x_len_slice rfl sl_42 rfl) ?_
   refine Lq (.bool (decide ((k19 : Int) < (xs.length : Int)))) rfl rfl rfl (by kernel_rfl) ?_
   refine L_nil ?_
   rcases Bool.eq_false_or_eq_true (decide ((k19 : Int) < (xs.length : Int))) with c21 | c21
   ·
    have q22 := of_decide_eq_true c21
    refine W_cond_true (by show Value.bool _ = _; exact congrArg Value.bool c21) ?_
    refine W_skip ?_
    refine W_seq ?_
    refine W_block ?_
    refine W_seq ?_
    refine W_region_draw [] (fun w => Le R (hp w)) hmix (by decide +kernel) (fun _ _ h => h) ?_
    have hst24 := hst13.draws (w14.drawn + 1)
    generalize draws w14 (w14.drawn + 1) = w23 at hst24 ⊢
    refine LP (.slice a1 xs.length cap2) 0 rfl rfl rfl (fun u26 => rfl) hst24.rle' ?_
    refine LP (int (k19 : Int)) 1 rfl rfl rfl (fun u29 => rfl) hst24.rle' ?_
    obtain ⟨b34, off35, cap36, cs37, T38, fz39, e40, hc41, hb42, he43⟩ := hv.open (by omega)
    cases e40
    obtain ⟨cl44, hs45, hr46⟩ := he43.at k19 (by omega)
    have hx47 : cl44 = [.string (xs[k19]'(by omega))] := hr46
    subst hx47
    refine LP (ptr b34 (off35 + k19 * 1)) 2 rfl rfl rfl (fun u32 => (x_indexAddr' rfl sl_42 ti_9 rfl rfl (by omega))) hst24.rle' ?_
    refine LT (.string (xs[k19]'(by omega))) 3 rfl rfl rfl (fun u49 hF50 => (x_load rfl rfl (run_loadVar_one ti_9 (hF50 _ _ hb42) (seg_get (j := 0) hs45 rfl)))) hst24.rle' ?_
    refine LP (.slice a5 ys.length cap6) 4 rfl rfl rfl (fun u52 => rfl) hst24.rle' ?_
    refine LP (int (k19 : Int)) 5 rfl rfl rfl (fun u55 => rfl) hst24.rle' ?_
    obtain ⟨b60, off61, cap62, cs63, T64, fz65, e66, hc67, hb68, he69⟩ := hu.open (by omega)
    cases e66
    obtain ⟨cl70, hs71, hr72⟩ := he69.at k19 (by omega)
    have hx73 : cl70 = [.string (ys[k19]'(by omega))] := hr72
    subst hx73
    refine LP (ptr b60 (off61 + k19 * 1)) 6 rfl rfl rfl (fun u58 => (x_indexAddr' rfl sl_42 ti_9 rfl rfl (by omega))) hst24.rle' ?_
    refine LT (.string (ys[k19]'(by omega))) 7 rfl rfl rfl (fun u75 hF76 => (x_load rfl rfl (run_loadVar_one ti_9 (hF76 _ _ hb68) (seg_get (j := 0) hs71 rfl)))) hst24.rle' ?_
    refine LP (.bool (!(decide ((xs[k19]'(by omega)) = (ys[k19]'(by omega)))))) 8 rfl rfl rfl (fun u78 => (x_neqD rfl rfl rfl)) hst24.rle' ?_
    refine LA_done (by decide +kernel) ?_
    rcases Bool.eq_false_or_eq_true (decide ((xs[k19]'(by omega)) = (ys[k19]'(by omega)))) with c80 | c80
    ·
     have q81 := of_decide_eq_true c80
     refine W_cond_false (by show Value.bool _ = _; exact congrArg Value.bool (by rw [c80]; rfl)) ?_
     refine W_skip ?_
     refine W_region_lit ?_
     refine Lq (int (k19 : Int)) rfl rfl rfl rfl ?_
     refine Lq (int ((k19 + 1 : Nat) : Int)) rfl rfl rfl (x_add_nat rfl rfl rfl (by omega)) ?_
     refine Lq (int ((k19 + 1 : Nat) : Int)) rfl rfl rfl rfl ?_
     refine L_nil ?_
     refine ⟨xs.length - (k19 + 1), by first | omega | (simp only [List.length_append, List.length_cons, List.length_nil]; omega), ?_⟩
     exact ⟨_, (k19 + 1), (upd_of (upd_of (upd_of (upd_of (upd_of (upd_of (upd_of (upd_of rfl rfl) rfl) rfl) rfl) rfl) rfl) rfl) rfl), hmk12, hst24, (by omega), (eqS_step hf17 (by omega) (by omega) (of_decide_eq_true c80)), rfl⟩
    ·
     have q82 := of_decide_eq_false c80
     refine W_cond_true (by show Value.bool _ = _; exact congrArg Value.bool (by rw [c80]; rfl)) ?_
     refine W_seq ?_
     refine W_region_lit ?_
     refine Lq (.bool false) rfl rfl rfl rfl ?_
     refine L_nil ?_
     refine W_ret ?_
     refine ⟨_, _, res_run (rs := [.tmp 4]) (vs := [(.bool false)]) Tryz.results23 (.cons (.tmp rfl) .nil) hmk12, ?_⟩
     exact ⟨ret_bool (decide_eq_false (eqS_not (by omega) (by omega) (of_decide_eq_false c80))).symm, hst24.grow⟩
   ·
    have q83 := of_decide_eq_false c21
    refine W_cond_false (by show Value.bool _ = _; exact congrArg Value.bool c21) ?_
    refine W_exit ?_
    refine W_seq ?_
    refine W_region_lit ?_
    refine Lq (.bool true) rfl rfl rfl rfl ?_
    refine L_nil ?_
    refine W_ret ?_
    refine ⟨_, _, res_run (rs := [.tmp 4]) (vs := [(.bool true)]) Tryz.results23 (.cons (.tmp rfl) .nil) hmk12, ?_⟩
    exact ⟨ret_bool (decide_eq_true (eqS_all (by omega) (by omega) hf17)).symm, hst13.grow⟩
theorem Name_spec {w : World} (n : Int) :
    Calls Tryz.prog 31 #[int n] w fun e w' => e = .returned (.string (nameOf n)) ∧ Grow w w' := by
 have hst := Step.ro (Le.refl (hp w))
 refine calls_of_W (n := 10) Tryz.func31 rfl Tryz.ntmps31 (Nat.le_of_ble_eq_true rfl) ?_
 refine W_seq ?_
 refine W_region_lit ?_
 refine Lq (.string ⟨#[]⟩) rfl rfl rfl rfl ?_
 refine L_nil ?_
 refine W_seq ?_
 refine W_region_lit ?_
 refine L_new hst (v := fun b => .slice (some ⟨b, 0, none⟩) 6 6) (ob := .cells #[(.string ⟨#[120]⟩), (.string ⟨#[121]⟩), (.string ⟨#[122]⟩), (.string ⟨#[119]⟩), (.string ⟨#[118]⟩), (.string ⟨#[]⟩)] 9 (0, 0)) rfl rfl rfl (by kernel_rfl) (fun b1 w2 hst3 => ?_)
 refine Lq (int n) rfl rfl rfl rfl ?_
 have hb4 := tmod_bd n (m := 6) (by omega)
 refine Lq (int (Int.tmod n 6)) rfl rfl rfl (x_rem rfl rfl rfl (by omega)) ?_
 refine Lq (int (Int.tmod n 6 + 6)) rfl rfl rfl (x_add rfl rfl rfl (by constructor <;> omega)) ?_
 have hb5 := kN_lt n (m := 6) (by omega)
 refine Lq (int (((kN 6 n) : Nat) : Int)) rfl rfl rfl (x_kN rfl rfl rfl (by omega)) ?_
 have hk6_ := kN_lt n (m := 6) (by omega)
 obtain ⟨k6, hk6⟩ : ∃ k_, k_ = kN 6 n := ⟨_, rfl⟩
 rw [← hk6] at hk6_ ⊢
 have h6 : k6 = 0 ∨ k6 = 1 ∨ k6 = 2 ∨ k6 = 3 ∨ k6 = 4 ∨ k6 = 5 := by omega
 rcases h6 with rfl | rfl | rfl | rfl | rfl | rfl
 ·
  refine Lq (ptr b1 0) rfl rfl rfl (x_indexAddr' (k := 0) (len := 6) rfl sl_42 ti_9 rfl rfl (by decide)) ?_
  refine Lq (.string ⟨#[120]⟩) rfl rfl rfl (x_load rfl rfl (run_loadVar_one ti_9 (hst3.b 0) rfl)) ?_
  refine Lq (.string ⟨#[120]⟩) rfl rfl rfl rfl ?_
  refine L_nil ?_
  refine W_ret ?_
  refine ⟨_, _, res_run (rs := [.tmp 2]) (vs := [(.string ⟨#[120]⟩)]) Tryz.results31 (.cons (.tmp rfl) .nil) rfl, ?_⟩
  exact ⟨ret_str (by unfold nameOf; rw [← hk6]; rfl), hst3.grow⟩
 ·
  refine Lq (ptr b1 1) rfl rfl rfl (x_indexAddr' (k := 1) (len := 6) rfl sl_42 ti_9 rfl rfl (by decide)) ?_
  refine Lq (.string ⟨#[121]⟩) rfl rfl rfl (x_load rfl rfl (run_loadVar_one ti_9 (hst3.b 0) rfl)) ?_
  refine Lq (.string ⟨#[121]⟩) rfl rfl rfl rfl ?_
  refine L_nil ?_
  refine W_ret ?_
  refine ⟨_, _, res_run (rs := [.tmp 2]) (vs := [(.string ⟨#[121]⟩)]) Tryz.results31 (.cons (.tmp rfl) .nil) rfl, ?_⟩
  exact ⟨ret_str (by unfold nameOf; rw [← hk6]; rfl), hst3.grow⟩
 ·
  refine Lq (ptr b1 2) rfl rfl rfl (x_indexAddr' (k := 2) (len := 6) rfl sl_42 ti_9 rfl rfl (by decide)) ?_
  refine Lq (.string ⟨#[122]⟩) rfl rfl rfl (x_load rfl rfl (run_loadVar_one ti_9 (hst3.b 0) rfl)) ?_
  refine Lq (.string ⟨#[122]⟩) rfl rfl rfl rfl ?_
  refine L_nil ?_
  refine W_ret ?_
  refine ⟨_, _, res_run (rs := [.tmp 2]) (vs := [(.string ⟨#[122]⟩)]) Tryz.results31 (.cons (.tmp rfl) .nil) rfl, ?_⟩
  exact ⟨ret_str (by unfold nameOf; rw [← hk6]; rfl), hst3.grow⟩
 ·
  refine Lq (ptr b1 3) rfl rfl rfl (x_indexAddr' (k := 3) (len := 6) rfl sl_42 ti_9 rfl rfl (by decide)) ?_
  refine Lq (.string ⟨#[119]⟩) rfl rfl rfl (x_load rfl rfl (run_loadVar_one ti_9 (hst3.b 0) rfl)) ?_
  refine Lq (.string ⟨#[119]⟩) rfl rfl rfl rfl ?_
  refine L_nil ?_
  refine W_ret ?_
  refine ⟨_, _, res_run (rs := [.tmp 2]) (vs := [(.string ⟨#[119]⟩)]) Tryz.results31 (.cons (.tmp rfl) .nil) rfl, ?_⟩
  exact ⟨ret_str (by unfold nameOf; rw [← hk6]; rfl), hst3.grow⟩
 ·
  refine Lq (ptr b1 4) rfl rfl rfl (x_indexAddr' (k := 4) (len := 6) rfl sl_42 ti_9 rfl rfl (by decide)) ?_
  refine Lq (.string ⟨#[118]⟩) rfl rfl rfl (x_load rfl rfl (run_loadVar_one ti_9 (hst3.b 0) rfl)) ?_
  refine Lq (.string ⟨#[118]⟩) rfl rfl rfl rfl ?_
  refine L_nil ?_
  refine W_ret ?_
  refine ⟨_, _, res_run (rs := [.tmp 2]) (vs := [(.string ⟨#[118]⟩)]) Tryz.results31 (.cons (.tmp rfl) .nil) rfl, ?_⟩
  exact ⟨ret_str (by unfold nameOf; rw [← hk6]; rfl), hst3.grow⟩
 ·
  refine Lq (ptr b1 5) rfl rfl rfl (x_indexAddr' (k := 5) (len := 6) rfl sl_42 ti_9 rfl rfl (by decide)) ?_
  refine Lq (.string ⟨#[]⟩) rfl rfl rfl (x_load rfl rfl (run_loadVar_one ti_9 (hst3.b 0) rfl)) ?_
  refine Lq (.string ⟨#[]⟩) rfl rfl rfl rfl ?_
  refine L_nil ?_
  refine W_ret ?_
  refine ⟨_, _, res_run (rs := [.tmp 2]) (vs := [(.string ⟨#[]⟩)]) Tryz.results31 (.cons (.tmp rfl) .nil) rfl, ?_⟩
  exact ⟨ret_str (by unfold nameOf; rw [← hk6]; rfl), hst3.grow⟩
theorem Classes_spec {w : World} {R : Hp} (n : Int) (hs : Sats w R []) :
    Calls Tryz.prog 12 #[int n] w (Comes' w R [] fun v' R' L' => L' = [] ∧ RdS tyCls R' v' (clsOf n)) := by
 have hst := Step.refl hs
 refine calls_of_W (n := 17) Tryz.func12 rfl Tryz.ntmps12 (Nat.le_of_ble_eq_true rfl) ?_
 refine W_seq ?_
 refine W_region_lit ?_
 refine Lq (.slice none 0 0) rfl rfl rfl rfl ?_
 refine L_nil ?_
 refine W_seq ?_
 refine W_region_lit ?_
 refine L_new hst (v := fun b => .slice (some ⟨b, 0, none⟩) 1 1) (ob := .cells #[(.string ⟨#[120]⟩)] 9 (0, 0)) rfl rfl rfl (by kernel_rfl) (fun b1 w2 hst3 => ?_)
 refine Lq (.agg #[(.string ⟨#[80]⟩), (.slice (some ⟨b1, 0, none⟩) 1 1), (.slice none 0 0)]) rfl rfl rfl (by kernel_rfl) ?_
 refine Lq (.agg #[(.string ⟨#[81]⟩), (.slice none 0 0), (.slice none 0 0)]) rfl rfl rfl (by kernel_rfl) ?_
 refine L_new hst3 (v := fun b => .slice (some ⟨b, 0, none⟩) 1 1) (ob := .cells #[(.string ⟨#[120]⟩)] 9 (0, 0)) rfl rfl rfl (by kernel_rfl) (fun b4 w5 hst6 => ?_)
 refine Lq (.agg #[(.string ⟨#[82]⟩), (.slice (some ⟨b4, 0, none⟩) 1 1), (.slice none 0 0)]) rfl rfl rfl (by kernel_rfl) ?_
 refine L_new hst6 (v := fun b => .slice (some ⟨b, 0, none⟩) 3 3) (ob := .cells #[(.string ⟨#[80]⟩), (.slice (some ⟨b1, 0, none⟩) 1 1), (.slice none 0 0), (.string ⟨#[81]⟩), (.slice none 0 0), (.slice none 0 0), (.string ⟨#[82]⟩), (.slice (some ⟨b4, 0, none⟩) 1 1), (.slice none 0 0)] 48 (0, 0)) rfl rfl rfl (by kernel_rfl) (fun b7 w8 hst9 => ?_)
 refine Lq (.slice (some ⟨b7, 0, none⟩) 3 3) rfl rfl rfl rfl ?_
 refine L_nil ?_
 refine W_seq ?_
 refine W_region_lit ?_
 refine Lq (.slice (some ⟨b7, 0, none⟩) 3 3) rfl rfl rfl rfl ?_
 refine Lq (int n) rfl rfl rfl rfl ?_
 have hb10 := tmod_bd n (m := 3) (by omega)
 refine Lq (int (Int.tmod n 3)) rfl rfl rfl (x_rem rfl rfl rfl (by omega)) ?_
 refine Lq (int (Int.tmod n 3 + 3)) rfl rfl rfl (x_add rfl rfl rfl (by constructor <;> omega)) ?_
 have hb11 := kN_lt n (m := 3) (by omega)
 refine Lq (int (((kN 3 n) : Nat) : Int)) rfl rfl rfl (x_kN rfl rfl rfl (by omega)) ?_
 refine Lq (int ((1 + (kN 3 n) : Nat) : Int)) rfl rfl rfl (x_add_nat rfl rfl rfl (by omega)) ?_
 obtain ⟨R12, hst13, hle14, hc15⟩ := Step.frz (hst9.front 2 rfl rfl)
 have hrd16 : RdS Ty.str R12 (.slice (some ⟨b1, 0, none⟩) 1 1) [(⟨#[120]⟩ : Str)] := OwnL.freeze (R := _) (T := 9) (OwnL.lit (cs := [(.string ⟨#[120]⟩)]) (str_mk _ _) rfl (by decide)) (Le.refl _) hc15
 obtain ⟨R17, hst18, hle19, hc20⟩ := Step.frz (hst13.front 1 rfl rfl)
 have hrd21 : RdS Ty.str R17 (.slice (some ⟨b4, 0, none⟩) 1 1) [(⟨#[120]⟩ : Str)] := OwnL.freeze (R := _) (T := 9) (OwnL.lit (cs := [(.string ⟨#[120]⟩)]) (str_mk _ _) rfl (by decide)) (Le.refl _) hc20
 obtain ⟨R22, hst23, hle24, hc25⟩ := Step.frz hst18
 have hrd26 : RdS tyCls R22 (.slice (some ⟨b7, 0, none⟩) 3 3) cls3 := OwnL.freeze (R := R22) (T := 48) (OwnL.lit (cs := [(.string ⟨#[80]⟩), (.slice (some ⟨b1, 0, none⟩) 1 1), (.slice none 0 0), (.string ⟨#[81]⟩), (.slice none 0 0), (.slice none 0 0), (.string ⟨#[82]⟩), (.slice (some ⟨b4, 0, none⟩) 1 1), (.slice none 0 0)]) (Encs.cons (tyCls_mk (RdS.mono hrd16 (Le.trans hle19 hle24))) (Encs.cons (tyCls_mk (fs := []) (RdS.nilv _ _)) (Encs.one (tyCls_mk (RdS.mono hrd21 hle24))))) rfl (by decide)) (Le.refl _) hc25
 have hrd27 := RdS.takeK (k := (1 + (kN 3 n))) (xs := cls3) hrd26 (by have h_ := kN3 n; have : cls3.length = 3 := rfl; omega)
 have hk3 := kN3 n
 refine Lq (.slice (some ⟨b7, 0, none⟩) (1 + (kN 3 n)) 3) rfl rfl rfl (x_slice sl_26 rfl rfl (run_sliceHi sl_26 ti_48 (by omega))) ?_
 refine Lq (.slice (some ⟨b7, 0, none⟩) (1 + (kN 3 n)) 3) rfl rfl rfl rfl ?_
 refine L_nil ?_
 refine W_ret ?_
 refine ⟨_, _, res_run (rs := [.tmp 2]) (vs := [(.slice (some ⟨b7, 0, none⟩) (1 + (kN 3 n)) 3)]) Tryz.results12 (.cons (.tmp rfl) .nil) rfl, ?_⟩
 exact ⟨_, _, _, rfl, hst23, rfl, hrd27⟩
theorem Some_spec {w : World} {R : Hp} (x : Int) (hs : Sats w R []) :
    Calls Tryz.prog 46 #[int x] w (Comes' w R [] fun v' R' L' => ∃ c', L' = [c'] ∧ OwnL Ty.str 9 R' v' (someL x) c') := by
 have hst := Step.refl hs
 refine calls_of_W (n := 18) Tryz.func46 rfl Tryz.ntmps46 (Nat.le_of_ble_eq_true rfl) ?_
 refine W_seq ?_
 refine W_region_lit ?_
 refine Lq (.slice none 0 0) rfl rfl rfl rfl ?_
 refine L_nil ?_
 refine W_seq ?_
 refine W_region_lit ?_
 refine Lq (.slice none 0 0) rfl rfl rfl rfl ?_
 refine L_nil ?_
 refine W_seq ?_
 refine W_seq ?_
 have ho1 : OwnL Ty.str 9 R (.slice none 0 0) ([] : List Str) non := OwnL.empty _ _ _
 have hst2 := hst.nothing
 refine W_region_lit ?_
 refine Lq (int x) rfl rfl rfl rfl ?_
 have hb3 := tmod_bd x (m := 216) (by omega)
 refine Lq (int (Int.tmod x 216)) rfl rfl rfl (x_rem rfl rfl rfl (by omega)) ?_
 refine Lq (int (Int.tmod x 216 + 216)) rfl rfl rfl (x_add rfl rfl rfl (by constructor <;> omega)) ?_
 have hb4 := kN_lt x (m := 216) (by omega)
 refine Lq (int (((kN 216 x) : Nat) : Int)) rfl rfl rfl (x_kN rfl rfl rfl (by omega)) ?_
 refine Lq (int (((kN 216 x) : Nat) : Int)) rfl rfl rfl rfl ?_
 refine L_nil ?_
 refine W_block ?_
 refine W_loop (I := fun σ w_ m_ => ∃ (σ0 : Fr) (R_ : Hp) (k_ : Nat) (v_ : Value) (o_ : List Str) (cO : Hp), σ = upd (upd (upd (upd (upd (upd (upd σ0 0 (int (k_ : Int))) 2 (.slice none 0 0)) 3 v_) 4 (int x)) 5 (int (Int.tmod x 216))) 6 (int (Int.tmod x 216 + 216))) 7 (int (((kN 216 x) : Nat) : Int)) ∧ mks (σ0 0) = [] ∧ Step w R [] w_ R_ [cO] ∧ Le R R_ ∧ OwnL Ty.str 9 R_ v_ o_ cO ∧ o_ ++ someN k_ = someL x ∧ k_ ≤ 216 ∧ m_ = (k_ + 1)) (m := ((kN 216 x) + 1)) ?_ ?_
 ·
  exact ⟨_, _, (kN 216 x), (.slice none 0 0), [], non, (upd_of (upd_of (upd_of (upd_of (upd_of (upd_of (upd_of rfl rfl) rfl) rfl) rfl) rfl) rfl) rfl), rfl, hst2, Le.refl _, ho1, rfl, (by omega), rfl⟩
 ·
  rintro m18 σ_ w7 ⟨s12, R13, k_14, v_15, o_16, cO17, rfl, hmk5, hst6, hle8, hi9, hf10, hf11, rfl⟩
  have hol := someL_len x
  rw [← hf10, List.length_append] at hol
  refine W_seq ?_
  refine W_seq ?_
  refine W_region_lit ?_
  refine Lq (int (k_14 : Int)) rfl rfl rfl rfl ?_
  refine Lq (.bool (decide ((k_14 : Int) > 0))) rfl rfl rfl (by kernel_rfl) ?_
  refine L_nil ?_
  rcases Bool.eq_false_or_eq_true (decide ((k_14 : Int) > 0)) with c19 | c19
  ·
   have q20 := of_decide_eq_true c19
   refine W_cond_true (by show Value.bool _ = _; exact congrArg Value.bool c19) ?_
   refine W_skip ?_
   refine W_seq ?_
   refine W_block ?_
   refine W_region_lit ?_
   refine Lq v_15 rfl rfl rfl rfl ?_
   refine Lq (int (k_14 : Int)) rfl rfl rfl rfl ?_
   refine L_callG hst6 (v := (.string (nameOf (k_14 : Int)))) rfl rfl rfl (x_call (vs := #[(int (k_14 : Int))]) rfl rfl (by kernel_rfl) ent_31) (Name_spec (k_14 : Int)) (fun w21 hst22 => ?_)
   refine L_new hst22 (v := fun b => .slice (some ⟨b, 0, none⟩) 1 1) (ob := .cells #[(.string (nameOf (k_14 : Int)))] 9 (0, 0)) rfl rfl rfl (by kernel_rfl) (fun b23 w24 hst25 => ?_)
   refine L_append hst25 (t := 42) (e := 9) (ys := [(nameOf (k_14 : Int))]) (src := [(.string (nameOf (k_14 : Int)))]) 1 rfl rfl rfl rfl rfl rfl sl_42 ti_9 rfl rfl rfl hi9 (src_own (hst25.b 0)) (str_mk _ _) rfl (by first | omega | (simp only [List.length_append, List.length_cons, List.length_nil]; omega)) (by first | (simp only [maxLen]; omega) | (simp only [List.length_append, List.length_cons, List.length_nil, maxLen]; omega)) (fun v26 c27 w28 ho29 hst30 => ?_)
   refine Lq v26 rfl rfl rfl rfl ?_
   refine L_nil ?_
   refine W_region_lit ?_
   refine Lq (int (k_14 : Int)) rfl rfl rfl rfl ?_
   refine Lq (int (((k_14 / 6) : Nat) : Int)) rfl rfl rfl (x_quo6 rfl rfl rfl (by omega)) ?_
   refine Lq (int (((k_14 / 6) : Nat) : Int)) rfl rfl rfl rfl ?_
   refine L_nil ?_
   refine ⟨((k_14 / 6) + 1), by first | omega | (simp only [List.length_append, List.length_cons, List.length_nil]; omega), ?_⟩
   exact ⟨_, _, (k_14 / 6), v26, (o_16 ++ [(nameOf (k_14 : Int))]), c27, (upd_of (upd_of (upd_of (upd_of (upd_of (upd_of (upd_of rfl rfl) rfl) rfl) rfl) rfl) rfl) rfl), hmk5, (hst30.keepN 1 rfl), hle8, ho29, (someN_app (by omega) hf10), (by omega), rfl⟩
  ·
   have q31 := of_decide_eq_false c19
   refine W_cond_false (by show Value.bool _ = _; exact congrArg Value.bool c19) ?_
   refine W_exit ?_
   refine W_seq ?_
   refine W_region_lit ?_
   refine Lq v_15 rfl rfl rfl rfl ?_
   refine Lq v_15 rfl rfl rfl rfl ?_
   refine L_nil ?_
   refine W_ret ?_
   refine ⟨_, _, res_run (rs := [.tmp 2]) (vs := [v_15]) Tryz.results46 (.cons (.tmp rfl) .nil) hmk5, ?_⟩
   have hk0_ : k_14 = 0 := by omega
   have he_ := hf10
   rw [hk0_, someN_zero, List.append_nil] at he_
   exact ⟨_, _, _, rfl, (hst6).keepN 1 rfl, _, rfl, by rw [← he_]; exact hi9⟩
set_option maxHeartbeats 1000000 in
theorem do_spec {w : World} {R c : Hp} {p : Nat} {s : TS} (a : Ac) (n : Nat) (hs : Sats w R [c]) (htree : Tree R p s c) (hmx : s.nodes.length ≤ 900000) (hn : n ≤ 1000000) :
    Calls Tryz.prog 16 #[ptr p 0, .agg #[int a.what, int a.x, int a.y, int a.nm], int (n : Int)] w (Comes' w R [c] fun v' R' L' => ∃ c', v' = .tuple #[int (s.act a n).1, int (s.act a n).2.1] ∧ L' = [c'] ∧ Tree R' p (s.act a n).2.2 c') := by
 have hst := Step.refl hs
 refine calls_of_W (n := 77) Tryz.func16 rfl Tryz.ntmps16 (Nat.le_of_ble_eq_true rfl) ?_
 refine W_seq ?_
 refine W_region_lit ?_
 refine L_new hst (v := fun b => ptr b 0) (ob := .cells #[(int a.what), (int a.x), (int a.y), (int a.nm)] 35 (0, 0)) rfl rfl rfl (by kernel_rfl) (fun b1 w2 hst3 => ?_)
 refine Lq (int 0) rfl rfl rfl rfl ?_
 refine Lq (int 0) rfl rfl rfl rfl ?_
 refine L_nil ?_
 refine W_seq ?_
 refine W_region_lit ?_
 refine Lq (int (n : Int)) rfl rfl rfl rfl ?_
 refine Lq (int ((n + 1 : Nat) : Int)) rfl rfl rfl (x_add_nat rfl rfl rfl (by omega)) ?_
 refine Lq (int ((n + 1 : Nat) : Int)) rfl rfl rfl rfl ?_
 refine L_nil ?_
 refine W_seq ?_
 refine W_region_draw [] (fun w => Le R (hp w) ∧ Le (one b1 (.cells #[(int a.what), (int a.x), (int a.y), (int a.nm)] 35 (0, 0))) (hp w) ∧ Le c (hp w)) hmix (by decide +kernel) (fun _ _ h => h) ?_
 have hst5 := hst3.draws (w2.drawn + 1)
 generalize draws w2 (w2.drawn + 1) = w4 at hst5 ⊢
 refine LP (ptr b1 1) 0 rfl rfl rfl (fun u7 => (by kernel_rfl)) hst5.a2 ?_
 refine LT (int a.x) 1 rfl rfl rfl (fun u10 hF11 => (x_load rfl rfl (run_loadVar_one ti_3 (hF11.2.1 _ _ (one_self _ _)) rfl))) hst5.a2 ?_
 refine LP (int ((n + 1 : Nat) : Int)) 2 rfl rfl rfl (fun u13 => rfl) hst5.a2 ?_
 have hb18 := tmod_bd a.x (m := ((n + 1 : Nat) : Int)) (by omega)
 refine LP (int (Int.tmod a.x ((n + 1 : Nat) : Int))) 3 rfl rfl rfl (fun u16 => (x_rem rfl rfl rfl (by omega))) hst5.a2 ?_
 refine LP (int ((n + 1 : Nat) : Int)) 4 rfl rfl rfl (fun u20 => rfl) hst5.a2 ?_
 refine LP (int (Int.tmod a.x ((n + 1 : Nat) : Int) + ((n + 1 : Nat) : Int))) 5 rfl rfl rfl (fun u23 => (x_add rfl rfl rfl (by constructor <;> omega))) hst5.a2 ?_
 refine LP (int ((n + 1 : Nat) : Int)) 6 rfl rfl rfl (fun u26 => rfl) hst5.a2 ?_
 have hb31 := kN_lt a.x (m := ((n + 1 : Nat) : Int)) (by omega)
 refine LP (int (((kN ((n + 1 : Nat) : Int) a.x) : Nat) : Int)) 7 rfl rfl rfl (fun u29 => (x_kN rfl rfl rfl (by omega))) hst5.a2 ?_
 refine LP (int ((((kN ((n + 1 : Nat) : Int) a.x) : Nat) : Int) - 1)) 8 rfl rfl rfl (fun u33 => (x_sub rfl rfl rfl (by constructor <;> omega))) hst5.a2 ?_
 refine LP (ptr b1 2) 9 rfl rfl rfl (fun u36 => (by kernel_rfl)) hst5.a2 ?_
 refine LT (int a.y) 10 rfl rfl rfl (fun u39 hF40 => (x_load rfl rfl (run_loadVar_one ti_3 (hF40.2.1 _ _ (one_self _ _)) rfl))) hst5.a2 ?_
 have hb44 := and1_bd a.y
 refine LP (int (and1 a.y)) 11 rfl rfl rfl (fun u42 => (x_and1 rfl rfl rfl)) hst5.a2 ?_
 refine LP (int ((((kN ((n + 1 : Nat) : Int) a.x) : Nat) : Int) - 1 + and1 a.y)) 12 rfl rfl rfl (fun u46 => (x_add rfl rfl rfl (by constructor <;> omega))) hst5.a2 ?_
 refine LP (int ((((kN ((n + 1 : Nat) : Int) a.x) : Nat) : Int) - 1 + and1 a.y)) 13 rfl rfl rfl (fun u49 => rfl) hst5.a2 ?_
 refine LA_done (by decide +kernel) ?_
 refine W_seq ?_
 refine W_region_draw [] (fun w => Le R (hp w) ∧ Le (one b1 (.cells #[(int a.what), (int a.x), (int a.y), (int a.nm)] 35 (0, 0))) (hp w) ∧ Le c (hp w)) hmix (by decide +kernel) (fun _ _ h => h) ?_
 have hst52 := hst5.draws (w4.drawn + 1)
 generalize draws w4 (w4.drawn + 1) = w51 at hst52 ⊢
 refine LP (ptr b1 2) 0 rfl rfl rfl (fun u54 => (by kernel_rfl)) hst52.a2 ?_
 refine LT (int a.y) 1 rfl rfl rfl (fun u57 hF58 => (x_load rfl rfl (run_loadVar_one ti_3 (hF58.2.1 _ _ (one_self _ _)) rfl))) hst52.a2 ?_
 refine LP (int ((n + 1 : Nat) : Int)) 2 rfl rfl rfl (fun u60 => rfl) hst52.a2 ?_
 have hb65 := tmod_bd a.y (m := ((n + 1 : Nat) : Int)) (by omega)
 refine LP (int (Int.tmod a.y ((n + 1 : Nat) : Int))) 3 rfl rfl rfl (fun u63 => (x_rem rfl rfl rfl (by omega))) hst52.a2 ?_
 refine LP (int ((n + 1 : Nat) : Int)) 4 rfl rfl rfl (fun u67 => rfl) hst52.a2 ?_
 refine LP (int (Int.tmod a.y ((n + 1 : Nat) : Int) + ((n + 1 : Nat) : Int))) 5 rfl rfl rfl (fun u70 => (x_add rfl rfl rfl (by constructor <;> omega))) hst52.a2 ?_
 refine LP (int ((n + 1 : Nat) : Int)) 6 rfl rfl rfl (fun u73 => rfl) hst52.a2 ?_
 have hb78 := kN_lt a.y (m := ((n + 1 : Nat) : Int)) (by omega)
 refine LP (int (((kN ((n + 1 : Nat) : Int) a.y) : Nat) : Int)) 7 rfl rfl rfl (fun u76 => (x_kN rfl rfl rfl (by omega))) hst52.a2 ?_
 refine LP (int ((((kN ((n + 1 : Nat) : Int) a.y) : Nat) : Int) - 1)) 8 rfl rfl rfl (fun u80 => (x_sub rfl rfl rfl (by constructor <;> omega))) hst52.a2 ?_
 refine LP (ptr b1 1) 9 rfl rfl rfl (fun u83 => (by kernel_rfl)) hst52.a2 ?_
 refine LT (int a.x) 10 rfl rfl rfl (fun u86 hF87 => (x_load rfl rfl (run_loadVar_one ti_3 (hF87.2.1 _ _ (one_self _ _)) rfl))) hst52.a2 ?_
 have hb91 := and1_bd a.x
 refine LP (int (and1 a.x)) 11 rfl rfl rfl (fun u89 => (x_and1 rfl rfl rfl)) hst52.a2 ?_
 refine LP (int ((((kN ((n + 1 : Nat) : Int) a.y) : Nat) : Int) - 1 + and1 a.x)) 12 rfl rfl rfl (fun u93 => (x_add rfl rfl rfl (by constructor <;> omega))) hst52.a2 ?_
 refine LP (int ((((kN ((n + 1 : Nat) : Int) a.y) : Nat) : Int) - 1 + and1 a.x)) 13 rfl rfl rfl (fun u96 => rfl) hst52.a2 ?_
 refine LA_done (by decide +kernel) ?_
 refine W_seq ?_
 refine W_seq ?_
 refine W_region_lit ?_
 refine Lq (ptr b1 0) rfl rfl rfl (by kernel_rfl) ?_
 refine Lq (int a.what) rfl rfl rfl (x_load rfl rfl (run_loadVar_one ti_3 (hst52.b 0) rfl)) ?_
 have hb98 := tmod_bd a.what (m := 7) (by omega)
 refine Lq (int (Int.tmod a.what 7)) rfl rfl rfl (x_rem rfl rfl rfl (by omega)) ?_
 refine Lq (int (Int.tmod a.what 7 + 7)) rfl rfl rfl (x_add rfl rfl rfl (by constructor <;> omega)) ?_
 have hb99 := kN_lt a.what (m := 7) (by omega)
 refine Lq (int (((kN 7 a.what) : Nat) : Int)) rfl rfl rfl (x_kN rfl rfl rfl (by omega)) ?_
 refine L_nil ?_
 refine W_block ?_
 refine W_seq ?_
 refine W_region_lit ?_
 refine Lq (.bool ((((kN 7 a.what) : Nat) : Int) == 4)) rfl rfl rfl (by kernel_rfl) ?_
 refine Lq (.bool ((((kN 7 a.what) : Nat) : Int) == 4)) rfl rfl rfl rfl ?_
 refine L_nil ?_
 rcases Bool.eq_false_or_eq_true ((((kN 7 a.what) : Nat) : Int) == 4) with c100 | c100
 ·
  have q101 := eq_of_beq c100
  refine W_cond_true (by show Value.bool _ = _; exact congrArg Value.bool c100) ?_
  refine W_seq ?_
  refine W_region_lit ?_
  refine Lq (ptr p 0) rfl rfl rfl rfl ?_
  refine Lq (int ((((kN ((n + 1 : Nat) : Int) a.x) : Nat) : Int) - 1 + and1 a.y)) rfl rfl rfl rfl ?_
  refine Lq (int ((((kN ((n + 1 : Nat) : Int) a.y) : Nat) : Int) - 1 + and1 a.x)) rfl rfl rfl rfl ?_
  have hst102 := (hst52.front 1 rfl rfl)
  refine L_callS [c] [one b1 (.cells #[(int a.what), (int a.x), (int a.y), (int a.nm)] 35 (0, 0))] hst102 rfl rfl rfl (x_call (vs := #[(ptr p 0), (int ((((kN ((n + 1 : Nat) : Int) a.x) : Nat) : Int) - 1 + and1 a.y)), (int ((((kN ((n + 1 : Nat) : Int) a.y) : Nat) : Int) - 1 + and1 a.x))]) rfl rfl (by kernel_rfl) ent_27) (Merge_spec ((((kN ((n + 1 : Nat) : Int) a.x) : Nat) : Int) - 1 + and1 a.y) ((((kN ((n + 1 : Nat) : Int) a.y) : Nat) : Int) - 1 + and1 a.x) (hst102.sats.take 1 rfl) htree) (fun v103 w104 R105 L106 hp107 hle108 hst109 => ?_)
  obtain ⟨c110, rfl, rfl, htr111⟩ := hp107
  refine Lq (int 0) rfl rfl rfl rfl ?_
  refine Lq (int ((s.merge ((((kN ((n + 1 : Nat) : Int) a.x) : Nat) : Int) - 1 + and1 a.y) ((((kN ((n + 1 : Nat) : Int) a.y) : Nat) : Int) - 1 + and1 a.x)).1)) rfl rfl rfl rfl ?_
  refine L_nil ?_
  refine W_ret ?_
  refine ⟨_, _, res_run (rs := [.tmp 6, .tmp 7]) (vs := [(int 0), (int ((s.merge ((((kN ((n + 1 : Nat) : Int) a.x) : Nat) : Int) - 1 + and1 a.y) ((((kN ((n + 1 : Nat) : Int) a.y) : Nat) : Int) - 1 + and1 a.x)).1))]) Tryz.results16 (.cons (.tmp rfl) (.cons (.tmp rfl) .nil)) rfl, ?_⟩
  have he := act_merge (s := s) (a := a) (n := n) (eq_of_beq c100)
  rw [he]
  exact ⟨_, _, _, rfl, (hst109).keepN 1 rfl, _, rfl, rfl, htr111⟩
 ·
  have q112 := ne_of_beq_false c100
  refine W_cond_false (by show Value.bool _ = _; exact congrArg Value.bool c100) ?_
  refine W_seq ?_
  refine W_region_lit ?_
  refine Lq (.bool ((((kN 7 a.what) : Nat) : Int) == 5)) rfl rfl rfl (by kernel_rfl) ?_
  refine Lq (.bool ((((kN 7 a.what) : Nat) : Int) == 5)) rfl rfl rfl rfl ?_
  refine L_nil ?_
  rcases Bool.eq_false_or_eq_true ((((kN 7 a.what) : Nat) : Int) == 5) with c113 | c113
  ·
   have q114 := eq_of_beq c113
   refine W_cond_true (by show Value.bool _ = _; exact congrArg Value.bool c113) ?_
   refine W_seq ?_
   refine W_region_lit ?_
   refine Lq (ptr p 0) rfl rfl rfl rfl ?_
   refine Lq (int ((((kN ((n + 1 : Nat) : Int) a.x) : Nat) : Int) - 1 + and1 a.y)) rfl rfl rfl rfl ?_
   have hst115 := (hst52.front 1 rfl rfl)
   refine L_callS [c] [one b1 (.cells #[(int a.what), (int a.x), (int a.y), (int a.nm)] 35 (0, 0))] hst115 rfl rfl rfl (x_call (vs := #[(ptr p 0), (int ((((kN ((n + 1 : Nat) : Int) a.x) : Nat) : Int) - 1 + and1 a.y))]) rfl rfl (by kernel_rfl) ent_38) (Split_spec ((((kN ((n + 1 : Nat) : Int) a.x) : Nat) : Int) - 1 + and1 a.y) (hst115.sats.take 1 rfl) htree (by omega)) (fun v116 w117 R118 L119 hp120 hle121 hst122 => ?_)
   obtain ⟨c123, rfl, rfl, htr124⟩ := hp120
   refine Lq (int ((s.split ((((kN ((n + 1 : Nat) : Int) a.x) : Nat) : Int) - 1 + and1 a.y)).1)) rfl rfl rfl (by kernel_rfl) ?_
   refine Lq (int ((s.split ((((kN ((n + 1 : Nat) : Int) a.x) : Nat) : Int) - 1 + and1 a.y)).2.1)) rfl rfl rfl (by kernel_rfl) ?_
   refine Lq (int ((s.split ((((kN ((n + 1 : Nat) : Int) a.x) : Nat) : Int) - 1 + and1 a.y)).1)) rfl rfl rfl rfl ?_
   refine Lq (int ((s.split ((((kN ((n + 1 : Nat) : Int) a.x) : Nat) : Int) - 1 + and1 a.y)).2.1)) rfl rfl rfl rfl ?_
   refine L_nil ?_
   refine W_ret ?_
   refine ⟨_, _, res_run (rs := [.tmp 6, .tmp 7]) (vs := [(int ((s.split ((((kN ((n + 1 : Nat) : Int) a.x) : Nat) : Int) - 1 + and1 a.y)).1)), (int ((s.split ((((kN ((n + 1 : Nat) : Int) a.x) : Nat) : Int) - 1 + and1 a.y)).2.1))]) Tryz.results16 (.cons (.tmp rfl) (.cons (.tmp rfl) .nil)) rfl, ?_⟩
   have he := act_split (s := s) (a := a) (n := n) (ne_of_beq_false c100) (eq_of_beq c113)
   rw [he]
   exact ⟨_, _, _, rfl, (hst122).keepN 1 rfl, _, rfl, rfl, htr124⟩
  ·
   have q125 := ne_of_beq_false c113
   refine W_cond_false (by show Value.bool _ = _; exact congrArg Value.bool c113) ?_
   refine W_seq ?_
   refine W_region_lit ?_
   refine Lq (.bool ((((kN 7 a.what) : Nat) : Int) == 6)) rfl rfl rfl (by kernel_rfl) ?_
   refine Lq (.bool ((((kN 7 a.what) : Nat) : Int) == 6)) rfl rfl rfl rfl ?_
   refine L_nil ?_
   rcases Bool.eq_false_or_eq_true ((((kN 7 a.what) : Nat) : Int) == 6) with c126 | c126
   ·
    have q127 := eq_of_beq c126
    refine W_cond_true (by show Value.bool _ = _; exact congrArg Value.bool c126) ?_
    refine W_seq ?_
    refine W_region_draw [] (fun w => Le R (hp w) ∧ Le (one b1 (.cells #[(int a.what), (int a.x), (int a.y), (int a.nm)] 35 (0, 0))) (hp w)) hmix (by decide +kernel) (fun _ _ h => h) ?_
    have hst129 := hst52.draws (w51.drawn + 1)
    generalize draws w51 (w51.drawn + 1) = w128 at hst129 ⊢
    refine LP (ptr p 0) 0 rfl rfl rfl (fun u131 => rfl) ⟨hst129.rle', hst129.g 0⟩ ?_
    refine LP (ptr b1 2) 1 rfl rfl rfl (fun u134 => (by kernel_rfl)) ⟨hst129.rle', hst129.g 0⟩ ?_
    refine LT (int a.y) 2 rfl rfl rfl (fun u137 hF138 => (x_load rfl rfl (run_loadVar_one ti_3 (hF138.2 _ _ (one_self _ _)) rfl))) ⟨hst129.rle', hst129.g 0⟩ ?_
    have hb142 := tmod_bd a.y (m := 3) (by omega)
    refine LP (int (Int.tmod a.y 3)) 3 rfl rfl rfl (fun u140 => (x_rem rfl rfl rfl (by omega))) ⟨hst129.rle', hst129.g 0⟩ ?_
    refine LP (ptr b1 1) 4 rfl rfl rfl (fun u144 => (by kernel_rfl)) ⟨hst129.rle', hst129.g 0⟩ ?_
    refine LT (int a.x) 5 rfl rfl rfl (fun u147 hF148 => (x_load rfl rfl (run_loadVar_one ti_3 (hF148.2 _ _ (one_self _ _)) rfl))) ⟨hst129.rle', hst129.g 0⟩ ?_
    refine LA_all [6] (by decide +kernel) (by simp) ?_
    intro i_ hi_
    simp only [List.mem_cons, List.not_mem_nil, or_false] at hi_
    subst hi_
    have hst152 := hst129
    refine One_callS (i := 6) [] [one b1 (.cells #[(int a.what), (int a.x), (int a.y), (int a.nm)] 35 (0, 0)), c] hst152 rfl rfl rfl (Want.plain rfl) (x_call (vs := #[(int a.x)]) rfl rfl (by kernel_rfl) ent_46) (Some_spec a.x (hst152.sats.take 0 rfl)) (fun v153 w154 R155 L156 hp157 hle158 hst159 => ?_)
    have hm160 := Tree.lift htree hle158
    obtain ⟨c161, rfl, ho162⟩ := hp157
    refine ⟨(fun _ => ⟨(Le.trans hle158 hst159.rle'), hst159.g 1⟩), ?_⟩
    refine LA_all [7] (by decide +kernel) (by simp) ?_
    intro i_ hi_
    simp only [List.mem_cons, List.not_mem_nil, or_false] at hi_
    subst hi_
    obtain ⟨R166, hst167, hle168, hc169⟩ := Step.frz hst159
    have hm170 := Tree.lift hm160 hle168
    have hrd171 := OwnL.freeze ho162 hle168 hc169
    have hst172 := (hst167.front 1 rfl rfl)
    refine One_callS (i := 7) [c] [one b1 (.cells #[(int a.what), (int a.x), (int a.y), (int a.nm)] 35 (0, 0))] hst172 rfl rfl rfl (Want.plain rfl) (x_call (vs := #[(ptr p 0), (int (Int.tmod a.y 3)), v153]) rfl rfl (by kernel_rfl) ent_29) (Make_spec (v := v153) (Int.tmod a.y 3) (someL a.x) (hst172.sats.take 1 rfl) hm170 hrd171 (by have h_ := someL_len a.x; omega) (by omega)) (fun v173 w174 R175 L176 hp177 hle178 hst179 => ?_)
    obtain ⟨c180, rfl, rfl, htr181⟩ := hp177
    refine ⟨(fun _ => ⟨(Le.trans hle158 (Le.trans hle168 (Le.trans hle178 hst179.rle'))), hst179.g 1⟩), ?_⟩
    refine LP (int ((s.make (Int.tmod a.y 3) (someL a.x)).1)) 8 rfl rfl rfl (fun u183 => (by kernel_rfl)) ⟨(Le.trans hle158 (Le.trans hle168 (Le.trans hle178 hst179.rle'))), hst179.g 1⟩ ?_
    refine LP (int ((s.make (Int.tmod a.y 3) (someL a.x)).2.1)) 9 rfl rfl rfl (fun u186 => (by kernel_rfl)) ⟨(Le.trans hle158 (Le.trans hle168 (Le.trans hle178 hst179.rle'))), hst179.g 1⟩ ?_
    refine LP (int ((s.make (Int.tmod a.y 3) (someL a.x)).1)) 10 rfl rfl rfl (fun u189 => rfl) ⟨(Le.trans hle158 (Le.trans hle168 (Le.trans hle178 hst179.rle'))), hst179.g 1⟩ ?_
    refine LP (int ((s.make (Int.tmod a.y 3) (someL a.x)).2.1)) 11 rfl rfl rfl (fun u192 => rfl) ⟨(Le.trans hle158 (Le.trans hle168 (Le.trans hle178 hst179.rle'))), hst179.g 1⟩ ?_
    refine LA_done (by decide +kernel) ?_
    refine W_ret ?_
    refine ⟨_, _, res_run (rs := [.tmp 6, .tmp 7]) (vs := [(int ((s.make (Int.tmod a.y 3) (someL a.x)).1)), (int ((s.make (Int.tmod a.y 3) (someL a.x)).2.1))]) Tryz.results16 (.cons (.tmp rfl) (.cons (.tmp rfl) .nil)) rfl, ?_⟩
    have he := act_make (s := s) (a := a) (n := n) (ne_of_beq_false c100) (ne_of_beq_false c113) (eq_of_beq c126)
    rw [he]
    exact ⟨_, _, _, rfl, (hst179).keepN 1 rfl, _, rfl, rfl, htr181⟩
   ·
    have q194 := ne_of_beq_false c126
    refine W_cond_false (by show Value.bool _ = _; exact congrArg Value.bool c126) ?_
    refine W_skip ?_
    refine W_seq ?_
    refine W_region_lit ?_
    refine Lq (ptr p 0) rfl rfl rfl rfl ?_
    refine Lq (int ((((kN ((n + 1 : Nat) : Int) a.x) : Nat) : Int) - 1 + and1 a.y)) rfl rfl rfl rfl ?_
    refine Lq (ptr b1 3) rfl rfl rfl (by kernel_rfl) ?_
    refine Lq (int a.nm) rfl rfl rfl (x_load rfl rfl (run_loadVar_one ti_3 (hst52.b 0) rfl)) ?_
    refine L_callG hst52 (v := (.string (nameOf a.nm))) rfl rfl rfl (x_call (vs := #[(int a.nm)]) rfl rfl (by kernel_rfl) ent_31) (Name_spec a.nm) (fun w195 hst196 => ?_)
    have hst197 := (hst196.front 1 rfl rfl)
    refine L_callS [c] [one b1 (.cells #[(int a.what), (int a.x), (int a.y), (int a.nm)] 35 (0, 0))] hst197 rfl rfl rfl (x_call (vs := #[(ptr p 0), (int ((((kN ((n + 1 : Nat) : Int) a.x) : Nat) : Int) - 1 + and1 a.y)), (.string (nameOf a.nm))]) rfl rfl (by kernel_rfl) ent_28) (Add_spec ((((kN ((n + 1 : Nat) : Int) a.x) : Nat) : Int) - 1 + and1 a.y) (nameOf a.nm) (hst197.sats.take 1 rfl) htree (by omega)) (fun v198 w199 R200 L201 hp202 hle203 hst204 => ?_)
    obtain ⟨c205, rfl, rfl, htr206⟩ := hp202
    refine Lq (int ((s.add ((((kN ((n + 1 : Nat) : Int) a.x) : Nat) : Int) - 1 + and1 a.y) (nameOf a.nm)).1)) rfl rfl rfl (by kernel_rfl) ?_
    refine Lq (int ((s.add ((((kN ((n + 1 : Nat) : Int) a.x) : Nat) : Int) - 1 + and1 a.y) (nameOf a.nm)).2.1)) rfl rfl rfl (by kernel_rfl) ?_
    refine Lq (int ((s.add ((((kN ((n + 1 : Nat) : Int) a.x) : Nat) : Int) - 1 + and1 a.y) (nameOf a.nm)).1)) rfl rfl rfl rfl ?_
    refine Lq (int ((s.add ((((kN ((n + 1 : Nat) : Int) a.x) : Nat) : Int) - 1 + and1 a.y) (nameOf a.nm)).2.1)) rfl rfl rfl rfl ?_
    refine L_nil ?_
    refine W_ret ?_
    refine ⟨_, _, res_run (rs := [.tmp 6, .tmp 7]) (vs := [(int ((s.add ((((kN ((n + 1 : Nat) : Int) a.x) : Nat) : Int) - 1 + and1 a.y) (nameOf a.nm)).1)), (int ((s.add ((((kN ((n + 1 : Nat) : Int) a.x) : Nat) : Int) - 1 + and1 a.y) (nameOf a.nm)).2.1))]) Tryz.results16 (.cons (.tmp rfl) (.cons (.tmp rfl) .nil)) rfl, ?_⟩
    have he := act_add (s := s) (a := a) (n := n) (ne_of_beq_false c100) (ne_of_beq_false c113) (ne_of_beq_false c126)
    rw [he]
    exact ⟨_, _, _, rfl, (hst204).keepN 1 rfl, _, rfl, rfl, htr206⟩
end Go.Fx.YtjpdhfhiimbpgaaGreatDoor
set_option linter.unusedSimpArgs false
set_option linter.unusedVariables false
set_option linter.unusedSectionVars false
namespace Go.Fx.YtjpdhfhiimbpgaaGreatDoor
open Go Go.Fx Go.Proofs
set_option maxRecDepth 20000
def T0 : TS := newTS (clsOf 0)
def T1 : TS := (T0.add 0 ⟨#[121]⟩).2.2
def T2 : TS := (T1.add 0 ⟨#[121]⟩).2.2
def T3 : TS := (T2.add 0 ⟨#[120]⟩).2.2
def T4 : TS := (T3.split 1).2.2
def T5 : TS := (T4.add 0 ⟨#[121]⟩).2.2
def T6 : TS := (T5.merge 2 1).2
def T7 : TS := (T6.split 0).2.2
def T8 : TS := (T7.add 0 ⟨#[121]⟩).2.2
def T9 : TS := (T8.make 0 [⟨#[120]⟩]).2.2
def T10 : TS := (T9.make 0 [⟨#[113]⟩]).2.2
def txt8 : Str := ⟨(textT T8).toArray⟩
theorem T8_ne : T8.nodes ≠ [] := by
  intro h
  have := congrArg List.length h
  revert this
  decide +kernel
theorem T8_nice : Nice T8 where
  nodes := by decide +kernel
  roots := by decide +kernel
  cls := by decide +kernel
  names := by decide +kernel
  sizes := by decide +kernel
  next := by decide +kernel
  keys := by decide +kernel
theorem T8_text : txt8 = ⟨#[114, 111, 111, 116, 115, 32, 51, 10, 48, 32, 48, 32, 120, 32, 62, 32, 121, 58, 50, 10, 49, 32, 48, 32, 120, 32, 121, 32, 61, 32, 50, 10, 50, 32, 48, 32, 120, 32, 121, 32, 62, 10, 51, 32, 48, 32, 120, 32, 62, 10]⟩ := by decide +kernel
end Go.Fx.YtjpdhfhiimbpgaaGreatDoor
set_option linter.unusedSimpArgs false
set_option linter.unusedVariables false
namespace Go.Fx.YtjpdhfhiimbpgaaGreatDoor
open Go Go.Fx Go.Proofs
set_option maxRecDepth 20000
theorem ent_14 : Ent Tryz.prog 14 := fun _ _ => by kernel_rfl
set_option maxHeartbeats 2000000 in
theorem sanity_spec {w : World} :
    Calls Tryz.prog 10 #[] w fun e w' => e = .returned (.bool true) ∧ Grow w w' := by
 have hst := Step.ro (Le.refl (hp w))
 refine calls_of_W (n := 170) Tryz.func10 rfl Tryz.ntmps10 (Nat.le_of_ble_eq_true rfl) ?_
 refine W_seq ?_
 refine W_region_lit ?_
 refine Lq (.bool false) rfl rfl rfl rfl ?_
 refine L_nil ?_
 refine W_seq ?_
 refine W_region_lit ?_
 have hst1 := hst
 refine L_callS [] [] hst1 rfl rfl rfl (x_call (vs := #[(int 0)]) rfl rfl (by kernel_rfl) ent_12) (Classes_spec 0 (hst1.sats.take 0 rfl)) (fun v2 w3 R4 L5 hp6 hle7 hst8 => ?_)
 obtain ⟨rfl, hrd9⟩ := hp6
 have hcl10 : (clsOf 0).length = 1 + kN 3 0 := clsOf_len _
 have hcl11 := kN3 0
 have hfs : ∀ x ∈ clsOf 0, x.fields.length ≤ 64 := fun x hx => Nat.le_trans (clsOf_mem hx).1 (by decide)
 obtain ⟨a12, cap13, e14, hc15⟩ := hrd9.shape
 subst e14
 have hst16 := hst8
 refine L_callS [] [] hst16 rfl rfl rfl (x_call (vs := #[(.slice a12 ((clsOf 0).length) cap13)]) rfl rfl (by kernel_rfl) ent_11) (New_spec (v := (.slice a12 ((clsOf 0).length) cap13)) (hst16.sats.take 0 rfl) (RdS.mono hrd9 (Le.refl _)) (by omega) (fun x_ hx_ => Nat.le_trans (clsOf_mem hx_).1 (by decide))) (fun v17 w18 R19 L20 hp21 hle22 hst23 => ?_)
 obtain ⟨p24, c25, rfl, rfl, htr26⟩ := hp21
 change Tree _ _ T0 _ at htr26
 refine Lq (ptr p24 0) rfl rfl rfl rfl ?_
 refine L_nil ?_
 refine W_seq ?_
 refine W_seq ?_
 refine W_region_lit ?_
 refine Lq (ptr p24 0) rfl rfl rfl rfl ?_
 refine Lq (.bool false) rfl rfl rfl (by kernel_rfl) ?_
 refine Lq (.bool false) rfl rfl rfl rfl ?_
 refine L_guard rfl rfl rfl rfl rfl ?_
 refine Lq (ptr p24 0) rfl rfl rfl rfl ?_
 refine L_guard rfl rfl rfl rfl rfl ?_
 refine L_callG hst23 (v := (int (rootL T0.nodes T0.roots 0))) rfl rfl rfl (x_call (vs := #[(ptr p24 0), (int 0)]) rfl rfl (by kernel_rfl) ent_26) (Root_spec 0 (Tree.view htr26 (hst23.g 0) hst23.rle') (Le.refl _)) (fun w27 hst28 => ?_)
 refine L_guard rfl rfl rfl rfl rfl ?_
 refine Lq (.bool ((rootL T0.nodes T0.roots 0) != 0)) rfl rfl rfl (by kernel_rfl) ?_
 refine Lq (.bool ((rootL T0.nodes T0.roots 0) != 0)) rfl rfl rfl rfl ?_
 refine L_nil ?_
 have c29 : ((rootL T0.nodes T0.roots 0) != 0) = false := (by decide +kernel)
 have q30 : rootL T0.nodes T0.roots 0 = 0 := by simpa using c29
 refine W_cond_false (by show Value.bool _ = _; exact congrArg Value.bool c29) ?_
 refine W_skip ?_
 refine W_seq ?_
 refine W_region_lit ?_
 refine Lq (ptr p24 0) rfl rfl rfl rfl ?_
 have hst31 := hst28
 refine L_callS [c25] [] hst31 rfl rfl rfl (x_call (vs := #[(ptr p24 0), (int 0), (.string ⟨#[121]⟩)]) rfl rfl (by kernel_rfl) ent_28) (Add_spec 0 ⟨#[121]⟩ (hst31.sats.take 1 rfl) htr26 (by decide +kernel)) (fun v32 w33 R34 L35 hp36 hle37 hst38 => ?_)
 obtain ⟨c39, rfl, rfl, htr40⟩ := hp36
 change Tree _ _ T1 _ at htr40
 refine Lq (.tuple #[(int ((T0.add 0 ⟨#[121]⟩).1)), (int ((T0.add 0 ⟨#[121]⟩).2.1))]) rfl rfl rfl rfl ?_
 refine Lq (int ((T0.add 0 ⟨#[121]⟩).1)) rfl rfl rfl (by kernel_rfl) ?_
 refine Lq (int ((T0.add 0 ⟨#[121]⟩).2.1)) rfl rfl rfl (by kernel_rfl) ?_
 refine Lq (int ((T0.add 0 ⟨#[121]⟩).1)) rfl rfl rfl rfl ?_
 refine Lq (int ((T0.add 0 ⟨#[121]⟩).2.1)) rfl rfl rfl rfl ?_
 refine L_nil ?_
 refine W_seq ?_
 refine W_region_lit ?_
 refine Lq (ptr p24 0) rfl rfl rfl rfl ?_
 have hst41 := hst38
 refine L_callS [c39] [] hst41 rfl rfl rfl (x_call (vs := #[(ptr p24 0), (int 0), (.string ⟨#[121]⟩)]) rfl rfl (by kernel_rfl) ent_28) (Add_spec 0 ⟨#[121]⟩ (hst41.sats.take 1 rfl) htr40 (by decide +kernel)) (fun v42 w43 R44 L45 hp46 hle47 hst48 => ?_)
 obtain ⟨c49, rfl, rfl, htr50⟩ := hp46
 change Tree _ _ T2 _ at htr50
 refine Lq (.tuple #[(int ((T1.add 0 ⟨#[121]⟩).1)), (int ((T1.add 0 ⟨#[121]⟩).2.1))]) rfl rfl rfl rfl ?_
 refine Lq (int ((T1.add 0 ⟨#[121]⟩).1)) rfl rfl rfl (by kernel_rfl) ?_
 refine Lq (int ((T1.add 0 ⟨#[121]⟩).2.1)) rfl rfl rfl (by kernel_rfl) ?_
 refine Lq (int ((T1.add 0 ⟨#[121]⟩).1)) rfl rfl rfl rfl ?_
 refine Lq (int ((T1.add 0 ⟨#[121]⟩).2.1)) rfl rfl rfl rfl ?_
 refine L_nil ?_
 refine W_seq ?_
 refine W_region_lit ?_
 refine Lq (ptr p24 0) rfl rfl rfl rfl ?_
 have hst51 := hst48
 refine L_callS [c49] [] hst51 rfl rfl rfl (x_call (vs := #[(ptr p24 0), (int 0), (.string ⟨#[120]⟩)]) rfl rfl (by kernel_rfl) ent_28) (Add_spec 0 ⟨#[120]⟩ (hst51.sats.take 1 rfl) htr50 (by decide +kernel)) (fun v52 w53 R54 L55 hp56 hle57 hst58 => ?_)
 obtain ⟨c59, rfl, rfl, htr60⟩ := hp56
 change Tree _ _ T3 _ at htr60
 refine Lq (.tuple #[(int ((T2.add 0 ⟨#[120]⟩).1)), (int ((T2.add 0 ⟨#[120]⟩).2.1))]) rfl rfl rfl rfl ?_
 refine Lq (int ((T2.add 0 ⟨#[120]⟩).1)) rfl rfl rfl (by kernel_rfl) ?_
 refine Lq (int ((T2.add 0 ⟨#[120]⟩).2.1)) rfl rfl rfl (by kernel_rfl) ?_
 refine Lq (int ((T2.add 0 ⟨#[120]⟩).1)) rfl rfl rfl rfl ?_
 refine Lq (int ((T2.add 0 ⟨#[120]⟩).2.1)) rfl rfl rfl rfl ?_
 refine L_nil ?_
 refine W_seq ?_
 refine W_region_lit ?_
 refine Lq (ptr p24 0) rfl rfl rfl rfl ?_
 have hst61 := hst58
 refine L_callS [c59] [] hst61 rfl rfl rfl (x_call (vs := #[(ptr p24 0), (int 1)]) rfl rfl (by kernel_rfl) ent_38) (Split_spec 1 (hst61.sats.take 1 rfl) htr60 (by decide +kernel)) (fun v62 w63 R64 L65 hp66 hle67 hst68 => ?_)
 obtain ⟨c69, rfl, rfl, htr70⟩ := hp66
 change Tree _ _ T4 _ at htr70
 refine Lq (.tuple #[(int ((T3.split 1).1)), (int ((T3.split 1).2.1))]) rfl rfl rfl rfl ?_
 refine Lq (int ((T3.split 1).1)) rfl rfl rfl (by kernel_rfl) ?_
 refine Lq (int ((T3.split 1).2.1)) rfl rfl rfl (by kernel_rfl) ?_
 refine Lq (int ((T3.split 1).1)) rfl rfl rfl rfl ?_
 refine Lq (int ((T3.split 1).2.1)) rfl rfl rfl rfl ?_
 refine L_nil ?_
 refine W_seq ?_
 refine W_region_lit ?_
 refine Lq (ptr p24 0) rfl rfl rfl rfl ?_
 have hst71 := hst68
 refine L_callS [c69] [] hst71 rfl rfl rfl (x_call (vs := #[(ptr p24 0), (int 0), (.string ⟨#[121]⟩)]) rfl rfl (by kernel_rfl) ent_28) (Add_spec 0 ⟨#[121]⟩ (hst71.sats.take 1 rfl) htr70 (by decide +kernel)) (fun v72 w73 R74 L75 hp76 hle77 hst78 => ?_)
 obtain ⟨c79, rfl, rfl, htr80⟩ := hp76
 change Tree _ _ T5 _ at htr80
 refine Lq (.tuple #[(int ((T4.add 0 ⟨#[121]⟩).1)), (int ((T4.add 0 ⟨#[121]⟩).2.1))]) rfl rfl rfl rfl ?_
 refine Lq (int ((T4.add 0 ⟨#[121]⟩).1)) rfl rfl rfl (by kernel_rfl) ?_
 refine Lq (int ((T4.add 0 ⟨#[121]⟩).2.1)) rfl rfl rfl (by kernel_rfl) ?_
 refine Lq (int ((T4.add 0 ⟨#[121]⟩).1)) rfl rfl rfl rfl ?_
 refine Lq (int ((T4.add 0 ⟨#[121]⟩).2.1)) rfl rfl rfl rfl ?_
 refine L_nil ?_
 refine W_seq ?_
 refine W_seq ?_
 refine W_region_lit ?_
 refine Lq (int ((T0.add 0 ⟨#[121]⟩).1)) rfl rfl rfl rfl ?_
 refine Lq (.bool (((T0.add 0 ⟨#[121]⟩).1) != 1)) rfl rfl rfl (by kernel_rfl) ?_
 refine Lq (.bool (((T0.add 0 ⟨#[121]⟩).1) != 1)) rfl rfl rfl rfl ?_
 have c81 : (((T0.add 0 ⟨#[121]⟩).1) != 1) = false := (by decide +kernel)
 have q82 : (T0.add 0 ⟨#[121]⟩).1 = 1 := by simpa using c81
 refine L_guard rfl rfl rfl rfl c81 ?_
 refine Lq (int ((T1.add 0 ⟨#[121]⟩).1)) rfl rfl rfl rfl ?_
 refine L_guard rfl rfl rfl rfl c81 ?_
 refine Lq (.bool (((T1.add 0 ⟨#[121]⟩).1) != 1)) rfl rfl rfl (by kernel_rfl) ?_
 refine Lq (.bool (((T1.add 0 ⟨#[121]⟩).1) != 1)) rfl rfl rfl (x_pick rfl rfl (by rw [c81]; rfl)) ?_
 refine Lq (.bool (((T1.add 0 ⟨#[121]⟩).1) != 1)) rfl rfl rfl rfl ?_
 have c83 : (((T1.add 0 ⟨#[121]⟩).1) != 1) = false := (by decide +kernel)
 have q84 : (T1.add 0 ⟨#[121]⟩).1 = 1 := by simpa using c83
 refine L_guard rfl rfl rfl rfl c83 ?_
 refine Lq (int ((T0.add 0 ⟨#[121]⟩).2.1)) rfl rfl rfl rfl ?_
 refine L_guard rfl rfl rfl rfl c83 ?_
 refine Lq (.bool (((T0.add 0 ⟨#[121]⟩).2.1) != 0)) rfl rfl rfl (by kernel_rfl) ?_
 refine Lq (.bool (((T0.add 0 ⟨#[121]⟩).2.1) != 0)) rfl rfl rfl (x_pick rfl rfl (by rw [c83]; rfl)) ?_
 refine Lq (.bool (((T0.add 0 ⟨#[121]⟩).2.1) != 0)) rfl rfl rfl rfl ?_
 have c85 : (((T0.add 0 ⟨#[121]⟩).2.1) != 0) = false := (by decide +kernel)
 have q86 : (T0.add 0 ⟨#[121]⟩).2.1 = 0 := by simpa using c85
 refine L_guard rfl rfl rfl rfl c85 ?_
 refine Lq (int ((T1.add 0 ⟨#[121]⟩).2.1)) rfl rfl rfl rfl ?_
 refine L_guard rfl rfl rfl rfl c85 ?_
 refine Lq (.bool (((T1.add 0 ⟨#[121]⟩).2.1) != 0)) rfl rfl rfl (by kernel_rfl) ?_
 refine Lq (.bool (((T1.add 0 ⟨#[121]⟩).2.1) != 0)) rfl rfl rfl (x_pick rfl rfl (by rw [c85]; rfl)) ?_
 refine Lq (.bool (((T1.add 0 ⟨#[121]⟩).2.1) != 0)) rfl rfl rfl rfl ?_
 have c87 : (((T1.add 0 ⟨#[121]⟩).2.1) != 0) = false := (by decide +kernel)
 have q88 : (T1.add 0 ⟨#[121]⟩).2.1 = 0 := by simpa using c87
 refine L_guard rfl rfl rfl rfl c87 ?_
 refine Lq (int ((T2.add 0 ⟨#[120]⟩).2.1)) rfl rfl rfl rfl ?_
 refine L_guard rfl rfl rfl rfl c87 ?_
 refine Lq (.bool (((T2.add 0 ⟨#[120]⟩).2.1) != 13)) rfl rfl rfl (by kernel_rfl) ?_
 refine Lq (.bool (((T2.add 0 ⟨#[120]⟩).2.1) != 13)) rfl rfl rfl (x_pick rfl rfl (by rw [c87]; rfl)) ?_
 refine Lq (.bool (((T2.add 0 ⟨#[120]⟩).2.1) != 13)) rfl rfl rfl rfl ?_
 have c89 : (((T2.add 0 ⟨#[120]⟩).2.1) != 13) = false := (by decide +kernel)
 have q90 : (T2.add 0 ⟨#[120]⟩).2.1 = 13 := by simpa using c89
 refine L_guard rfl rfl rfl rfl c89 ?_
 refine Lq (int ((T3.split 1).1)) rfl rfl rfl rfl ?_
 refine L_guard rfl rfl rfl rfl c89 ?_
 refine Lq (.bool (((T3.split 1).1) != 2)) rfl rfl rfl (by kernel_rfl) ?_
 refine Lq (.bool (((T3.split 1).1) != 2)) rfl rfl rfl (x_pick rfl rfl (by rw [c89]; rfl)) ?_
 refine Lq (.bool (((T3.split 1).1) != 2)) rfl rfl rfl rfl ?_
 have c91 : (((T3.split 1).1) != 2) = false := (by decide +kernel)
 have q92 : (T3.split 1).1 = 2 := by simpa using c91
 refine L_guard rfl rfl rfl rfl c91 ?_
 refine Lq (int ((T3.split 1).2.1)) rfl rfl rfl rfl ?_
 refine L_guard rfl rfl rfl rfl c91 ?_
 refine Lq (.bool (((T3.split 1).2.1) != 0)) rfl rfl rfl (by kernel_rfl) ?_
 refine Lq (.bool (((T3.split 1).2.1) != 0)) rfl rfl rfl (x_pick rfl rfl (by rw [c91]; rfl)) ?_
 refine Lq (.bool (((T3.split 1).2.1) != 0)) rfl rfl rfl rfl ?_
 have c93 : (((T3.split 1).2.1) != 0) = false := (by decide +kernel)
 have q94 : (T3.split 1).2.1 = 0 := by simpa using c93
 refine L_guard rfl rfl rfl rfl c93 ?_
 refine Lq (int ((T4.add 0 ⟨#[121]⟩).1)) rfl rfl rfl rfl ?_
 refine L_guard rfl rfl rfl rfl c93 ?_
 refine Lq (.bool (((T4.add 0 ⟨#[121]⟩).1) != 2)) rfl rfl rfl (by kernel_rfl) ?_
 refine Lq (.bool (((T4.add 0 ⟨#[121]⟩).1) != 2)) rfl rfl rfl (x_pick rfl rfl (by rw [c93]; rfl)) ?_
 refine Lq (.bool (((T4.add 0 ⟨#[121]⟩).1) != 2)) rfl rfl rfl rfl ?_
 have c95 : (((T4.add 0 ⟨#[121]⟩).1) != 2) = false := (by decide +kernel)
 have q96 : (T4.add 0 ⟨#[121]⟩).1 = 2 := by simpa using c95
 refine L_guard rfl rfl rfl rfl c95 ?_
 refine Lq (ptr p24 0) rfl rfl rfl rfl ?_
 refine L_guard rfl rfl rfl rfl c95 ?_
 refine L_callG hst78 (v := (int (canon T5.nodes 1))) rfl rfl rfl (x_call (vs := #[(ptr p24 0), (int 1)]) rfl rfl (by kernel_rfl) ent_21) (Canon_spec 1 (Tree.view htr80 (hst78.g 0) hst78.rle') (Le.refl _)) (fun w97 hst98 => ?_)
 refine L_guard rfl rfl rfl rfl c95 ?_
 refine Lq (.bool ((canon T5.nodes 1) != 1)) rfl rfl rfl (by kernel_rfl) ?_
 refine Lq (.bool ((canon T5.nodes 1) != 1)) rfl rfl rfl (x_pick rfl rfl (by rw [c95]; rfl)) ?_
 refine Lq (.bool ((canon T5.nodes 1) != 1)) rfl rfl rfl rfl ?_
 have c99 : ((canon T5.nodes 1) != 1) = false := (by decide +kernel)
 have q100 : canon T5.nodes 1 = 1 := by simpa using c99
 refine L_guard rfl rfl rfl rfl c99 ?_
 refine Lq (ptr p24 0) rfl rfl rfl rfl ?_
 refine L_guard rfl rfl rfl rfl c99 ?_
 have hst101 := hst98
 refine L_callS [c79] [] hst101 rfl rfl rfl (x_call (vs := #[(ptr p24 0), (int 2), (int 1)]) rfl rfl (by kernel_rfl) ent_27) (Merge_spec 2 1 (hst101.sats.take 1 rfl) htr80) (fun v102 w103 R104 L105 hp106 hle107 hst108 => ?_)
 obtain ⟨c109, rfl, rfl, htr110⟩ := hp106
 change Tree _ _ T6 _ at htr110
 refine L_guard rfl rfl rfl rfl c99 ?_
 refine Lq (.bool (((T5.merge 2 1).1) != 0)) rfl rfl rfl (by kernel_rfl) ?_
 refine Lq (.bool (((T5.merge 2 1).1) != 0)) rfl rfl rfl (x_pick rfl rfl (by rw [c99]; rfl)) ?_
 refine Lq (.bool (((T5.merge 2 1).1) != 0)) rfl rfl rfl rfl ?_
 have c111 : (((T5.merge 2 1).1) != 0) = false := (by decide +kernel)
 have q112 : (T5.merge 2 1).1 = 0 := by simpa using c111
 refine L_guard rfl rfl rfl rfl c111 ?_
 refine Lq (ptr p24 0) rfl rfl rfl rfl ?_
 refine L_guard rfl rfl rfl rfl c111 ?_
 refine L_callG hst108 (v := (int (canon T6.nodes 1))) rfl rfl rfl (x_call (vs := #[(ptr p24 0), (int 1)]) rfl rfl (by kernel_rfl) ent_21) (Canon_spec 1 (Tree.view htr110 (hst108.g 0) hst108.rle') (Le.refl _)) (fun w113 hst114 => ?_)
 refine L_guard rfl rfl rfl rfl c111 ?_
 refine Lq (.bool ((canon T6.nodes 1) != 2)) rfl rfl rfl (by kernel_rfl) ?_
 refine Lq (.bool ((canon T6.nodes 1) != 2)) rfl rfl rfl (x_pick rfl rfl (by rw [c111]; rfl)) ?_
 refine L_nil ?_
 have c115 : ((canon T6.nodes 1) != 2) = false := (by decide +kernel)
 have q116 : canon T6.nodes 1 = 2 := by simpa using c115
 refine W_cond_false (by show Value.bool _ = _; exact congrArg Value.bool c115) ?_
 refine W_skip ?_
 refine W_seq ?_
 refine W_region_lit ?_
 refine Lq (ptr p24 0) rfl rfl rfl rfl ?_
 refine L_new hst114 (v := fun b => .slice (some ⟨b, 0, none⟩) 2 2) (ob := .cells #[(.string ⟨#[120]⟩), (.string ⟨#[121]⟩)] 9 (0, 0)) rfl rfl rfl (by kernel_rfl) (fun b117 w118 hst119 => ?_)
 obtain ⟨R120, hst121, hle122, hc123⟩ := Step.frz hst119
 have hm124 := Tree.lift htr110 hle122
 have hrd125 : RdS Ty.str R120 (.slice (some ⟨b117, 0, none⟩) 2 2) [(⟨#[120]⟩ : Str), (⟨#[121]⟩ : Str)] := OwnL.freeze (R := R120) (T := 9) (OwnL.lit (cs := [(.string ⟨#[120]⟩), (.string ⟨#[121]⟩)]) (strs_mk2 _ _ _) rfl (by decide)) (Le.refl _) hc123
 refine L_callG hst121 (v := (.tuple #[(int ((findL T6.nodes 0 [(⟨#[120]⟩ : Str), (⟨#[121]⟩ : Str)]).1)), (.bool ((findL T6.nodes 0 [(⟨#[120]⟩ : Str), (⟨#[121]⟩ : Str)]).2))])) rfl rfl rfl (x_call (vs := #[(ptr p24 0), (int 0), (.slice (some ⟨b117, 0, none⟩) 2 2)]) rfl rfl (by kernel_rfl) ent_25) (Find_spec 0 [(⟨#[120]⟩ : Str), (⟨#[121]⟩ : Str)] (RdS.mono hrd125 hst121.rle') (by first | omega | decide | assumption) (Tree.view hm124 (hst121.g 0) hst121.rle') (Le.refl _)) (fun w126 hst127 => ?_)
 refine Lq (.tuple #[(int ((findL T6.nodes 0 [(⟨#[120]⟩ : Str), (⟨#[121]⟩ : Str)]).1)), (.bool ((findL T6.nodes 0 [(⟨#[120]⟩ : Str), (⟨#[121]⟩ : Str)]).2))]) rfl rfl rfl rfl ?_
 refine Lq (int ((findL T6.nodes 0 [(⟨#[120]⟩ : Str), (⟨#[121]⟩ : Str)]).1)) rfl rfl rfl (by kernel_rfl) ?_
 refine Lq (.bool ((findL T6.nodes 0 [(⟨#[120]⟩ : Str), (⟨#[121]⟩ : Str)]).2)) rfl rfl rfl (by kernel_rfl) ?_
 refine Lq (int ((findL T6.nodes 0 [(⟨#[120]⟩ : Str), (⟨#[121]⟩ : Str)]).1)) rfl rfl rfl rfl ?_
 refine Lq (.bool ((findL T6.nodes 0 [(⟨#[120]⟩ : Str), (⟨#[121]⟩ : Str)]).2)) rfl rfl rfl rfl ?_
 refine L_nil ?_
 refine W_seq ?_
 refine W_region_lit ?_
 refine Lq (ptr p24 0) rfl rfl rfl rfl ?_
 have hst128 := hst127
 refine L_callS [c109] [] hst128 rfl rfl rfl (x_call (vs := #[(ptr p24 0), (int 0)]) rfl rfl (by kernel_rfl) ent_38) (Split_spec 0 (hst128.sats.take 1 rfl) hm124 (by decide +kernel)) (fun v129 w130 R131 L132 hp133 hle134 hst135 => ?_)
 obtain ⟨c136, rfl, rfl, htr137⟩ := hp133
 change Tree _ _ T7 _ at htr137
 refine Lq (.tuple #[(int ((T6.split 0).1)), (int ((T6.split 0).2.1))]) rfl rfl rfl rfl ?_
 refine Lq (int ((T6.split 0).1)) rfl rfl rfl (by kernel_rfl) ?_
 refine Lq (int ((T6.split 0).2.1)) rfl rfl rfl (by kernel_rfl) ?_
 refine Lq (int ((T6.split 0).1)) rfl rfl rfl rfl ?_
 refine Lq (int ((T6.split 0).2.1)) rfl rfl rfl rfl ?_
 refine L_nil ?_
 refine W_seq ?_
 refine W_region_lit ?_
 refine Lq (ptr p24 0) rfl rfl rfl rfl ?_
 have hst138 := hst135
 refine L_callS [c136] [] hst138 rfl rfl rfl (x_call (vs := #[(ptr p24 0), (int 0), (.string ⟨#[121]⟩)]) rfl rfl (by kernel_rfl) ent_28) (Add_spec 0 ⟨#[121]⟩ (hst138.sats.take 1 rfl) htr137 (by decide +kernel)) (fun v139 w140 R141 L142 hp143 hle144 hst145 => ?_)
 obtain ⟨c146, rfl, rfl, htr147⟩ := hp143
 change Tree _ _ T8 _ at htr147
 refine Lq (.tuple #[(int ((T7.add 0 ⟨#[121]⟩).1)), (int ((T7.add 0 ⟨#[121]⟩).2.1))]) rfl rfl rfl rfl ?_
 refine Lq (int ((T7.add 0 ⟨#[121]⟩).1)) rfl rfl rfl (by kernel_rfl) ?_
 refine Lq (int ((T7.add 0 ⟨#[121]⟩).2.1)) rfl rfl rfl (by kernel_rfl) ?_
 refine Lq (int ((T7.add 0 ⟨#[121]⟩).1)) rfl rfl rfl rfl ?_
 refine Lq (int ((T7.add 0 ⟨#[121]⟩).2.1)) rfl rfl rfl rfl ?_
 refine L_nil ?_
 refine W_seq ?_
 refine W_region_lit ?_
 refine Lq (ptr p24 0) rfl rfl rfl rfl ?_
 refine L_callG hst145 (v := (.string txt8)) rfl rfl rfl (x_call (vs := #[(ptr p24 0)]) rfl rfl (by kernel_rfl) ent_14) (Text_spec (Tree.viewM htr147 (hst145.g 0) hst145.rle' T8_ne T8_nice)) (fun w148 hst149 => ?_)
 refine Lq (.string txt8) rfl rfl rfl rfl ?_
 refine L_nil ?_
 refine W_seq ?_
 refine W_region_lit ?_
 refine Lq (ptr p24 0) rfl rfl rfl rfl ?_
 refine L_new hst149 (v := fun b => .slice (some ⟨b, 0, none⟩) 1 1) (ob := .cells #[(.string ⟨#[120]⟩)] 9 (0, 0)) rfl rfl rfl (by kernel_rfl) (fun b150 w151 hst152 => ?_)
 obtain ⟨R153, hst154, hle155, hc156⟩ := Step.frz hst152
 have hm157 := Tree.lift htr147 hle155
 have hrd158 : RdS Ty.str R153 (.slice (some ⟨b150, 0, none⟩) 1 1) [(⟨#[120]⟩ : Str)] := OwnL.freeze (R := R153) (T := 9) (OwnL.lit (cs := [(.string ⟨#[120]⟩)]) (str_mk _ _) rfl (by decide)) (Le.refl _) hc156
 have hst159 := hst154
 refine L_callS [c146] [] hst159 rfl rfl rfl (x_call (vs := #[(ptr p24 0), (int 0), (.slice (some ⟨b150, 0, none⟩) 1 1)]) rfl rfl (by kernel_rfl) ent_29) (Make_spec (v := (.slice (some ⟨b150, 0, none⟩) 1 1)) 0 [(⟨#[120]⟩ : Str)] (hst159.sats.take 1 rfl) hm157 (RdS.mono hrd158 (Le.refl _)) (by first | omega | decide) (by decide +kernel)) (fun v160 w161 R162 L163 hp164 hle165 hst166 => ?_)
 obtain ⟨c167, rfl, rfl, htr168⟩ := hp164
 change Tree _ _ T9 _ at htr168
 refine Lq (.tuple #[(int ((T8.make 0 [(⟨#[120]⟩ : Str)]).1)), (int ((T8.make 0 [(⟨#[120]⟩ : Str)]).2.1))]) rfl rfl rfl rfl ?_
 refine Lq (int ((T8.make 0 [(⟨#[120]⟩ : Str)]).1)) rfl rfl rfl (by kernel_rfl) ?_
 refine Lq (int ((T8.make 0 [(⟨#[120]⟩ : Str)]).2.1)) rfl rfl rfl (by kernel_rfl) ?_
 refine Lq (int ((T8.make 0 [(⟨#[120]⟩ : Str)]).1)) rfl rfl rfl rfl ?_
 refine Lq (int ((T8.make 0 [(⟨#[120]⟩ : Str)]).2.1)) rfl rfl rfl rfl ?_
 refine L_nil ?_
 refine W_seq ?_
 refine W_region_lit ?_
 refine Lq (ptr p24 0) rfl rfl rfl rfl ?_
 refine L_new hst166 (v := fun b => .slice (some ⟨b, 0, none⟩) 1 1) (ob := .cells #[(.string ⟨#[113]⟩)] 9 (0, 0)) rfl rfl rfl (by kernel_rfl) (fun b169 w170 hst171 => ?_)
 obtain ⟨R172, hst173, hle174, hc175⟩ := Step.frz hst171
 have hm176 := Tree.lift htr168 hle174
 have hrd177 : RdS Ty.str R172 (.slice (some ⟨b169, 0, none⟩) 1 1) [(⟨#[113]⟩ : Str)] := OwnL.freeze (R := R172) (T := 9) (OwnL.lit (cs := [(.string ⟨#[113]⟩)]) (str_mk _ _) rfl (by decide)) (Le.refl _) hc175
 have hst178 := hst173
 refine L_callS [c167] [] hst178 rfl rfl rfl (x_call (vs := #[(ptr p24 0), (int 0), (.slice (some ⟨b169, 0, none⟩) 1 1)]) rfl rfl (by kernel_rfl) ent_29) (Make_spec (v := (.slice (some ⟨b169, 0, none⟩) 1 1)) 0 [(⟨#[113]⟩ : Str)] (hst178.sats.take 1 rfl) hm176 (RdS.mono hrd177 (Le.refl _)) (by first | omega | decide) (by decide +kernel)) (fun v179 w180 R181 L182 hp183 hle184 hst185 => ?_)
 obtain ⟨c186, rfl, rfl, htr187⟩ := hp183
 change Tree _ _ T10 _ at htr187
 refine Lq (.tuple #[(int ((T9.make 0 [(⟨#[113]⟩ : Str)]).1)), (int ((T9.make 0 [(⟨#[113]⟩ : Str)]).2.1))]) rfl rfl rfl rfl ?_
 refine Lq (int ((T9.make 0 [(⟨#[113]⟩ : Str)]).1)) rfl rfl rfl (by kernel_rfl) ?_
 refine Lq (int ((T9.make 0 [(⟨#[113]⟩ : Str)]).2.1)) rfl rfl rfl (by kernel_rfl) ?_
 refine Lq (int ((T9.make 0 [(⟨#[113]⟩ : Str)]).1)) rfl rfl rfl rfl ?_
 refine Lq (int ((T9.make 0 [(⟨#[113]⟩ : Str)]).2.1)) rfl rfl rfl rfl ?_
 refine L_nil ?_
 refine W_seq ?_
 refine W_region_lit ?_
 refine Lq (int ((findL T6.nodes 0 [(⟨#[120]⟩ : Str), (⟨#[121]⟩ : Str)]).1)) rfl rfl rfl rfl ?_
 refine Lq (.bool (((findL T6.nodes 0 [(⟨#[120]⟩ : Str), (⟨#[121]⟩ : Str)]).1) == 2)) rfl rfl rfl (by kernel_rfl) ?_
 refine Lq (.bool (((findL T6.nodes 0 [(⟨#[120]⟩ : Str), (⟨#[121]⟩ : Str)]).1) == 2)) rfl rfl rfl rfl ?_
 have c188 : (((findL T6.nodes 0 [(⟨#[120]⟩ : Str), (⟨#[121]⟩ : Str)]).1) == 2) = true := (by decide +kernel)
 have q189 := eq_of_beq c188
 refine L_guard rfl rfl rfl rfl c188 ?_
 refine Lq (.bool ((findL T6.nodes 0 [(⟨#[120]⟩ : Str), (⟨#[121]⟩ : Str)]).2)) rfl rfl rfl rfl ?_
 refine Lq (.bool ((findL T6.nodes 0 [(⟨#[120]⟩ : Str), (⟨#[121]⟩ : Str)]).2)) rfl rfl rfl (x_pick rfl rfl (by rw [c188]; rfl)) ?_
 refine Lq (.bool ((findL T6.nodes 0 [(⟨#[120]⟩ : Str), (⟨#[121]⟩ : Str)]).2)) rfl rfl rfl rfl ?_
 have c190 : ((findL T6.nodes 0 [(⟨#[120]⟩ : Str), (⟨#[121]⟩ : Str)]).2) = true := (by decide +kernel)
 refine L_guard rfl rfl rfl rfl c190 ?_
 refine Lq (int ((T6.split 0).1)) rfl rfl rfl rfl ?_
 refine L_guard rfl rfl rfl rfl c190 ?_
 refine Lq (.bool (((T6.split 0).1) == 3)) rfl rfl rfl (by kernel_rfl) ?_
 refine Lq (.bool (((T6.split 0).1) == 3)) rfl rfl rfl (x_pick rfl rfl (by rw [c190]; rfl)) ?_
 refine Lq (.bool (((T6.split 0).1) == 3)) rfl rfl rfl rfl ?_
 have c191 : (((T6.split 0).1) == 3) = true := (by decide +kernel)
 have q192 := eq_of_beq c191
 refine L_guard rfl rfl rfl rfl c191 ?_
 refine Lq (ptr p24 0) rfl rfl rfl rfl ?_
 refine L_guard rfl rfl rfl rfl c191 ?_
 refine L_callG hst185 (v := (int (rootL T10.nodes T10.roots 0))) rfl rfl rfl (x_call (vs := #[(ptr p24 0), (int 0)]) rfl rfl (by kernel_rfl) ent_26) (Root_spec 0 (Tree.view htr187 (hst185.g 0) hst185.rle') (Le.refl _)) (fun w193 hst194 => ?_)
 refine L_guard rfl rfl rfl rfl c191 ?_
 refine Lq (.bool ((rootL T10.nodes T10.roots 0) == 3)) rfl rfl rfl (by kernel_rfl) ?_
 refine Lq (.bool ((rootL T10.nodes T10.roots 0) == 3)) rfl rfl rfl (x_pick rfl rfl (by rw [c191]; rfl)) ?_
 refine Lq (.bool ((rootL T10.nodes T10.roots 0) == 3)) rfl rfl rfl rfl ?_
 have c195 : ((rootL T10.nodes T10.roots 0) == 3) = true := (by decide +kernel)
 have q196 := eq_of_beq c195
 refine L_guard rfl rfl rfl rfl c195 ?_
 refine Lq (int ((T7.add 0 ⟨#[121]⟩).1)) rfl rfl rfl rfl ?_
 refine L_guard rfl rfl rfl rfl c195 ?_
 refine Lq (.bool (((T7.add 0 ⟨#[121]⟩).1) == 2)) rfl rfl rfl (by kernel_rfl) ?_
 refine Lq (.bool (((T7.add 0 ⟨#[121]⟩).1) == 2)) rfl rfl rfl (x_pick rfl rfl (by rw [c195]; rfl)) ?_
 refine Lq (.bool (((T7.add 0 ⟨#[121]⟩).1) == 2)) rfl rfl rfl rfl ?_
 have c197 : (((T7.add 0 ⟨#[121]⟩).1) == 2) = true := (by decide +kernel)
 have q198 := eq_of_beq c197
 refine L_guard rfl rfl rfl rfl c197 ?_
 refine Lq (.string txt8) rfl rfl rfl rfl ?_
 refine L_guard rfl rfl rfl rfl c197 ?_
 refine Lq (.bool (decide (txt8 = ⟨#[114, 111, 111, 116, 115, 32, 51, 10, 48, 32, 48, 32, 120, 32, 62, 32, 121, 58, 50, 10, 49, 32, 48, 32, 120, 32, 121, 32, 61, 32, 50, 10, 50, 32, 48, 32, 120, 32, 121, 32, 62, 10, 51, 32, 48, 32, 120, 32, 62, 10]⟩))) rfl rfl rfl (x_eqlD rfl rfl rfl) ?_
 refine Lq (.bool (decide (txt8 = ⟨#[114, 111, 111, 116, 115, 32, 51, 10, 48, 32, 48, 32, 120, 32, 62, 32, 121, 58, 50, 10, 49, 32, 48, 32, 120, 32, 121, 32, 61, 32, 50, 10, 50, 32, 48, 32, 120, 32, 121, 32, 62, 10, 51, 32, 48, 32, 120, 32, 62, 10]⟩))) rfl rfl rfl (x_pick rfl rfl (by rw [c197]; rfl)) ?_
 refine Lq (.bool (decide (txt8 = ⟨#[114, 111, 111, 116, 115, 32, 51, 10, 48, 32, 48, 32, 120, 32, 62, 32, 121, 58, 50, 10, 49, 32, 48, 32, 120, 32, 121, 32, 61, 32, 50, 10, 50, 32, 48, 32, 120, 32, 121, 32, 62, 10, 51, 32, 48, 32, 120, 32, 62, 10]⟩))) rfl rfl rfl rfl ?_
 have c199 : (decide (txt8 = ⟨#[114, 111, 111, 116, 115, 32, 51, 10, 48, 32, 48, 32, 120, 32, 62, 32, 121, 58, 50, 10, 49, 32, 48, 32, 120, 32, 121, 32, 61, 32, 50, 10, 50, 32, 48, 32, 120, 32, 121, 32, 62, 10, 51, 32, 48, 32, 120, 32, 62, 10]⟩)) = true := decide_eq_true T8_text
 have q200 := of_decide_eq_true c199
 refine L_guard rfl rfl rfl rfl c199 ?_
 refine Lq (int ((T8.make 0 [(⟨#[120]⟩ : Str)]).1)) rfl rfl rfl rfl ?_
 refine L_guard rfl rfl rfl rfl c199 ?_
 refine Lq (.bool (((T8.make 0 [(⟨#[120]⟩ : Str)]).1) == 3)) rfl rfl rfl (by kernel_rfl) ?_
 refine Lq (.bool (((T8.make 0 [(⟨#[120]⟩ : Str)]).1) == 3)) rfl rfl rfl (x_pick rfl rfl (by rw [c199]; rfl)) ?_
 refine Lq (.bool (((T8.make 0 [(⟨#[120]⟩ : Str)]).1) == 3)) rfl rfl rfl rfl ?_
 have c201 : (((T8.make 0 [(⟨#[120]⟩ : Str)]).1) == 3) = true := (by decide +kernel)
 have q202 := eq_of_beq c201
 refine L_guard rfl rfl rfl rfl c201 ?_
 refine Lq (int ((T8.make 0 [(⟨#[120]⟩ : Str)]).2.1)) rfl rfl rfl rfl ?_
 refine L_guard rfl rfl rfl rfl c201 ?_
 refine Lq (.bool (((T8.make 0 [(⟨#[120]⟩ : Str)]).2.1) == 0)) rfl rfl rfl (by kernel_rfl) ?_
 refine Lq (.bool (((T8.make 0 [(⟨#[120]⟩ : Str)]).2.1) == 0)) rfl rfl rfl (x_pick rfl rfl (by rw [c201]; rfl)) ?_
 refine Lq (.bool (((T8.make 0 [(⟨#[120]⟩ : Str)]).2.1) == 0)) rfl rfl rfl rfl ?_
 have c203 : (((T8.make 0 [(⟨#[120]⟩ : Str)]).2.1) == 0) = true := (by decide +kernel)
 have q204 := eq_of_beq c203
 refine L_guard rfl rfl rfl rfl c203 ?_
 refine Lq (int ((T9.make 0 [(⟨#[113]⟩ : Str)]).1)) rfl rfl rfl rfl ?_
 refine L_guard rfl rfl rfl rfl c203 ?_
 refine Lq (.bool (((T9.make 0 [(⟨#[113]⟩ : Str)]).1) == 4)) rfl rfl rfl (by kernel_rfl) ?_
 refine Lq (.bool (((T9.make 0 [(⟨#[113]⟩ : Str)]).1) == 4)) rfl rfl rfl (x_pick rfl rfl (by rw [c203]; rfl)) ?_
 refine Lq (.bool (((T9.make 0 [(⟨#[113]⟩ : Str)]).1) == 4)) rfl rfl rfl rfl ?_
 have c205 : (((T9.make 0 [(⟨#[113]⟩ : Str)]).1) == 4) = true := (by decide +kernel)
 have q206 := eq_of_beq c205
 refine L_guard rfl rfl rfl rfl c205 ?_
 refine Lq (int ((T9.make 0 [(⟨#[113]⟩ : Str)]).2.1)) rfl rfl rfl rfl ?_
 refine L_guard rfl rfl rfl rfl c205 ?_
 refine Lq (.bool (((T9.make 0 [(⟨#[113]⟩ : Str)]).2.1) == 0)) rfl rfl rfl (by kernel_rfl) ?_
 refine Lq (.bool (((T9.make 0 [(⟨#[113]⟩ : Str)]).2.1) == 0)) rfl rfl rfl (x_pick rfl rfl (by rw [c205]; rfl)) ?_
 refine Lq (.bool (((T9.make 0 [(⟨#[113]⟩ : Str)]).2.1) == 0)) rfl rfl rfl rfl ?_
 refine L_nil ?_
 refine W_ret ?_
 refine ⟨_, _, res_run (rs := [.tmp 0]) (vs := [(.bool (((T9.make 0 [(⟨#[113]⟩ : Str)]).2.1) == 0))]) Tryz.results10 (.cons (.tmp rfl) .nil) rfl, ?_⟩
 exact ⟨ret_bool (by first | rfl | decide +kernel), hst194.grow⟩
end Go.Fx.YtjpdhfhiimbpgaaGreatDoor
set_option linter.unusedSimpArgs false
set_option linter.unusedVariables false
set_option linter.unusedSectionVars false
namespace Go.Fx.YtjpdhfhiimbpgaaGreatDoor
open Go Go.Fx Go.Proofs
set_option maxRecDepth 20000
theorem ndL_app {l m : List Nd} {k : Nat} (h : k < l.length) : ndL (l ++ m) k = ndL l k := by
  unfold ndL
  rw [List.getD_eq_getElem?_getD, List.getD_eq_getElem?_getD, List.getElem?_append_left h]
theorem ndL_last (l : List Nd) (x : Nd) : ndL (l ++ [x]) l.length = x := by
  unfold ndL
  simp
theorem ndL_set {l : List Nd} {y k : Nat} {v : Nd} (hy : y < l.length) : ndL (l.set y v) k = if k = y then v else ndL l k := by
  unfold ndL
  rw [List.getD_eq_getElem?_getD, List.getElem?_set, List.getD_eq_getElem?_getD]
  by_cases e : k = y
  · subst e; simp [hy]
  · rw [if_neg (fun q => e q.symm), if_neg e]
structure AliOk (l : List Nd) : Prop where
  h : ∀ k a : Nat, k < l.length → (ndL l k).ali = (a : Int) → a < l.length ∧ (ndL l a).cls = (ndL l k).cls ∧ (ndL l a).names = (ndL l k).names
theorem Cn.same {l : List Nd} (ha : AliOk l) {d k c : Nat} (h : Cn l d k c) : (ndL l c).cls = (ndL l k).cls ∧ (ndL l c).names = (ndL l k).names := by
  induction h with
  | here hk h => exact ⟨rfl, rfl⟩
  | step hk h hc ih =>
    obtain ⟨_, h1, h2⟩ := ha.h _ _ hk (by rw [ndL_eq hk]; exact h)
    exact ⟨ih.1.trans h1, ih.2.trans h2⟩
theorem cn_same {l : List Nd} (hc : Cans l) (ha : AliOk l) {k : Nat} (hk : k < l.length) : (ndL l (cn l k)).cls = (ndL l k).cls ∧ (ndL l (cn l k)).names = (ndL l k).names := by
  obtain ⟨d, h⟩ := hc.has hk
  exact h.same ha
structure Core (n : Int) (s : TS) : Prop where
  ali : AliOk s.nodes
  rlen : s.roots.length = (clsOf n).length
  root : ∀ i : Nat, i < s.roots.length → ∃ r : Nat, s.roots.getD i 0 = (r : Int) ∧ r < s.nodes.length ∧ (ndL s.nodes r).cls = (i : Int) ∧ (ndL s.nodes r).names = ((clsOf n).getD i ⟨eStr, []⟩).fields
  next : ∀ e ∈ s.next, ∃ c v : Nat, e.1.1 = (c : Int) ∧ e.2 = (v : Int) ∧ c < s.nodes.length ∧ v < s.nodes.length ∧ (ndL s.nodes v).cls = (ndL s.nodes c).cls ∧ (ndL s.nodes v).names = (ndL s.nodes c).names ++ [e.1.2] ∧ e.1.2 ∉ (ndL s.nodes c).names
variable {n : Int} {s : TS}
theorem AliOk.app {l : List Nd} (h : AliOk l) {x : Nd} (hx : x.ali = -1) : AliOk (l ++ [x]) := ⟨fun k a hk e => by
  rw [List.length_append, List.length_singleton] at hk ⊢
  by_cases q : k < l.length
  · rw [ndL_app q] at e ⊢
    obtain ⟨h1, h2⟩ := h.h k a q e
    rw [ndL_app h1]
    exact ⟨by omega, h2⟩
  · obtain rfl : k = l.length := by omega
    rw [ndL_last, hx] at e
    omega⟩
theorem Core.addN (h : Core n s) (cls : Int) (names : List Str) : Core n (s.addN cls names) := by
  have hl : (s.addN cls names).nodes.length = s.nodes.length + 1 := by simp [TS.addN]
  refine ⟨h.ali.app rfl, h.rlen, fun i hi => ?_, fun e he => ?_⟩
  · obtain ⟨r, h1, h2, h3, h4⟩ := h.root i hi
    exact ⟨r, h1, by omega, by simp only [TS.addN]; rw [ndL_app h2]; exact h3, by simp only [TS.addN]; rw [ndL_app h2]; exact h4⟩
  · obtain ⟨c, v, h1, h2, h3, h4, h5⟩ := h.next e he
    refine ⟨c, v, h1, h2, by omega, by omega, ?_⟩
    simp only [TS.addN]
    rw [ndL_app h3, ndL_app h4]
    exact h5
theorem Core.add (hw : WF s) (h : Core n s) (k : Int) (t : Str) : Core n (s.add k t).2.2 := by
  unfold TS.add
  split
  · exact h
  · rename_i hth
    split
    · exact h
    · rename_i hno
      split
      · exact h
      · split
        · exact h
        · have hk : 0 ≤ k ∧ k < (s.nodes.length : Int) := TS.there_iff.1 (by simpa using hth)
          obtain ⟨k, rfl⟩ : ∃ j : Nat, k = (j : Int) := ⟨k.toNat, by omega⟩
          rw [Int.toNat_natCast] at hno ⊢
          have hc := hw.can.lt (k := k) (by omega)
          have h2 := h.addN (s.nd (cn s.nodes k)).cls ((s.nd (cn s.nodes k)).names ++ [t])
          refine ⟨h2.ali, h2.rlen, h2.root, fun e he => ?_⟩
          rcases AL.mem_set he with rfl | he
          · refine ⟨cn s.nodes k, s.nodes.length, rfl, rfl, by simp [TS.addN]; omega, by simp [TS.addN], ?_⟩
            simp only [TS.addN]
            rw [ndL_last, ndL_app hc]
            exact ⟨rfl, rfl, fun q => hno (.inr q)⟩
          · exact h2.next e he
theorem Core.make (h : Core n s) (c : Int) (xs : List Str) : Core n (s.make c xs).2.2 := by
  unfold TS.make
  split
  · exact h
  · split
    · exact h
    · split
      · exact h
      · split
        · exact h
        · exact h.addN _ _
theorem Core.merge (hw : WF s) (h : Core n s) (a b : Int) : Core n (s.merge a b).2 := by
  unfold TS.merge
  split
  · rename_i hab
    obtain ⟨ha, hb, hsm⟩ := hab
    have ha' := TS.there_iff.1 ha
    have hb' := TS.there_iff.1 hb
    simp only
    split
    · exact h
    · rename_i hne
      obtain ⟨a, rfl⟩ : ∃ j : Nat, a = (j : Int) := ⟨a.toNat, by omega⟩
      obtain ⟨b, rfl⟩ : ∃ j : Nat, b = (j : Int) := ⟨b.toNat, by omega⟩
      rw [Int.toNat_natCast, Int.toNat_natCast] at *
      have hca := hw.can.lt (k := a) (by omega)
      have hcb := hw.can.lt (k := b) (by omega)
      have e1 := cn_same hw.can h.ali (k := a) (by omega)
      have e2 := cn_same hw.can h.ali (k := b) (by omega)
      have hsm2 : (ndL s.nodes a).cls = (ndL s.nodes b).cls ∧ (ndL s.nodes a).names = (ndL s.nodes b).names := of_decide_eq_true hsm
      have key : ∀ k, (ndL (setAli s.nodes (cn s.nodes b) (cn s.nodes a : Int)) k).cls = (ndL s.nodes k).cls ∧ (ndL (setAli s.nodes (cn s.nodes b) (cn s.nodes a : Int)) k).names = (ndL s.nodes k).names := fun k => by
        unfold setAli
        rw [ndL_set hcb]
        split
        · rename_i e; subst e; exact ⟨rfl, rfl⟩
        · exact ⟨rfl, rfl⟩
      have hl : (setAli s.nodes (cn s.nodes b) (cn s.nodes a : Int)).length = s.nodes.length := setAli_len
      refine ⟨⟨fun k j hk e => ?_⟩, h.rlen, fun i hi => ?_, fun e he => ?_⟩
      · show j < (setAli s.nodes (cn s.nodes b) (cn s.nodes a : Int)).length ∧ _
        rw [hl, (key j).1, (key j).2, (key k).1, (key k).2]
        have hk2 : k < s.nodes.length := by rw [← hl]; exact hk
        have e9 : (if k = cn s.nodes b then { (s.nodes.getD (cn s.nodes b) nd0) with ali := (cn s.nodes a : Int) } else ndL s.nodes k).ali = (j : Int) := by rw [← ndL_set hcb]; exact e
        clear e
        by_cases q : k = cn s.nodes b
        · rw [if_pos q] at e9
          have e4 : cn s.nodes a = j := Int.ofNat.inj e9
          subst q; subst e4
          exact ⟨hca, e1.1.trans (hsm2.1.trans e2.1.symm), e1.2.trans (hsm2.2.trans e2.2.symm)⟩
        · rw [if_neg q] at e9
          exact h.ali.h k j hk2 e9
      · obtain ⟨r, h1, h2, h3, h4⟩ := h.root i hi
        exact ⟨r, h1, by rw [hl]; exact h2, (key r).1.trans h3, (key r).2.trans h4⟩
      · obtain ⟨c, v, h1, h2, h3, h4, h5, h6, h7⟩ := h.next e he
        refine ⟨c, v, h1, h2, by rw [hl]; exact h3, by rw [hl]; exact h4, ?_⟩
        show (ndL (setAli s.nodes (cn s.nodes b) (cn s.nodes a : Int)) v).cls = (ndL (setAli s.nodes (cn s.nodes b) (cn s.nodes a : Int)) c).cls ∧ _
        rw [(key c).1, (key v).1, (key c).2, (key v).2]
        exact ⟨h5, h6, h7⟩
  · exact h
theorem Core.splitC (hw : WF s) (h : Core n s) {c : Nat} (hc : c < s.nodes.length) : Core n (s.splitC c) := by
  have hl : (s.splitC c).nodes.length = s.nodes.length + 1 := by simp [TS.splitC]
  have red : ∀ v : Nat, v < s.nodes.length → ∃ v2 : Nat, redir s.nodes c s.nodes.length (v : Int) = (v2 : Int) ∧ v2 < s.nodes.length + 1 ∧ (ndL (s.splitC c).nodes v2).cls = (ndL s.nodes v).cls ∧ (ndL (s.splitC c).nodes v2).names = (ndL s.nodes v).names := fun v hv => by
    unfold redir
    obtain ⟨d, hd⟩ := hw.can.has hv
    rw [canon_in hd]
    split
    · rename_i e
      have e2 : cn s.nodes v = c := Int.ofNat.inj e
      refine ⟨s.nodes.length, rfl, by omega, ?_⟩
      simp only [TS.splitC]
      rw [ndL_last]
      have := cn_same hw.can h.ali hv
      rw [e2] at this
      exact this
    · refine ⟨v, rfl, by omega, ?_⟩
      simp only [TS.splitC]
      rw [ndL_app hv]
      exact ⟨rfl, rfl⟩
  refine ⟨h.ali.app rfl, by simp [TS.splitC, h.rlen], fun i hi => ?_, fun e he => ?_⟩
  · have hi2 : i < s.roots.length := by simpa [TS.splitC] using hi
    obtain ⟨r, h1, h2, h3, h4⟩ := h.root i hi2
    obtain ⟨v2, g1, g2, g3, g4⟩ := red r h2
    refine ⟨v2, ?_, by omega, g3.trans h3, g4.trans h4⟩
    simp only [TS.splitC]
    rw [List.getD_eq_getElem?_getD, List.getElem?_map, List.getElem?_eq_getElem hi2]
    rw [List.getD_eq_getElem?_getD, List.getElem?_eq_getElem hi2] at h1
    simp only [Option.getD_some] at h1
    rw [h1]
    exact g1
  · obtain ⟨e0, he0, rfl⟩ := List.mem_map.1 he
    obtain ⟨c2, v, h1, h2, h3, h4, h5, h6, h7⟩ := h.next e0 he0
    obtain ⟨v2, g1, g2, g3, g4⟩ := red v h4
    refine ⟨c2, v2, h1, by simp only; rw [h2]; exact g1, by omega, by omega, ?_⟩
    have ec : ndL (s.splitC c).nodes c2 = ndL s.nodes c2 := by simp only [TS.splitC]; rw [ndL_app h3]
    rw [ec, g3, g4]
    exact ⟨h5, h6, h7⟩
theorem Core.split (hw : WF s) (h : Core n s) (a : Int) : Core n (s.split a).2.2 := by
  unfold TS.split
  split
  · exact h
  · rename_i hth
    split
    · exact h
    · have hk : 0 ≤ a ∧ a < (s.nodes.length : Int) := TS.there_iff.1 (by simpa using hth)
      exact h.splitC hw (hw.can.lt (k := a.toNat) (by omega))
theorem Core.act (hw : WF s) (h : Core n s) (a : Ac) (m : Nat) : Core n (s.act a m).2.2 := by
  unfold TS.act
  split
  · exact h.merge hw _ _
  · split
    · exact h.split hw _
    · split
      · exact h.make _ _
      · exact h.add hw _ _
theorem WF.act (hw : WF s) (a : Ac) (m : Nat) : WF (s.act a m).2.2 := by
  unfold TS.act
  split
  · exact hw.merge _ _
  · split
    · exact hw.split _
    · split
      · exact hw.make _ _
      · exact hw.add _ _
theorem Core.new (n : Int) : Core n (newTS (clsOf n)) := by
  have hl : (newTS (clsOf n)).nodes.length = (clsOf n).length := by simp only [newTS, nodesOf_len]
  have hat : ∀ k, k < (clsOf n).length → ndL (newTS (clsOf n)).nodes k = ⟨(k : Int), -1, ((clsOf n).getD k ⟨eStr, []⟩).fields⟩ := fun k hk => by
    have hk2 : k < (newTS (clsOf n)).nodes.length := by omega
    rw [ndL_eq hk2]
    simp only [newTS, nodesOf_at]
  refine ⟨⟨fun k a hk e => ?_⟩, by simp only [newTS, rootsOf_len], fun i hi => ?_, fun e he => by cases he⟩
  · rw [hat k (by omega)] at e
    simp only at e
    omega
  · have hi2 : i < (clsOf n).length := by simpa [newTS, rootsOf_len] using hi
    refine ⟨i, ?_, by omega, by rw [hat i hi2], by rw [hat i hi2]⟩
    simp only [newTS, rootsOf]
    rw [List.getD_eq_getElem?_getD, List.getElem?_map, List.getElem?_range hi2]
    rfl
theorem playK_wf (n : Int) (acts : List Ac) : ∀ k, WF (playK n acts k)
  | 0 => newTS_wf _
  | k + 1 => (playK_wf n acts k).act _ _
theorem playK_core (n : Int) (acts : List Ac) : ∀ k, Core n (playK n acts k)
  | 0 => Core.new n
  | k + 1 => (playK_core n acts k).act (playK_wf n acts k) _ _
structure Bd (s : TS) (b : Nat) : Prop where
  cls : ∀ x ∈ s.nodes, 0 ≤ x.cls ∧ x.cls < 3
  names : ∀ x ∈ s.nodes, x.names.length ≤ 3 + b
  sizes : ∀ x ∈ s.nodes, ∀ t ∈ x.names, t.size ≤ 7
  len : s.nodes.length ≤ 3 + b
  nlen : s.next.length ≤ b
  keys : ∀ e ∈ s.next, e.1.2.size ≤ 7
end Go.Fx.YtjpdhfhiimbpgaaGreatDoor
set_option linter.unusedSimpArgs false
set_option linter.unusedVariables false
set_option linter.unusedSectionVars false
namespace Go.Fx.YtjpdhfhiimbpgaaGreatDoor
open Go Go.Fx Go.Proofs
set_option maxRecDepth 20000
theorem bneF {a b : Int} (h : a = b) : (a != b) = false := by simp [h]
variable {l : List Nd} {n : Int} {s : TS}
theorem namesN {k : Nat} (h : k < l.length) : namesL l (k : Int) = (ndL l k).names := by rw [namesL_in h, ndL_eq h]
theorem namesL_len {l : List Nd} (h : Small l) (k : Int) : (namesL l k).length ≤ 1000000 := by
  unfold namesL
  split
  · rename_i hk
    have hk2 := thereL_iff.1 hk
    rw [ndL_eq (k := k.toNat) (by omega)]
    exact h.names _ (by omega)
  · simp
theorem Tree.wf {R c : Hp} {p : Nat} (h : Tree R p s c) : WF s := by
  obtain ⟨_, _, _, _, _, _, _, _, _, _, _, _, _, hw, _⟩ := h
  exact hw
theorem Slot_in {k : Nat} {t : Str} (hk : k < l.length) : (slotL l (k : Int) t).2 = decide (t ∈ namesL l (k : Int)) := by
  rw [slotL_in hk, namesL_in hk]
  exact idxS_mem t _
theorem mem_of_get {κ β : Type} [DecidableEq κ] {m : List (κ × β)} {k : κ} {v : β} (h : AL.get m k = some v) : (k, v) ∈ m := by
  induction m with
  | nil => cases h
  | cons p m ih =>
    obtain ⟨a, b⟩ := p
    simp only [AL.get] at h
    split at h
    · rename_i e; subst e; cases h; exact List.mem_cons_self ..
    · exact List.mem_cons_of_mem _ (ih h)
end Go.Fx.YtjpdhfhiimbpgaaGreatDoor
set_option linter.unusedSimpArgs false
set_option linter.unusedVariables false
set_option linter.unusedSectionVars false
namespace Go.Fx.YtjpdhfhiimbpgaaGreatDoor
open Go Go.Fx Go.Proofs
set_option maxRecDepth 20000
variable {s : TS} {b : Nat} {n : Int}
theorem nd0_mem {l : List Nd} {k : Nat} (h : k < l.length) : l.getD k nd0 ∈ l := by
  rw [List.getD_eq_getElem?_getD, List.getElem?_eq_getElem h]
  exact List.getElem_mem h
theorem Bd.up (h : Bd s b) {b' : Nat} (hb : b ≤ b') : Bd s b' :=
  ⟨h.cls, fun x hx => by have := h.names x hx; omega, h.sizes, by have := h.len; omega, by have := h.nlen; omega, h.keys⟩
theorem Bd.addN (h : Bd s b) {cls : Int} {names : List Str} (h1 : 0 ≤ cls ∧ cls < 3) (h2 : names.length ≤ 3 + (b + 1)) (h3 : ∀ t ∈ names, t.size ≤ 7) : Bd (s.addN cls names) (b + 1) := by
  have hu := h.up (b' := b + 1) (by omega)
  refine ⟨fun x hx => ?_, fun x hx => ?_, fun x hx => ?_, by have := h.len; simp [TS.addN]; omega, hu.nlen, hu.keys⟩
  all_goals (rcases List.mem_append.1 hx with hx | hx)
  · exact h.cls x hx
  · obtain rfl := List.mem_singleton.1 hx; exact h1
  · exact hu.names x hx
  · obtain rfl := List.mem_singleton.1 hx; exact h2
  · exact h.sizes x hx
  · obtain rfl := List.mem_singleton.1 hx; exact h3
theorem AL.set_len {κ β : Type} [DecidableEq κ] (m : List (κ × β)) (k : κ) (v : β) : (AL.set m k v).length ≤ m.length + 1 := by
  induction m with
  | nil => simp [AL.set]
  | cons p m ih =>
    obtain ⟨a, c⟩ := p
    simp only [AL.set]
    split
    · simp
    · simp only [List.length_cons]; omega
theorem Bd.add (hw : WF s) (h : Bd s b) (k : Int) {t : Str} (ht : t.size ≤ 7) : Bd (s.add k t).2.2 (b + 1) := by
  have hu := h.up (b' := b + 1) (by omega)
  unfold TS.add
  split
  · exact hu
  · rename_i hth
    split
    · exact hu
    · split
      · exact hu
      · split
        · exact hu
        · have hk : 0 ≤ k ∧ k < (s.nodes.length : Int) := TS.there_iff.1 (by simpa using hth)
          have hm : s.nd (cn s.nodes k.toNat) ∈ s.nodes := nd0_mem (hw.can.lt (k := k.toNat) (by omega))
          have h2 := h.addN (cls := (s.nd (cn s.nodes k.toNat)).cls) (names := (s.nd (cn s.nodes k.toNat)).names ++ [t]) (h.cls _ hm) (by have := h.names _ hm; simp; omega) (fun u hu => by
            rcases List.mem_append.1 hu with hu | hu
            · exact h.sizes _ hm u hu
            · obtain rfl := List.mem_singleton.1 hu; exact ht)
          refine ⟨h2.cls, h2.names, h2.sizes, h2.len, ?_, fun e he => ?_⟩
          · have h4 := h.nlen
            have := AL.set_len s.next ((cn s.nodes k.toNat : Int), t) (s.nodes.length : Int)
            show (AL.set s.next _ _).length ≤ b + 1
            omega
          · rcases AL.mem_set he with rfl | he
            · exact ht
            · exact h.keys e he
theorem Bd.make (h : Bd s b) {c : Int} {xs : List Str} (hr : s.roots.length ≤ 3) (h2 : xs.length ≤ 3) (h3 : ∀ t ∈ xs, t.size ≤ 7) : Bd (s.make c xs).2.2 (b + 1) := by
  have hu := h.up (b' := b + 1) (by omega)
  unfold TS.make
  split
  · exact hu
  · rename_i hc
    split
    · exact hu
    · split
      · exact hu
      · split
        · exact hu
        · exact h.addN (by omega) (by omega) h3
theorem Bd.merge (h : Bd s b) (x y : Int) (hw : WF s) : Bd (s.merge x y).2 (b + 1) := by
  have hu := h.up (b' := b + 1) (by omega)
  unfold TS.merge
  split
  · rename_i hab
    simp only
    split
    · exact hu
    · have hb := TS.there_iff.1 hab.2.1
      have hm := nd0_mem (hw.can.lt (k := y.toNat) (by omega))
      have key : ∀ z ∈ setAli s.nodes (cn s.nodes y.toNat) (cn s.nodes x.toNat : Int), ∃ z' ∈ s.nodes, z.cls = z'.cls ∧ z.names = z'.names := fun z hz => by
        rcases List.mem_or_eq_of_mem_set hz with hz | rfl
        · exact ⟨z, hz, rfl, rfl⟩
        · exact ⟨_, hm, rfl, rfl⟩
      refine ⟨fun z hz => ?_, fun z hz => ?_, fun z hz => ?_, by show (setAli _ _ _).length ≤ _; rw [setAli_len]; exact hu.len, hu.nlen, hu.keys⟩
      all_goals obtain ⟨z', hz', e1, e2⟩ := key z hz
      · rw [e1]; exact h.cls _ hz'
      · rw [e2]; exact hu.names _ hz'
      · rw [e2]; exact h.sizes _ hz'
  · exact hu
theorem Bd.split (h : Bd s b) (a : Int) (hw : WF s) : Bd (s.split a).2.2 (b + 1) := by
  have hu := h.up (b' := b + 1) (by omega)
  unfold TS.split
  split
  · exact hu
  · rename_i hth
    split
    · exact hu
    · have hk : 0 ≤ a ∧ a < (s.nodes.length : Int) := TS.there_iff.1 (by simpa using hth)
      have hm : s.nd (cn s.nodes a.toNat) ∈ s.nodes := nd0_mem (hw.can.lt (k := a.toNat) (by omega))
      have h2 := h.addN (cls := (s.nd (cn s.nodes a.toNat)).cls) (names := (s.nd (cn s.nodes a.toNat)).names) (h.cls _ hm) (by have := h.names _ hm; omega) (h.sizes _ hm)
      refine ⟨h2.cls, h2.names, h2.sizes, h2.len, ?_, fun e he => ?_⟩
      · simp only [TS.splitC, List.length_map]; exact hu.nlen
      · obtain ⟨e0, he0, rfl⟩ := List.mem_map.1 he
        exact h.keys e0 he0
theorem Bd.act (h : Bd s b) (hw : WF s) (hr : s.roots.length ≤ 3) (a : Ac) (m : Nat) : Bd (s.act a m).2.2 (b + 1) := by
  unfold TS.act
  split
  · exact h.merge _ _ hw
  · split
    · exact h.split _ hw
    · split
      · exact h.make hr (someL_len _) (fun t ht => by have := someN_size _ t ht; omega)
      · exact h.add hw _ (by have := nameOf_size a.nm; omega)
theorem Core.roots3 (h : Core n s) : s.roots.length ≤ 3 := by
  rw [h.rlen, clsOf_len]
  have := kN3 n
  omega
theorem Bd.new (n : Int) : Bd (newTS (clsOf n)) 0 := by
  have h3 := kN3 n
  have key : ∀ x ∈ (newTS (clsOf n)).nodes, ∃ j : Nat, j < (clsOf n).length ∧ x = ⟨(j : Int), -1, ((clsOf n).getD j ⟨eStr, []⟩).fields⟩ := fun x hx => by
    obtain ⟨j, hj, rfl⟩ := List.mem_map.1 hx
    exact ⟨j, List.mem_range.1 hj, rfl⟩
  have hm : ∀ j, j < (clsOf n).length → (clsOf n).getD j ⟨eStr, []⟩ ∈ clsOf n := fun j hj => by
    rw [List.getD_eq_getElem?_getD, List.getElem?_eq_getElem hj]; exact List.getElem_mem hj
  have hl := clsOf_len n
  refine ⟨fun x hx => ?_, fun x hx => ?_, fun x hx => ?_, by rw [newTS_len]; omega, by simp [newTS], fun e he => by cases he⟩
  all_goals obtain ⟨j, hj, rfl⟩ := key x hx
  · exact ⟨by show 0 ≤ (j : Int); omega, by show (j : Int) < 3; omega⟩
  · have := (clsOf_mem (hm j hj)).1
    show ((clsOf n).getD j ⟨eStr, []⟩).fields.length ≤ 3 + 0
    omega
  · intro t ht
    have := (clsOf_mem (hm j hj)).2 t ht
    omega
theorem playK_bd (n : Int) (acts : List Ac) : ∀ k, Bd (playK n acts k) k
  | 0 => Bd.new n
  | k + 1 => (playK_bd n acts k).act (playK_wf n acts k) (playK_core n acts k).roots3 _ _
theorem Bd.nice (h : Bd s b) (hb : b ≤ 64) (hr : s.roots.length ≤ 3) : Nice s where
  nodes := by have := h.len; omega
  roots := by omega
  cls := fun x hx => by have := h.cls x hx; omega
  names := fun x hx => by have := h.names x hx; omega
  sizes := fun x hx t ht => by have := h.sizes x hx t ht; omega
  next := by have := h.nlen; omega
  keys := fun e he => by have := h.keys e he; omega
theorem act_pos (s : TS) (a : Ac) (m : Nat) : s.nodes.length ≤ (s.act a m).2.2.nodes.length := by
  unfold TS.act TS.split TS.make TS.add
  split
  · simp only [merge_len]; omega
  · split
    · split
      · simp
      · split <;> simp [TS.splitC]
    · split
      · split
        · simp
        · split
          · simp
          · split
            · simp
            · split <;> simp [TS.addN]
      · split
        · simp
        · split
          · simp
          · split
            · simp
            · split <;> simp [TS.addN]
theorem playK_pos (n : Int) (acts : List Ac) : ∀ k, 0 < (playK n acts k).nodes.length
  | 0 => by rw [playK, newTS_len]; omega
  | k + 1 => Nat.lt_of_lt_of_le (playK_pos n acts k) (by rw [playK]; exact act_pos _ _ _)
end Go.Fx.YtjpdhfhiimbpgaaGreatDoor
namespace Go.Fx.YtjpdhfhiimbpgaaGreatDoor
open Go Go.ChangeShapes Go.WideShapes Go.ChangeAt Go.RowKit Go.Fx Go.Proofs Go.Proofs.YtjpdhfhiimbpgaaGreatDoor
set_option linter.unusedVariables false
set_option maxRecDepth 20000
theorem own : ownKnob Tryz.prog.godebug = none := by kernel_rfl
theorem okT {f : Func} {W : World} (h : f.resultTypes = #[4]) : ∀ (j : Nat) (t : TypeId) (r : Value), f.resultTypes[j]? = some t → ((Value.bool true).resultList f.resultTypes.size)[j]? = some r → Value.okWide Tryz.prog W .any 0 t r :=
  ok_one h rfl (okWide_bool_mk Tryz.underlying4 _)
mutual
theorem bulk_eq {H : Type} : (d : DataW H) → Rows.uptoBulk d = Fx.bulk d
  | .lit l => by cases l <;> rfl
  | .nil => rfl
  | .ptr d => by simp only [Rows.uptoBulk, Fx.bulk, bulk_eq d]
  | .slice es sp => by simp only [Rows.uptoBulk, Fx.bulk, bulks_eq es, bulks_eq sp]
  | .agg ps => by simp only [Rows.uptoBulk, Fx.bulk, bulks_eq ps]
  | .iface _ d => by simp only [Rows.uptoBulk, Fx.bulk, bulk_eq d]
  | .map es => by simp only [Rows.uptoBulk, Fx.bulk, bulkEs_eq es]
  | .held _ => rfl
theorem bulks_eq {H : Type} : (ds : List (DataW H)) → Rows.uptoBulkAll ds = Fx.bulks ds
  | [] => rfl
  | d :: ds => by simp only [Rows.uptoBulkAll, Fx.bulks, bulk_eq d, bulks_eq ds]
theorem bulkEs_eq {H : Type} : (es : List (Lit × DataW H)) → Rows.uptoBulkEntries es = Fx.bulkEs es
  | [] => rfl
  | x :: es => by simp only [Rows.uptoBulkEntries, Fx.bulkEs, bulkE_eq x, bulkEs_eq es]
theorem bulkE_eq {H : Type} : (x : Lit × DataW H) → Rows.uptoBulkEntry x = Fx.bulkE x
  | (l, d) => by cases l <;> simp only [Rows.uptoBulkEntry, Fx.bulkE, bulk_eq d]
end
theorem oInt : Opens Tryz.prog 3 Ty.int (fun _ x => I64 x) := Opens.int Tryz.underlying3 (by kernel_rfl)
theorem oAc0 : Opens Tryz.prog 35 tyAc (fun _ x => I64 x.what ∧ I64 x.x ∧ I64 x.y ∧ I64 x.nm) :=
  Opens.via (Opens.struct (OpensFs.cons (f := _) oInt rfl (OpensFs.cons oInt rfl (OpensFs.cons oInt rfl (OpensFs.one oInt rfl)))) Tryz.underlying35 (by kernel_rfl)) _ (fun p => ⟨p.1, p.2.1, p.2.2.1, p.2.2.2⟩) (fun _ => rfl)
theorem oActs : Opens Tryz.prog 22 (Ty.slice tyAc) (fun n xs => xs.length + 1 ≤ n ∧ ∀ x ∈ xs, I64 x.what ∧ I64 x.x ∧ I64 x.y ∧ I64 x.nm) := Opens.slice oAc0 Tryz.underlying22 (by kernel_rfl) (by decide)
/-- A block whose cells are laid anew. -/
def setC (cs : Array Value) : Obj → Obj
  | .cells _ t frozen => .cells cs t frozen
  | o => o
/-- A world for the witness: the settled one, the tables holding what their initialisers lay. -/
noncomputable def laidWorld (os : Os) : World :=
  { World.holding Tryz.prog os ⟨#[], #[], []⟩ with heap := (((World.holding Tryz.prog os ⟨#[], #[], []⟩).heap.modify 2 (setC #[.int .u8 0, .int .u8 1, .int .u8 28, .int .u8 2, .int .u8 29, .int .u8 14, .int .u8 24, .int .u8 3, .int .u8 30, .int .u8 22, .int .u8 20, .int .u8 15, .int .u8 25, .int .u8 17, .int .u8 4, .int .u8 8, .int .u8 31, .int .u8 27, .int .u8 13, .int .u8 23, .int .u8 21, .int .u8 19, .int .u8 16, .int .u8 7, .int .u8 26, .int .u8 12, .int .u8 18, .int .u8 6, .int .u8 11, .int .u8 5, .int .u8 10, .int .u8 9])).modify 3 (setC #[.int .u8 0, .int .u8 1, .int .u8 56, .int .u8 2, .int .u8 57, .int .u8 49, .int .u8 28, .int .u8 3, .int .u8 61, .int .u8 58, .int .u8 42, .int .u8 50, .int .u8 38, .int .u8 29, .int .u8 17, .int .u8 4, .int .u8 62, .int .u8 47, .int .u8 59, .int .u8 36, .int .u8 45, .int .u8 43, .int .u8 51, .int .u8 22, .int .u8 53, .int .u8 39, .int .u8 33, .int .u8 30, .int .u8 24, .int .u8 18, .int .u8 12, .int .u8 5, .int .u8 63, .int .u8 55, .int .u8 48, .int .u8 27, .int .u8 60, .int .u8 41, .int .u8 37, .int .u8 16, .int .u8 46, .int .u8 35, .int .u8 44, .int .u8 21, .int .u8 52, .int .u8 32, .int .u8 23, .int .u8 11, .int .u8 54, .int .u8 26, .int .u8 40, .int .u8 15, .int .u8 34, .int .u8 20, .int .u8 31, .int .u8 10, .int .u8 25, .int .u8 14, .int .u8 19, .int .u8 9, .int .u8 13, .int .u8 8, .int .u8 7, .int .u8 6])).modify 1 (setC #[.int .u64 1, .int .u64 10, .int .u64 100, .int .u64 1000, .int .u64 10000, .int .u64 100000, .int .u64 1000000, .int .u64 10000000, .int .u64 100000000, .int .u64 1000000000, .int .u64 10000000000, .int .u64 100000000000, .int .u64 1000000000000, .int .u64 10000000000000, .int .u64 100000000000000, .int .u64 1000000000000000, .int .u64 10000000000000000, .int .u64 100000000000000000, .int .u64 1000000000000000000, .int .u64 10000000000000000000]) }
end Go.Fx.YtjpdhfhiimbpgaaGreatDoor
set_option linter.unusedSimpArgs false
set_option linter.unusedVariables false
set_option linter.unusedSectionVars false
namespace Go.Fx.YtjpdhfhiimbpgaaGreatDoor
open Go Go.Fx Go.Proofs
set_option maxRecDepth 20000
theorem uni_comm {A B : Hp} (h : Dj A B) : uni A B = uni B A := by
  funext b
  simp only [uni]
  rcases h b with e | e
  · rw [e]; cases B b <;> rfl
  · rw [e]; cases A b <;> rfl
theorem uni_assoc (A B C : Hp) : uni (uni A B) C = uni A (uni B C) := by
  funext b
  simp only [uni]
  cases A b <;> rfl
theorem non_uni (A : Hp) : uni non A = A := by
  funext b
  simp only [uni, non]
  cases A b <;> rfl
theorem Dj.non_r (A : Hp) : Dj A non := fun b => .inr rfl
theorem Dj.uni_r {A B C : Hp} (h : Dj A B) (k : Dj A C) : Dj A (uni B C) := (Dj.uni_left h.symm k.symm).symm
def tyLk : Ty Lk := Ty.str.pair Ty.int
theorem tyLk_open {R : Hp} {x : Lk} {c : List Value} (h : tyLk.rel R x c) : c = [.string x.1, .int .i64 x.2] := by
  obtain ⟨c1, c2, rfl, e1, e2⟩ := h
  have h1 : c1 = [_] := e1
  have h2 : c2 = [_] := e2
  subst h1; subst h2
  rfl
theorem tyLk_mk (R : Hp) (t : Str) (n : Int) : tyLk.rel R (t, n) [.string t, .int .i64 n] := ⟨[_], [_], rfl, rfl, rfl⟩
structure Sh where
  nd : Nd
  lks : List Lk
def tySh : Ty Sh := (Ty.int.pair (Ty.int.pair ((Ty.slice Ty.str).pair (Ty.slice tyLk)))).via (fun x => (x.nd.cls, x.nd.ali, x.nd.names, x.lks))
theorem tySh_open {R : Hp} {x : Sh} {c : List Value} (h : tySh.rel R x c) : ∃ v u, c = [.int .i64 x.nd.cls, .int .i64 x.nd.ali, v, u] ∧ RdS Ty.str R v x.nd.names ∧ RdS tyLk R u x.lks := by
  obtain ⟨c1, c2, rfl, e1, c3, c4, rfl, e3, c5, c6, rfl, ⟨v, rfl, h5⟩, u, rfl, h6⟩ := h
  have h1 : c1 = [_] := e1
  have h3 : c3 = [_] := e3
  subst h1; subst h3
  exact ⟨v, u, rfl, h5, h6⟩
theorem tySh_mk {R : Hp} {x : Sh} {v u : Value} (h5 : RdS Ty.str R v x.nd.names) (h6 : RdS tyLk R u x.lks) : tySh.rel R x [.int .i64 x.nd.cls, .int .i64 x.nd.ali, v, u] :=
  ⟨[_], [_, _, _], rfl, rfl, [_], [_, _], rfl, rfl, [_], [_], rfl, ⟨v, rfl, h5⟩, u, rfl, h6⟩
abbrev nds (l : List Sh) : List Nd := l.map Sh.nd
theorem nds_at {l : List Sh} {k : Nat} (h : k < (nds l).length) : (nds l)[k] = (l[k]'(by simpa using h)).nd := by simp
abbrev refB (p : Nat) (vL vR : Value) : Hp := one p (.cells #[vL, vR] 72 (0, 0))
/-- The reference's tree at p, as it is read in R. -/
def RefV (R : Hp) (p : Nat) (l : List Sh) (rs : List Int) : Prop :=
  ∃ vL vR, Le (refB p vL vR) R ∧ RdS tySh R vL l ∧ RdS Ty.int R vR rs ∧ Small (nds l) ∧ (∀ r ∈ rs, ∃ k : Nat, r = (k : Int) ∧ k < (nds l).length) ∧ rs.length ≤ 1000000
theorem RefV.mono {R R' : Hp} {p : Nat} {l : List Sh} {rs : List Int} (h : RefV R p l rs) (g : Le R R') : RefV R' p l rs := by
  obtain ⟨vL, vR, h1, h2, h3, h4⟩ := h
  exact ⟨vL, vR, h1.trans g, h2.mono g, h3.mono g, h4⟩
theorem RefV.can {R : Hp} {p : Nat} {l : List Sh} {rs : List Int} (h : RefV R p l rs) : Cans (nds l) := by
  obtain ⟨_, _, _, _, _, h, _⟩ := h
  exact h.can
structure Sn where
  nd : Nd
  lks : List Lk
  v : Value
def Sn.sh (x : Sn) : Sh := ⟨x.nd, x.lks⟩
def tyRaw : Ty Value where
  sz := 1
  rel _ v cs := cs = [v] ∧ ∃ a n cap, v = .slice a n cap
  mono _ h := h
  len h := by rw [h.1]; rfl
  ones h := by obtain ⟨rfl, _, _, _, rfl⟩ := h; rfl
def tySn : Ty Sn := (Ty.int.pair (Ty.int.pair ((Ty.slice Ty.str).pair tyRaw))).via (fun x => (x.nd.cls, x.nd.ali, x.nd.names, x.v))
theorem tySn_open {R : Hp} {x : Sn} {c : List Value} (h : tySn.rel R x c) : ∃ v, c = [.int .i64 x.nd.cls, .int .i64 x.nd.ali, v, x.v] ∧ RdS Ty.str R v x.nd.names ∧ ∃ a n cap, x.v = .slice a n cap := by
  obtain ⟨c1, c2, rfl, e1, c3, c4, rfl, e3, c5, c6, rfl, ⟨v, rfl, h5⟩, h6, h7⟩ := h
  have h1 : c1 = [_] := e1
  have h3 : c3 = [_] := e3
  subst h1; subst h3
  dsimp only at h6 h7
  subst h6
  exact ⟨v, rfl, h5, h7⟩
theorem tySn_mk {R : Hp} {x : Sn} {v : Value} (h5 : RdS Ty.str R v x.nd.names) (h7 : ∃ a n cap, x.v = .slice a n cap) : tySn.rel R x [.int .i64 x.nd.cls, .int .i64 x.nd.ali, v, x.v] :=
  ⟨[_], [_, _, _], rfl, rfl, [_], [_, _], rfl, rfl, [_], [_], rfl, ⟨v, rfl, h5⟩, rfl, h7⟩
/-- The links of all shapes, one piece after the other. -/
inductive LnX (R : Hp) : List Sn → Hp → Prop
  | nil : LnX R [] non
  | cons {x xs c1 c2} : OwnL tyLk 91 R x.v x.lks c1 → LnX R xs c2 → Dj c1 c2 → LnX R (x :: xs) (uni c1 c2)
theorem LnX.mono {R R' : Hp} {xs : List Sn} {c : Hp} (h : LnX R xs c) (l : Le R R') : LnX R' xs c := by
  induction h with
  | nil => exact .nil
  | cons h1 _ hd ih => exact .cons (h1.mono l) ih hd
theorem LnX.look {R : Hp} {xs : List Sn} {c : Hp} (h : LnX R xs c) (j : Nat) (hj : j < xs.length) :
    ∃ c1 c2, OwnL tyLk 91 R xs[j].v xs[j].lks c1 ∧ c = uni c1 c2 ∧ Dj c1 c2 ∧ ∀ R' y c1', Le R R' → OwnL tyLk 91 R' y.v y.lks c1' → Dj c1' c2 → LnX R' (xs.set j y) (uni c1' c2) := by
  induction h generalizing j with
  | nil => simp at hj
  | @cons x xs c1 c2 h1 h2 hd ih =>
    cases j with
    | zero => exact ⟨c1, c2, h1, rfl, hd, fun R' y c1' l hy hd' => .cons hy (h2.mono l) hd'⟩
    | succ j =>
      obtain ⟨c3, c4, h3, rfl, hd3, hk⟩ := ih j (by simpa using hj)
      have hd2 : Dj c1 c3 ∧ Dj c1 c4 := by
        have := Dj.of_uni_left hd.symm
        exact ⟨this.1.symm, this.2.symm⟩
      refine ⟨c3, uni c1 c4, h3, ?_, Dj.uni_r hd2.1.symm hd3, fun R' y c1' l hy hd' => ?_⟩
      · rw [← uni_assoc, uni_comm hd2.1, uni_assoc]
      · have k3 := Dj.of_uni_left hd'.symm
        have := LnX.cons (h1.mono l) (hk R' y c1' l hy k3.2.symm) (Dj.uni_r k3.1 hd2.2)
        rw [← uni_assoc, uni_comm k3.1, uni_assoc] at this
        simpa using this
theorem LnX.same {R : Hp} {xs : List Sn} {c : Hp} (h : LnX R xs c) {j : Nat} (hj : j < xs.length) {y : Sn} (hv : y.v = xs[j].v) (he : y.lks = xs[j].lks) : LnX R (xs.set j y) c := by
  obtain ⟨c1, c2, h1, rfl, hd, hk⟩ := h.look j hj
  exact hk R y c1 (Le.refl _) (by rw [hv, he]; exact h1) hd
theorem LnX.app {R : Hp} {xs : List Sn} {c : Hp} (h : LnX R xs c) {y : Sn} (hv : y.v = .slice none 0 0) (he : y.lks = []) : LnX R (xs ++ [y]) c := by
  have hy : OwnL tyLk 91 R y.v y.lks non := by rw [hv, he]; exact OwnL.empty _ _ _
  induction h with
  | nil => have := LnX.cons hy .nil (Dj.non_r non); rw [non_uni] at this; simpa using this
  | @cons x xs c1 c2 h1 h2 hd ih => exact LnX.cons h1 ih hd
/-- The reference's tree at p: it stands for s. -/
def AgrT (xs : List Sn) (s : TS) : Prop := xs.map Sn.nd = s.nodes ∧ ∀ k (h : k < xs.length), xs[k].lks = lks s.next (k : Int)
def RefT (R : Hp) (p : Nat) (s : TS) (c : Hp) : Prop :=
  ∃ xs vL vR cL cX cR, c = uni (refB p vL vR) (tri cL cX cR) ∧ Dj (refB p vL vR) (tri cL cX cR) ∧ Dj cL (uni cX cR) ∧ Dj cX cR ∧
    OwnL tySn 75 R vL xs cL ∧ LnX R xs cX ∧ OwnL Ty.int 3 R vR s.roots cR ∧ AgrT xs s ∧ WF s ∧ Small s.nodes ∧ s.roots.length ≤ 1000000
variable {w w0 : World} {R0 R : Hp} {L0 Lr : List Hp} {p : Nat} {s : TS} {vL vR : Value} {cL cX cR c : Hp} {xs : List Sn}
theorem RefT.lift {R' : Hp} (h : RefT R p s c) (l : Le R R') : RefT R' p s c := by
  obtain ⟨xs, vL, vR, cL, cX, cR, h1, h2, h3, h4, h5, h6, h7, h8⟩ := h
  exact ⟨xs, vL, vR, cL, cX, cR, h1, h2, h3, h4, h5.mono l, h6.mono l, h7.mono l, h8⟩
theorem RefT.opened (h : Step w0 R0 L0 w R (uni (refB p vL vR) (tri cL cX cR) :: Lr)) (h1 : Dj (refB p vL vR) (tri cL cX cR)) (h2 : Dj cL (uni cX cR)) (h3 : Dj cX cR) : Step w0 R0 L0 w R (refB p vL vR :: cL :: cX :: cR :: Lr) :=
  (((h.split h1).front 1 rfl rfl).split3 h2 h3).front 3 rfl rfl
theorem RefT.close (h : Step w0 R0 L0 w R (refB p vL vR :: cL :: cX :: cR :: Lr)) (hL : OwnL tySn 75 R vL xs cL) (hX : LnX R xs cX) (hR : OwnL Ty.int 3 R vR s.roots cR) (ha : AgrT xs s) (hw : WF s) (hs : Small s.nodes) (hr : s.roots.length ≤ 1000000) :
    ∃ c, Step w0 R0 L0 w R (c :: Lr) ∧ RefT R p s c := by
  obtain ⟨h1, d1, d2⟩ := (((h.front 3 rfl rfl).front 3 rfl rfl).front 3 rfl rfl).join3
  have h2 := h1.front 1 rfl rfl
  have d3 := (List.pairwise_cons.1 h2.sats.dj).1 _ (List.mem_cons_self ..)
  exact ⟨_, h2.join, xs, vL, vR, cL, cX, cR, rfl, d3, d1, d2, hL, hX, hR, ha, hw, hs, hr⟩
theorem LnX.read {R' : Hp} {xs : List Sn} {c : Hp} (h : LnX R xs c) (l : Le R R') (k : Le c R') : ∀ x ∈ xs, RdS tyLk R' x.v x.lks := by
  induction h with
  | nil => intro x hx; cases hx
  | @cons x xs c1 c2 h1 h2 hd ih =>
    intro y hy
    rcases List.mem_cons.1 hy with rfl | hy
    · exact h1.freeze l ((uni_l _ _).trans k)
    · exact ih ((uni_r hd).trans k) y hy
theorem Encs.shape {R' : Hp} {xs : List Sn} {cs : List Value} (h : Encs tySn R' xs cs) (hl : ∀ x ∈ xs, RdS tyLk R' x.v x.lks) : Encs tySh R' (xs.map Sn.sh) cs := by
  induction h with
  | nil => exact .nil
  | @cons x c xs cs hx _ ih =>
    refine Encs.cons ?_ (ih fun y hy => hl y (List.mem_cons_of_mem _ hy))
    obtain ⟨v, rfl, h2, _⟩ := tySn_open hx
    exact tySh_mk (x := x.sh) h2 (hl x (List.mem_cons_self ..))
theorem RdS.shape {R' : Hp} {xs : List Sn} {v : Value} (h : RdS tySn R' v xs) (hl : ∀ x ∈ xs, RdS tyLk R' x.v x.lks) : RdS tySh R' v (xs.map Sn.sh) := by
  obtain ⟨a, cap, rfl, hc, hb⟩ := h
  refine ⟨a, cap, by rw [List.length_map], by rw [List.length_map]; exact hc, fun hne => ?_⟩
  obtain ⟨b, off, cs, T, fz, e, h1, h2⟩ := hb (by rintro rfl; exact hne rfl)
  refine ⟨b, off, cs, T, fz, e, h1, ?_⟩
  have := Encs.shape h2 hl
  rw [List.length_map]
  exact this
/-- What the reference's tree is read as. -/
def shs (s : TS) : List Sh := (List.range s.nodes.length).map fun (k : Nat) => ⟨ndL s.nodes k, lks s.next (k : Int)⟩
theorem AgrT.len (h : AgrT xs s) : xs.length = s.nodes.length := by have := congrArg List.length h.1; simpa using this
theorem AgrT.shs (h : AgrT xs s) : xs.map Sn.sh = Fx.YtjpdhfhiimbpgaaGreatDoor.shs s := by
  apply List.ext_getElem?
  intro k
  unfold Fx.YtjpdhfhiimbpgaaGreatDoor.shs
  rw [List.getElem?_map, List.getElem?_map]
  by_cases hk : k < xs.length
  · have hk2 : k < s.nodes.length := by rw [← h.len]; exact hk
    rw [List.getElem?_eq_getElem hk, List.getElem?_range hk2]
    simp only [Option.map_some, Sn.sh]
    have e1 : xs[k].nd = ndL s.nodes k := by
      rw [ndL_eq hk2]
      have := h.1
      have h3 : (xs.map Sn.nd)[k]? = s.nodes[k]? := by rw [this]
      rw [List.getElem?_map, List.getElem?_eq_getElem hk, List.getElem?_eq_getElem hk2] at h3
      exact Option.some.inj h3
    rw [e1, h.2 k hk]
  · have hk2 : ¬ k < s.nodes.length := by rw [← h.len]; exact hk
    rw [List.getElem?_eq_none (by omega), List.getElem?_eq_none (by simp; omega)]
    rfl
theorem nds_shs (s : TS) : nds (shs s) = s.nodes := by
  apply List.ext_getElem?
  intro k
  unfold nds shs
  rw [List.map_map, List.getElem?_map]
  by_cases hk : k < s.nodes.length
  · rw [List.getElem?_range hk, List.getElem?_eq_getElem hk]
    simp only [Option.map_some, Function.comp]
    rw [ndL_eq hk]
  · rw [List.getElem?_eq_none (by simp; omega), List.getElem?_eq_none (by omega)]
    rfl
theorem RefT.view (h : RefT R p s c) (hc : Le c (hp w)) (hR : Le R (hp w)) : RefV (hp w) p (shs s) s.roots := by
  obtain ⟨xs, vL, vR, cL, cX, cR, rfl, h1, h2, h3, hL, hX, hRs, ha, hw, hs, hr⟩ := h
  have e1 := (uni_l _ _).trans hc
  have e2 := (uni_r h1).trans hc
  have hx := hX.read hR ((tri_2 h2).trans e2)
  refine ⟨vL, vR, e1, ?_, hRs.freeze hR ((tri_3 h2 h3).trans e2), by rw [nds_shs]; exact hs, by rw [nds_shs]; exact hw.root, hr⟩
  rw [← ha.shs]
  exact RdS.shape (hL.freeze hR ((tri_1 _ _ _).trans e2)) hx
end Go.Fx.YtjpdhfhiimbpgaaGreatDoor
set_option linter.unusedSimpArgs false
set_option linter.unusedVariables false
namespace Go.Fx.YtjpdhfhiimbpgaaGreatDoor
open Go Go.Fx Go.Proofs
set_option maxRecDepth 20000
theorem ent_10 : Ent Tryz.prog 10 := fun _ _ => by kernel_rfl
theorem ent_23 : Ent Tryz.prog 23 := fun _ _ => by kernel_rfl
end Go.Fx.YtjpdhfhiimbpgaaGreatDoor
set_option linter.unusedSimpArgs false
set_option linter.unusedVariables false
set_option linter.unusedSectionVars false
namespace Go.Fx.YtjpdhfhiimbpgaaGreatDoor
open Go Go.Fx Go.Proofs
set_option maxRecDepth 20000
variable {l : List Sh}
theorem nds_len (l : List Sh) : (nds l).length = l.length := by simp
theorem sh_names (hS : Small (nds l)) {x : Sh} {k : Nat} (hk : k < l.length) (e : x = l[k]) : x.nd.names.length ≤ 1000000 := by
  have := hS.names k (by rw [nds_len]; exact hk)
  rw [nds_at, ← e] at this
  exact this
theorem sh_ali (hS : Small (nds l)) {x : Sh} {k : Nat} (hk : k < l.length) (e : x = l[k]) : x.nd.ali = -1 ∨ 0 ≤ x.nd.ali := by
  have := hS.ali k (by rw [nds_len]; exact hk)
  rw [nds_at, ← e] at this
  exact this
theorem sh_nd {x : Sh} {k : Nat} (hk : k < l.length) (e : x = l[k]) : (nds l)[k]'(by rw [nds_len]; exact hk) = x.nd := by rw [nds_at, ← e]
theorem shNames {x : Sh} {k : Nat} (hk : k < l.length) (e : x = l[k]) : x.nd.names = namesL (nds l) (k : Int) := by rw [namesL_in (by rw [nds_len]; exact hk), sh_nd hk e]
theorem slot_eq (l : List Nd) (k : Int) (t : Str) : slotL l k t = (max (idxS t (namesL l k)) 0, decide (idxS t (namesL l k) ≥ 0)) := by
  unfold slotL namesL
  split <;> rfl
theorem slot_none {l : List Nd} {k : Int} {t : Str} (h : ∀ j (hj : j < (namesL l k).length), ¬ t = (namesL l k)[j]) : slotL l k t = (0, false) := by
  rw [slot_eq, idxS_none h]; rfl
theorem slot_at {l : List Nd} {k : Int} {t : Str} {j : Nat} (hj : j < (namesL l k).length) (h : ∀ i (hi : i < (namesL l k).length), i < j → ¬ t = (namesL l k)[i]) (e : t = (namesL l k)[j]) : slotL l k t = ((j : Int), true) := by
  rw [slot_eq, idxS_at hj h e, Prod.mk.injEq]
  exact ⟨by omega, decide_eq_true (by omega)⟩
theorem find_none {l : List Nd} {c : Int} {xs : List Str} (h : ∀ j (hj : j < l.length), findP c xs l[j] = false) : findL l c xs = (0, false) := by
  unfold findL
  rw [idxN_none h]
  rfl
theorem find_at {l : List Nd} {c : Int} {xs : List Str} {k : Nat} (hk : k < l.length) (h : ∀ j (hj : j < l.length), j < k → findP c xs l[j] = false) (e : findP c xs l[k] = true) : findL l c xs = ((k : Int), true) := by
  unfold findL
  rw [idxN_at hk h e, Prod.mk.injEq]
  exact ⟨by omega, decide_eq_true (by omega)⟩
theorem findP_f1 {c : Int} {xs : List Str} {x : Nd} (h : ¬ x.ali < 0) : findP c xs x = false := by unfold findP; simp [h]
theorem findP_f2 {c : Int} {xs : List Str} {x : Nd} (h : ¬ x.cls = c) : findP c xs x = false := by unfold findP sameN; simp [h]
theorem findP_f3 {c : Int} {xs : List Str} {x : Nd} (h : ¬ x.names = xs) : findP c xs x = false := by unfold findP sameN; simp [h]
theorem findP_t {c : Int} {xs : List Str} {x : Nd} (h : x.ali < 0) (h2 : x.cls = c) (h3 : x.names = xs) : findP c xs x = true := by unfold findP sameN; simp [h, h2, h3]
end Go.Fx.YtjpdhfhiimbpgaaGreatDoor
set_option linter.unusedSimpArgs false
set_option linter.unusedVariables false
set_option linter.unusedSectionVars false
namespace Go.Fx.YtjpdhfhiimbpgaaGreatDoor
open Go Go.Fx Go.Proofs Go.MapKept
set_option maxRecDepth 20000
def okP (names : List Str) (k : Nat) : Bool := decide (names.length ≤ 64 ∧ eStr ∉ names.take k ∧ (names.take k).Nodup)
theorem take_nodup {names : List Str} {k : Nat} (hk : k < names.length) : (names.take (k + 1)).Nodup ↔ (names.take k).Nodup ∧ names[k] ∉ names.take k := by
  rw [List.take_succ_eq_append_getElem hk, List.nodup_append]
  constructor
  · rintro ⟨h1, _, h3⟩
    exact ⟨h1, fun hm => h3 _ hm _ (List.mem_singleton.2 rfl) rfl⟩
  · rintro ⟨h1, h2⟩
    refine ⟨h1, List.nodup_cons.2 ⟨by simp, List.nodup_nil⟩, fun a ha b hb e => h2 ?_⟩
    obtain rfl := List.mem_singleton.1 hb
    rw [← e]; exact ha
theorem okP_t {names : List Str} {k : Nat} (hk : k < names.length) (h : okP names k = true) (h2 : ¬ names[k] = eStr) (h3 : names[k] ∉ names.take k) : true = okP names (k + 1) := by
  symm
  unfold okP at *
  rw [decide_eq_true_eq] at *
  refine ⟨h.1, ?_, (take_nodup hk).2 ⟨h.2.2, h3⟩⟩
  rw [List.take_succ_eq_append_getElem hk]
  intro hm
  rcases List.mem_append.1 hm with hm | hm
  · exact h.2.1 hm
  · exact h2 (List.mem_singleton.1 hm).symm
theorem okP_zero (names : List Str) : decide ((names.length : Int) ≤ 64) = okP names 0 := by
  unfold okP
  rw [decide_eq_decide]
  constructor
  · intro q; exact ⟨by omega, by simp, by simp⟩
  · intro q; omega
theorem okP_all {names : List Str} {k : Nat} (hk : names.length ≤ k) : okP names k = true ↔ names.length ≤ 64 ∧ eStr ∉ names ∧ names.Nodup := by
  unfold okP
  rw [decide_eq_true_eq, List.take_of_length_le hk]
variable {n : Int} {s : TS}
end Go.Fx.YtjpdhfhiimbpgaaGreatDoor
set_option linter.unusedSimpArgs false
set_option linter.unusedVariables false
set_option linter.unusedSectionVars false
namespace Go.Fx.YtjpdhfhiimbpgaaGreatDoor
open Go Go.Fx Go.Proofs
set_option maxRecDepth 20000
variable {n : Int} {s : TS}
theorem canonN {l : List Nd} (h : Cans l) {k : Nat} (hk : k < l.length) : canon l (k : Int) = (cn l k : Int) := by
  obtain ⟨d, hc⟩ := h.has hk
  exact canon_in hc
end Go.Fx.YtjpdhfhiimbpgaaGreatDoor
set_option linter.unusedSimpArgs false
set_option linter.unusedVariables false
namespace Go.Fx.YtjpdhfhiimbpgaaGreatDoor
open Go Go.Fx Go.Proofs
set_option maxRecDepth 20000
theorem ent_33 : Ent Tryz.prog 33 := fun _ _ => by kernel_rfl
theorem ent_35 : Ent Tryz.prog 35 := fun _ _ => by kernel_rfl
theorem ent_62 : Ent Tryz.prog 62 := fun _ _ => by kernel_rfl
theorem sl_70 : SL Tryz.prog 70 75 := Tryz.underlying70
theorem ti_70 : TI Tryz.prog 70 false 1 24 (.slice none 0 0) := ⟨by kernel_rfl, by kernel_rfl⟩
theorem ti_75 : TI Tryz.prog 75 true 4 64 (.agg #[(.int .i64 0), (.int .i64 0), (.slice none 0 0), (.slice none 0 0)]) := ⟨by kernel_rfl, by kernel_rfl⟩
theorem thereR_spec {w : World} {R : Hp} {p : Nat} {l : List Sh} {rs : List Int} (k : Int) (hT : RefV R p l rs) (hR : Le R (hp w)) :
    Calls Tryz.prog 62 #[ptr p 0, int k] w fun e w' => e = .returned (.bool (thereL (nds l) k)) ∧ Grow w w' := by
 have hT0 := hT
 obtain ⟨vL, vR, hp0, hL, hRs, hS, hrv, hrl⟩ := hT
 have hlen := hS.len
 have hnl := nds_len l
 have hst := Step.ro hR
 refine calls_of_W (n := 16) Tryz.func62 rfl Tryz.ntmps62 (Nat.le_of_ble_eq_true rfl) ?_
 refine W_seq ?_
 refine W_region_lit ?_
 refine Lq (.bool false) rfl rfl rfl rfl ?_
 refine L_nil ?_
 refine W_seq ?_
 refine W_region_lit ?_
 refine Lq (int k) rfl rfl rfl rfl ?_
 refine Lq (.bool (decide (k ≥ 0))) rfl rfl rfl (by kernel_rfl) ?_
 refine Lq (.bool (decide (k ≥ 0))) rfl rfl rfl rfl ?_
 rcases Bool.eq_false_or_eq_true (decide (k ≥ 0)) with c1 | c1
 ·
  have q2 := of_decide_eq_true c1
  refine L_guard rfl rfl rfl rfl c1 ?_
  refine Lq (int k) rfl rfl rfl rfl ?_
  refine L_guard rfl rfl rfl rfl c1 ?_
  refine Lq (ptr p 0) rfl rfl rfl rfl ?_
  refine L_guard rfl rfl rfl rfl c1 ?_
  refine Lq (ptr p 0) rfl rfl rfl rfl ?_
  refine L_guard rfl rfl rfl rfl c1 ?_
  refine Lq (ptr p 0) rfl rfl rfl (by kernel_rfl) ?_
  refine L_guard rfl rfl rfl rfl c1 ?_
  refine Lq vL rfl rfl rfl (x_load rfl rfl (run_loadVar_one ti_70 (hst.rle' _ _ (hp0 _ _ (one_self _ _))) rfl)) ?_
  refine L_guard rfl rfl rfl rfl c1 ?_
  obtain ⟨a3, cap4, e5, hc6⟩ := hL.shape
  subst e5
  refine Lq (int (l.length : Int)) rfl rfl rfl (x_len_slice rfl sl_70 rfl) ?_
  refine L_guard rfl rfl rfl rfl c1 ?_
  refine Lq (.bool (decide (k < (l.length : Int)))) rfl rfl rfl (by kernel_rfl) ?_
  refine Lq (.bool (decide (k < (l.length : Int)))) rfl rfl rfl (x_pick rfl rfl (by rw [c1]; rfl)) ?_
  refine Lq (.bool (decide (k < (l.length : Int)))) rfl rfl rfl rfl ?_
  refine L_nil ?_
  refine W_ret ?_
  refine ⟨_, _, res_run (rs := [.tmp 4]) (vs := [(.bool (decide (k < (l.length : Int))))]) Tryz.results62 (.cons (.tmp rfl) .nil) rfl, ?_⟩
  exact ⟨ret_bool (by unfold thereL; rw [Bool.eq_iff_iff]; (try simp only [decide_eq_true_eq, Bool.false_eq_true, false_iff, true_iff]); omega), hst.grow⟩
 ·
  have q7 := of_decide_eq_false c1
  refine L_unwanted rfl rfl rfl rfl (by rw [c1]; try rfl) rfl rfl ?_
  refine L_unwanted rfl rfl rfl rfl (by rw [c1]; try rfl) rfl rfl ?_
  refine L_unwanted rfl rfl rfl rfl (by rw [c1]; try rfl) rfl rfl ?_
  refine L_unwanted rfl rfl rfl rfl (by rw [c1]; try rfl) rfl rfl ?_
  refine L_unwanted rfl rfl rfl rfl (by rw [c1]; try rfl) rfl rfl ?_
  refine L_unwanted rfl rfl rfl rfl (by rw [c1]; try rfl) rfl rfl ?_
  refine L_unwanted rfl rfl rfl rfl (by rw [c1]; try rfl) rfl rfl ?_
  refine Lq (.bool false) rfl rfl rfl (x_pick rfl rfl (by rw [c1]; rfl)) ?_
  refine Lq (.bool false) rfl rfl rfl rfl ?_
  refine L_nil ?_
  refine W_ret ?_
  refine ⟨_, _, res_run (rs := [.tmp 4]) (vs := [(.bool false)]) Tryz.results62 (.cons (.tmp rfl) .nil) rfl, ?_⟩
  exact ⟨ret_bool (by unfold thereL; rw [Bool.eq_iff_iff]; (try simp only [decide_eq_true_eq, Bool.false_eq_true, false_iff, true_iff]); omega), hst.grow⟩
theorem CountR_spec {w : World} {R : Hp} {p : Nat} {l : List Sh} {rs : List Int}  (hT : RefV R p l rs) (hR : Le R (hp w)) :
    Calls Tryz.prog 17 #[ptr p 0] w fun e w' => e = .returned (int ((nds l).length : Int)) ∧ Grow w w' := by
 have hT0 := hT
 obtain ⟨vL, vR, hp0, hL, hRs, hS, hrv, hrl⟩ := hT
 have hlen := hS.len
 have hnl := nds_len l
 have hst := Step.ro hR
 refine calls_of_W (n := 8) Tryz.func17 rfl Tryz.ntmps17 (Nat.le_of_ble_eq_true rfl) ?_
 refine W_seq ?_
 refine W_region_lit ?_
 refine Lq (int 0) rfl rfl rfl rfl ?_
 refine L_nil ?_
 refine W_seq ?_
 refine W_region_lit ?_
 refine Lq (ptr p 0) rfl rfl rfl rfl ?_
 refine Lq (ptr p 0) rfl rfl rfl rfl ?_
 refine Lq (ptr p 0) rfl rfl rfl (by kernel_rfl) ?_
 refine Lq vL rfl rfl rfl (x_load rfl rfl (run_loadVar_one ti_70 (hst.rle' _ _ (hp0 _ _ (one_self _ _))) rfl)) ?_
 obtain ⟨a1, cap2, e3, hc4⟩ := hL.shape
 subst e3
 refine Lq (int (l.length : Int)) rfl rfl rfl (x_len_slice rfl sl_70 rfl) ?_
 refine Lq (int (l.length : Int)) rfl rfl rfl rfl ?_
 refine L_nil ?_
 refine W_ret ?_
 refine ⟨_, _, res_run (rs := [.tmp 2]) (vs := [(int (l.length : Int))]) Tryz.results17 (.cons (.tmp rfl) .nil) rfl, ?_⟩
 exact ⟨ret_int (by rw [hnl]), hst.grow⟩
theorem CanonR_spec {w : World} {R : Hp} {p : Nat} {l : List Sh} {rs : List Int} (k : Int) (hT : RefV R p l rs) (hR : Le R (hp w)) :
    Calls Tryz.prog 35 #[ptr p 0, int k] w fun e w' => e = .returned (int (canon (nds l) k)) ∧ Grow w w' := by
 have hT0 := hT
 obtain ⟨vL, vR, hp0, hL, hRs, hS, hrv, hrl⟩ := hT
 have hlen := hS.len
 have hnl := nds_len l
 have hst := Step.ro hR
 refine calls_of_W (n := 27) Tryz.func35 rfl Tryz.ntmps35 (Nat.le_of_ble_eq_true rfl) ?_
 refine W_seq ?_
 refine W_region_lit ?_
 refine Lq (int 0) rfl rfl rfl rfl ?_
 refine L_nil ?_
 refine W_seq ?_
 refine W_seq ?_
 refine W_region_lit ?_
 refine Lq (ptr p 0) rfl rfl rfl rfl ?_
 refine Lq (int k) rfl rfl rfl rfl ?_
 refine L_callG hst (v := (.bool (thereL (nds l) k))) rfl rfl rfl (x_call (vs := #[(ptr p 0), (int k)]) rfl rfl (by kernel_rfl) ent_62) (thereR_spec k hT0 hst.rle') (fun w1 hst2 => ?_)
 refine Lq (.bool (!(thereL (nds l) k))) rfl rfl rfl rfl ?_
 refine L_nil ?_
 rcases Bool.eq_false_or_eq_true (thereL (nds l) k) with c3 | c3
 ·
  have q4 := thereL_iff.1 c3
  refine W_cond_false (by show Value.bool _ = _; exact congrArg Value.bool (by rw [c3]; rfl)) ?_
  refine W_skip ?_
  refine W_seq ?_
  refine W_block ?_
  obtain ⟨kn, rfl⟩ : ∃ n : Nat, k = (n : Int) := ⟨k.toNat, by omega⟩
  obtain ⟨d0, hcn0⟩ := hS.can.has (k := kn) (by omega)
  obtain ⟨c0, hc0⟩ : ∃ c_, c_ = cn (nds l) kn := ⟨_, rfl⟩
  rw [← hc0] at hcn0
  refine W_loop (I := fun σ w_ m_ => ∃ (σ0 : Fr) (d_ : Nat) (k_ : Nat), σ = upd (upd (upd (upd (upd (upd (upd σ0 0 (ptr p 0)) 1 (int (k_ : Int))) 4 (int 0)) 5 (ptr p 0)) 6 (int (kn : Int))) 7 (.bool (thereL (nds l) (kn : Int)))) 8 (.bool (!(thereL (nds l) (kn : Int)))) ∧ mks (σ0 0) = [] ∧ Step w R [] w_ R [] ∧ Cn (nds l) d_ k_ c0 ∧ m_ = (d_ + 1)) (m := (d0 + 1)) ?_ ?_
  ·
   exact ⟨_, d0, kn, (upd_of (upd_of (upd_of (upd_of (upd_of (upd_of (upd_of rfl rfl) rfl) rfl) rfl) rfl) rfl) rfl), rfl, hst2, hcn0, rfl⟩
  ·
   rintro m13 σ_ w7 ⟨s10, d_11, k_12, rfl, hmk5, hst6, hf9, rfl⟩
   have hfk := hf9.fst
   refine W_seq ?_
   refine W_seq ?_
   refine W_region_lit ?_
   refine Lq (ptr p 0) rfl rfl rfl rfl ?_
   refine Lq (ptr p 0) rfl rfl rfl rfl ?_
   refine Lq (ptr p 0) rfl rfl rfl (by kernel_rfl) ?_
   refine Lq vL rfl rfl rfl (x_load rfl rfl (run_loadVar_one ti_70 (hst6.rle' _ _ (hp0 _ _ (one_self _ _))) rfl)) ?_
   refine Lq (int (k_12 : Int)) rfl rfl rfl rfl ?_
   obtain ⟨a14, cap15, e16, hc17⟩ := hL.shape
   subst e16
   obtain ⟨b18, off19, cap20, cs21, T22, fz23, e24, hc25, hb26, he27⟩ := hL.open (by omega)
   cases e24
   obtain ⟨cl28, hs29, hr30⟩ := he27.at k_12 (by omega)
   obtain ⟨x31, hx32⟩ : ∃ x_, x_ = (l[k_12]'(by omega)) := ⟨_, rfl⟩
   rw [← hx32] at hr30
   have hb33 := sh_names hS (by omega) hx32
   have hb34 := sh_ali hS (by omega) hx32
   obtain ⟨vn35, vl36, rfl, hvn37, hvl38⟩ := tySh_open hr30
   refine Lq (ptr b18 (off19 + k_12 * 4)) rfl rfl rfl (x_indexAddr' rfl sl_70 ti_75 rfl rfl (by omega)) ?_
   refine Lq (ptr b18 (off19 + k_12 * 4 + 1)) rfl rfl rfl (by kernel_rfl) ?_
   refine Lq (int x31.nd.ali) rfl rfl rfl (x_load rfl rfl (run_loadVar_one ti_3 (hst6.rle' _ _ hb26) (seg_get (j := 1) hs29 rfl))) ?_
   refine Lq (.bool (decide (x31.nd.ali ≥ 0))) rfl rfl rfl (by kernel_rfl) ?_
   refine L_nil ?_
   rcases Bool.eq_false_or_eq_true (decide (x31.nd.ali ≥ 0)) with c39 | c39
   ·
    have q40 := of_decide_eq_true c39
    refine W_cond_true (by show Value.bool _ = _; exact congrArg Value.bool c39) ?_
    refine W_skip ?_
    refine W_block ?_
    obtain ⟨d', a, hd', ha, hc'⟩ := hf9.inv (hk := by omega) (by rw [sh_nd (by omega) hx32]; exact (of_decide_eq_true c39))
    rw [sh_nd (by omega) hx32] at ha
    refine W_region_lit ?_
    refine Lq (ptr p 0) rfl rfl rfl rfl ?_
    refine Lq (ptr p 0) rfl rfl rfl rfl ?_
    refine Lq (ptr p 0) rfl rfl rfl (by kernel_rfl) ?_
    refine Lq (.slice (some ⟨b18, off19, none⟩) l.length cap15) rfl rfl rfl (x_load rfl rfl (run_loadVar_one ti_70 (hst6.rle' _ _ (hp0 _ _ (one_self _ _))) rfl)) ?_
    refine Lq (int (k_12 : Int)) rfl rfl rfl rfl ?_
    obtain ⟨cl41, hs42, hr43⟩ := he27.at k_12 (by omega)
    rw [← hx32] at hr43
    obtain ⟨vn44, vl45, rfl, hvn46, hvl47⟩ := tySh_open hr43
    refine Lq (ptr b18 (off19 + k_12 * 4)) rfl rfl rfl (x_indexAddr' rfl sl_70 ti_75 rfl rfl (by omega)) ?_
    refine Lq (ptr b18 (off19 + k_12 * 4 + 1)) rfl rfl rfl (by kernel_rfl) ?_
    refine Lq (int x31.nd.ali) rfl rfl rfl (x_load rfl rfl (run_loadVar_one ti_3 (hst6.rle' _ _ hb26) (seg_get (j := 1) hs42 rfl))) ?_
    rw [ha]
    refine Lq (int (a : Int)) rfl rfl rfl rfl ?_
    refine L_nil ?_
    refine ⟨(d' + 1), by first | omega | (simp only [List.length_append, List.length_cons, List.length_nil]; omega), ?_⟩
    exact ⟨_, d', a, (upd_of (upd_of (upd_of (upd_of (upd_of (upd_of (upd_of rfl rfl) rfl) rfl) rfl) rfl) rfl) rfl), hmk5, hst6, hc', rfl⟩
   ·
    have q48 := of_decide_eq_false c39
    refine W_cond_false (by show Value.bool _ = _; exact congrArg Value.bool c39) ?_
    refine W_exit ?_
    refine W_seq ?_
    refine W_region_lit ?_
    refine Lq (int (k_12 : Int)) rfl rfl rfl rfl ?_
    refine Lq (int (k_12 : Int)) rfl rfl rfl rfl ?_
    refine L_nil ?_
    refine W_ret ?_
    refine ⟨_, _, res_run (rs := [.tmp 4]) (vs := [(int (k_12 : Int))]) Tryz.results35 (.cons (.tmp rfl) .nil) hmk5, ?_⟩
    have hstop := hf9.stop (hk := by omega) (by rw [sh_nd (by omega) hx32]; have := of_decide_eq_false c39; omega)
    exact ⟨ret_int (by rw [canonN hS.can (k := kn) (by omega), ← hc0, hstop]), hst6.grow⟩
 ·
  have q49 := thereL_not.1 c3
  refine W_cond_true (by show Value.bool _ = _; exact congrArg Value.bool (by rw [c3]; rfl)) ?_
  refine W_seq ?_
  refine W_region_lit ?_
  refine Lq (int (-1)) rfl rfl rfl rfl ?_
  refine L_nil ?_
  refine W_ret ?_
  refine ⟨_, _, res_run (rs := [.tmp 4]) (vs := [(int (-1))]) Tryz.results35 (.cons (.tmp rfl) .nil) rfl, ?_⟩
  exact ⟨ret_int (by rw [canon_out (thereL_not.1 c3)]), hst2.grow⟩
theorem NamesR_w {w : World} {p : Nat} {l : List Sh} {rs : List Int} (k : Int) (hT : RefV (hp w) p l rs) :
    Calls Tryz.prog 33 #[ptr p 0, int k] w (Comes' w (hp w) [] fun v' R' L' => ∃ c', L' = [c'] ∧ OwnL Ty.str 9 R' v' (namesL (nds l) k) c') := by
 have hT0 := hT
 obtain ⟨vL, vR, hp0, hL, hRs, hS, hrv, hrl⟩ := hT
 have hlen := hS.len
 have hnl := nds_len l
 have hst := Step.ro (Le.refl (hp w))
 refine calls_of_W (n := 19) Tryz.func33 rfl Tryz.ntmps33 (Nat.le_of_ble_eq_true rfl) ?_
 refine W_seq ?_
 refine W_region_lit ?_
 refine Lq (.slice none 0 0) rfl rfl rfl rfl ?_
 refine L_nil ?_
 refine W_seq ?_
 refine W_seq ?_
 refine W_region_lit ?_
 refine Lq (ptr p 0) rfl rfl rfl rfl ?_
 refine Lq (int k) rfl rfl rfl rfl ?_
 refine L_callG hst (v := (.bool (thereL (nds l) k))) rfl rfl rfl (x_call (vs := #[(ptr p 0), (int k)]) rfl rfl (by kernel_rfl) ent_62) (thereR_spec k hT0 hst.rle') (fun w1 hst2 => ?_)
 refine Lq (.bool (!(thereL (nds l) k))) rfl rfl rfl rfl ?_
 refine L_nil ?_
 rcases Bool.eq_false_or_eq_true (thereL (nds l) k) with c3 | c3
 ·
  have q4 := thereL_iff.1 c3
  refine W_cond_false (by show Value.bool _ = _; exact congrArg Value.bool (by rw [c3]; rfl)) ?_
  refine W_skip ?_
  refine W_seq ?_
  obtain ⟨kn, rfl⟩ : ∃ n : Nat, k = (n : Int) := ⟨k.toNat, by omega⟩
  refine W_region_lit ?_
  refine L_new hst2 (v := fun b => .slice (some ⟨b, 0, none⟩) 0 0) (ob := .cells #[] 9 (0, 0)) rfl rfl rfl (by kernel_rfl) (fun b5 w6 hst7 => ?_)
  refine Lq (ptr p 0) rfl rfl rfl rfl ?_
  refine Lq (ptr p 0) rfl rfl rfl rfl ?_
  refine Lq (ptr p 0) rfl rfl rfl (by kernel_rfl) ?_
  refine Lq vL rfl rfl rfl (x_load rfl rfl (run_loadVar_one ti_70 (hst7.rle' _ _ (hp0 _ _ (one_self _ _))) rfl)) ?_
  refine Lq (int (kn : Int)) rfl rfl rfl rfl ?_
  obtain ⟨a8, cap9, e10, hc11⟩ := hL.shape
  subst e10
  obtain ⟨b12, off13, cap14, cs15, T16, fz17, e18, hc19, hb20, he21⟩ := hL.open (by omega)
  cases e18
  obtain ⟨cl22, hs23, hr24⟩ := he21.at kn (by omega)
  obtain ⟨x25, hx26⟩ : ∃ x_, x_ = (l[kn]'(by omega)) := ⟨_, rfl⟩
  rw [← hx26] at hr24
  have hb27 := sh_names hS (by omega) hx26
  have hb28 := sh_ali hS (by omega) hx26
  obtain ⟨vn29, vl30, rfl, hvn31, hvl32⟩ := tySh_open hr24
  refine Lq (ptr b12 (off13 + kn * 4)) rfl rfl rfl (x_indexAddr' rfl sl_70 ti_75 rfl rfl (by omega)) ?_
  refine Lq (ptr b12 (off13 + kn * 4 + 2)) rfl rfl rfl (by kernel_rfl) ?_
  refine Lq vn29 rfl rfl rfl (x_load rfl rfl (run_loadVar_one ti_42 (hst7.rle' _ _ hb20) (seg_get (j := 2) hs23 rfl))) ?_
  have ho33 : OwnL Ty.str 9 (hp w) (.slice (some ⟨b5, 0, none⟩) 0 0) ([] : List Str) (one b5 (.cells #[] 9 (0, 0))) := OwnL.lit (cs := []) Encs.nil rfl (by decide)
  obtain ⟨v34, c35, w36, hr37, ho38, hst39⟩ := run_appendM (P := Tryz.prog) (tt := 42) sl_42 ti_9 rfl ho33 hst7 (RdS.mono hvn31 (Le.refl _)) hst7.rle' (by simp only [List.length_append, List.length_cons, List.length_nil]; omega) (by simp only [List.length_append, List.length_cons, List.length_nil, maxLen]; omega)
  refine L_val (v := v34) (w' := w36) rfl rfl rfl (x_append rfl rfl rfl hr37) ?_
  refine Lq v34 rfl rfl rfl rfl ?_
  refine L_nil ?_
  refine W_ret ?_
  refine ⟨_, _, res_run (rs := [.tmp 4]) (vs := [v34]) Tryz.results33 (.cons (.tmp rfl) .nil) rfl, ?_⟩
  exact ⟨_, (hp w), _, rfl, (hst39).keepN 1 rfl, _, rfl, by rw [← shNames (by omega) hx26]; exact ho38⟩
 ·
  have q40 := thereL_not.1 c3
  refine W_cond_true (by show Value.bool _ = _; exact congrArg Value.bool (by rw [c3]; rfl)) ?_
  refine W_seq ?_
  refine W_region_lit ?_
  refine Lq (.slice none 0 0) rfl rfl rfl rfl ?_
  refine L_nil ?_
  refine W_ret ?_
  refine ⟨_, _, res_run (rs := [.tmp 4]) (vs := [(.slice none 0 0)]) Tryz.results33 (.cons (.tmp rfl) .nil) rfl, ?_⟩
  exact ⟨_, _, [non], rfl, hst2.nothing, non, rfl, by rw [namesL_out c3]; exact OwnL.empty _ _ _⟩
theorem NamesR_spec {w : World} {R : Hp} {p : Nat} {l : List Sh} {rs : List Int} (k : Int) (hs : Sats w R []) (hT : RefV (hp w) p l rs) : Calls Tryz.prog 33 #[ptr p 0, int k] w (Comes' w R [] fun v' R' L' => ∃ c', L' = [c'] ∧ OwnL Ty.str 9 R' v' (namesL (nds l) k) c') := by
  refine (NamesR_w k hT).mono ?_
  rintro e w' ⟨v, R', L', rfl, hst, c', rfl, ho⟩
  exact ⟨v, R, [c'], rfl, Step.gain (Step.refl hs) hst, c', rfl, OwnL.restr ho⟩
theorem namesL_small {l : List Nd} (h : Small l) (k : Int) : (namesL l k).length ≤ 1000000 := namesL_len h k
theorem RootR_spec {w : World} {R : Hp} {p : Nat} {l : List Sh} {rs : List Int} (k : Int) (hT : RefV R p l rs) (hR : Le R (hp w)) :
    Calls Tryz.prog 37 #[ptr p 0, int k] w fun e w' => e = .returned (int (rootL (nds l) rs k)) ∧ Grow w w' := by
 have hT0 := hT
 obtain ⟨vL, vR, hp0, hL, hRs, hS, hrv, hrl⟩ := hT
 have hlen := hS.len
 have hnl := nds_len l
 have hst := Step.ro hR
 refine calls_of_W (n := 25) Tryz.func37 rfl Tryz.ntmps37 (Nat.le_of_ble_eq_true rfl) ?_
 refine W_seq ?_
 refine W_region_lit ?_
 refine Lq (int 0) rfl rfl rfl rfl ?_
 refine L_nil ?_
 refine W_seq ?_
 refine W_seq ?_
 refine W_region_lit ?_
 refine Lq (int k) rfl rfl rfl rfl ?_
 refine Lq (.bool (decide (k < 0))) rfl rfl rfl (by kernel_rfl) ?_
 refine Lq (.bool (decide (k < 0))) rfl rfl rfl rfl ?_
 rcases Bool.eq_false_or_eq_true (decide (k < 0)) with c1 | c1
 ·
  have q2 := of_decide_eq_true c1
  refine L_unwanted rfl rfl rfl rfl (by rw [c1]; try rfl) rfl rfl ?_
  refine L_unwanted rfl rfl rfl rfl (by rw [c1]; try rfl) rfl rfl ?_
  refine L_unwanted rfl rfl rfl rfl (by rw [c1]; try rfl) rfl rfl ?_
  refine L_unwanted rfl rfl rfl rfl (by rw [c1]; try rfl) rfl rfl ?_
  refine L_unwanted rfl rfl rfl rfl (by rw [c1]; try rfl) rfl rfl ?_
  refine L_unwanted rfl rfl rfl rfl (by rw [c1]; try rfl) rfl rfl ?_
  refine L_unwanted rfl rfl rfl rfl (by rw [c1]; try rfl) rfl rfl ?_
  refine Lq (.bool true) rfl rfl rfl (x_pick rfl rfl (by rw [c1]; rfl)) ?_
  refine L_nil ?_
  refine W_cond_true (by show Value.bool _ = _; exact congrArg Value.bool rfl) ?_
  refine W_seq ?_
  refine W_region_lit ?_
  refine Lq (int (-1)) rfl rfl rfl rfl ?_
  refine L_nil ?_
  refine W_ret ?_
  refine ⟨_, _, res_run (rs := [.tmp 4]) (vs := [(int (-1))]) Tryz.results37 (.cons (.tmp rfl) .nil) rfl, ?_⟩
  exact ⟨ret_int (rootL_out (by omega)).symm, hst.grow⟩
 ·
  have q3 := of_decide_eq_false c1
  refine L_guard rfl rfl rfl rfl c1 ?_
  refine Lq (int k) rfl rfl rfl rfl ?_
  refine L_guard rfl rfl rfl rfl c1 ?_
  refine Lq (ptr p 0) rfl rfl rfl rfl ?_
  refine L_guard rfl rfl rfl rfl c1 ?_
  refine Lq (ptr p 0) rfl rfl rfl rfl ?_
  refine L_guard rfl rfl rfl rfl c1 ?_
  refine Lq (ptr p 1) rfl rfl rfl (by kernel_rfl) ?_
  refine L_guard rfl rfl rfl rfl c1 ?_
  refine Lq vR rfl rfl rfl (x_load rfl rfl (run_loadVar_one ti_62 (hst.rle' _ _ (hp0 _ _ (one_self _ _))) rfl)) ?_
  refine L_guard rfl rfl rfl rfl c1 ?_
  obtain ⟨a4, cap5, e6, hc7⟩ := hRs.shape
  subst e6
  refine Lq (int (rs.length : Int)) rfl rfl rfl (x_len_slice rfl sl_62 rfl) ?_
  refine L_guard rfl rfl rfl rfl c1 ?_
  refine Lq (.bool (decide (k ≥ (rs.length : Int)))) rfl rfl rfl (by kernel_rfl) ?_
  refine Lq (.bool (decide (k ≥ (rs.length : Int)))) rfl rfl rfl (x_pick rfl rfl (by rw [c1]; rfl)) ?_
  refine L_nil ?_
  rcases Bool.eq_false_or_eq_true (decide (k ≥ (rs.length : Int))) with c8 | c8
  ·
   have q9 := of_decide_eq_true c8
   refine W_cond_true (by show Value.bool _ = _; exact congrArg Value.bool c8) ?_
   refine W_seq ?_
   refine W_region_lit ?_
   refine Lq (int (-1)) rfl rfl rfl rfl ?_
   refine L_nil ?_
   refine W_ret ?_
   refine ⟨_, _, res_run (rs := [.tmp 4]) (vs := [(int (-1))]) Tryz.results37 (.cons (.tmp rfl) .nil) rfl, ?_⟩
   exact ⟨ret_int (rootL_out (by omega)).symm, hst.grow⟩
  ·
   have q10 := of_decide_eq_false c8
   refine W_cond_false (by show Value.bool _ = _; exact congrArg Value.bool c8) ?_
   refine W_skip ?_
   refine W_seq ?_
   obtain ⟨kn, rfl⟩ : ∃ n : Nat, k = (n : Int) := ⟨k.toNat, by omega⟩
   refine W_region_lit ?_
   refine Lq (ptr p 0) rfl rfl rfl rfl ?_
   refine Lq (ptr p 0) rfl rfl rfl rfl ?_
   refine Lq (ptr p 0) rfl rfl rfl rfl ?_
   refine Lq (ptr p 1) rfl rfl rfl (by kernel_rfl) ?_
   refine Lq (.slice a4 rs.length cap5) rfl rfl rfl (x_load rfl rfl (run_loadVar_one ti_62 (hst.rle' _ _ (hp0 _ _ (one_self _ _))) rfl)) ?_
   refine Lq (int (kn : Int)) rfl rfl rfl rfl ?_
   obtain ⟨b11, off12, cap13, cs14, T15, fz16, e17, hc18, hb19, he20⟩ := hRs.open (by omega)
   cases e17
   obtain ⟨cl21, hs22, hr23⟩ := he20.at kn (by omega)
   have hx24 : cl21 = [.int .i64 (rs[kn]'(by omega))] := hr23
   subst hx24
   refine Lq (ptr b11 (off12 + kn * 1)) rfl rfl rfl (x_indexAddr' rfl sl_62 ti_3 rfl rfl (by omega)) ?_
   refine Lq (int (rs[kn]'(by omega))) rfl rfl rfl (x_load rfl rfl (run_loadVar_one ti_3 (hst.rle' _ _ hb19) (seg_get (j := 0) hs22 rfl))) ?_
   refine L_callG hst (v := (int (canon (nds l) (rs[kn]'(by omega))))) rfl rfl rfl (x_call (vs := #[(ptr p 0), (int (rs[kn]'(by omega)))]) rfl rfl (by kernel_rfl) ent_35) (CanonR_spec (rs[kn]'(by omega)) hT0 hst.rle') (fun w25 hst26 => ?_)
   refine Lq (int (canon (nds l) (rs[kn]'(by omega)))) rfl rfl rfl rfl ?_
   refine L_nil ?_
   refine W_ret ?_
   refine ⟨_, _, res_run (rs := [.tmp 4]) (vs := [(int (canon (nds l) (rs[kn]'(by omega))))]) Tryz.results37 (.cons (.tmp rfl) .nil) rfl, ?_⟩
   exact ⟨ret_int (rootL_in (by omega)).symm, hst26.grow⟩
theorem SlotR_spec {w : World} {R : Hp} {p : Nat} {l : List Sh} {rs : List Int} (k : Int) (t : Str) (hT : RefV R p l rs) (hR : Le R (hp w)) :
    Calls Tryz.prog 32 #[ptr p 0, int k, .string t] w fun e w' => e = .returned (.tuple #[int (slotL (nds l) k t).1, .bool (slotL (nds l) k t).2]) ∧ Grow w w' := by
 have hT0 := hT
 obtain ⟨vL, vR, hp0, hL, hRs, hS, hrv, hrl⟩ := hT
 have hlen := hS.len
 have hnl := nds_len l
 have hst := Step.ro hR
 refine calls_of_W (n := 26) Tryz.func32 rfl Tryz.ntmps32 (Nat.le_of_ble_eq_true rfl) ?_
 refine W_seq ?_
 refine W_region_lit ?_
 refine Lq (int 0) rfl rfl rfl rfl ?_
 refine Lq (.bool false) rfl rfl rfl rfl ?_
 refine L_nil ?_
 refine W_seq ?_
 refine W_region_lit ?_
 refine Lq (ptr p 0) rfl rfl rfl rfl ?_
 refine Lq (int k) rfl rfl rfl rfl ?_
 have hst1 := hst
 refine L_callS [] [] hst1 rfl rfl rfl (x_call (vs := #[(ptr p 0), (int k)]) rfl rfl (by kernel_rfl) ent_33) (NamesR_spec k (hst1.sats.take 0 rfl) (RefV.mono hT0 hst.rle')) (fun v2 w3 R4 L5 hp6 hle7 hst8 => ?_)
 obtain ⟨c9, rfl, ho10⟩ := hp6
 obtain ⟨R11, hst12, hle13, hc14⟩ := Step.frz hst8
 have hrd15 := OwnL.freeze ho10 hle13 hc14
 have hnl16 : (namesL (nds l) k).length ≤ 1000000 := namesL_small hS k
 refine Lq v2 rfl rfl rfl rfl ?_
 refine L_nil ?_
 refine W_seq ?_
 refine W_seq ?_
 refine W_region_lit ?_
 refine Lq (int 0) rfl rfl rfl rfl ?_
 refine L_nil ?_
 refine W_block ?_
 refine W_loop (I := fun σ w_ m_ => ∃ (σ0 : Fr) (j_ : Nat), σ = upd (upd (upd (upd (upd (upd (upd (upd σ0 0 (ptr p 0)) 1 (int k)) 2 (.string t)) 8 v2) 9 (int (j_ : Int))) 10 (ptr p 0)) 11 (int k)) 12 v2 ∧ mks (σ0 0) = [] ∧ Step w R [] w_ R11 [] ∧ j_ ≤ (namesL (nds l) k).length ∧ (∀ i (hi : i < (namesL (nds l) k).length), i < j_ → ¬ t = (namesL (nds l) k)[i]) ∧ m_ = (namesL (nds l) k).length - j_) (m := (namesL (nds l) k).length - 0) ?_ ?_
 ·
  exact ⟨_, 0, (upd_of (upd_of (upd_of (upd_of (upd_of (upd_of (upd_of (upd_of rfl rfl) rfl) rfl) rfl) rfl) rfl) rfl) rfl), rfl, hst12, (by omega), (fun j hj h => absurd h (by omega)), rfl⟩
 ·
  rintro m25 σ_ w19 ⟨s23, j_24, rfl, hmk17, hst18, hf21, hf22, rfl⟩
  refine W_seq ?_
  refine W_seq ?_
  refine W_region_lit ?_
  refine Lq (int (j_24 : Int)) rfl rfl rfl rfl ?_
  refine Lq v2 rfl rfl rfl rfl ?_
  obtain ⟨a26, cap27, e28, hc29⟩ := hrd15.shape
  subst e28
  refine Lq (int (((namesL (nds l) k).length : Nat) : Int)) rfl rfl rfl (x_len_slice rfl sl_42 rfl) ?_
  refine Lq (.bool (decide ((j_24 : Int) < (((namesL (nds l) k).length : Nat) : Int)))) rfl rfl rfl (by kernel_rfl) ?_
  refine L_nil ?_
  rcases Bool.eq_false_or_eq_true (decide ((j_24 : Int) < (((namesL (nds l) k).length : Nat) : Int))) with c30 | c30
  ·
   have q31 := of_decide_eq_true c30
   refine W_cond_true (by show Value.bool _ = _; exact congrArg Value.bool c30) ?_
   refine W_skip ?_
   refine W_seq ?_
   refine W_block ?_
   refine W_seq ?_
   refine W_region_lit ?_
   refine Lq (.slice a26 ((namesL (nds l) k).length) cap27) rfl rfl rfl rfl ?_
   refine Lq (int (j_24 : Int)) rfl rfl rfl rfl ?_
   obtain ⟨b32, off33, cap34, cs35, T36, fz37, e38, hc39, hb40, he41⟩ := hrd15.open (by omega)
   cases e38
   obtain ⟨cl42, hs43, hr44⟩ := he41.at j_24 (by omega)
   have hx45 : cl42 = [.string ((namesL (nds l) k)[j_24]'(by omega))] := hr44
   subst hx45
   refine Lq (ptr b32 (off33 + j_24 * 1)) rfl rfl rfl (x_indexAddr' rfl sl_42 ti_9 rfl rfl (by omega)) ?_
   refine Lq (.string ((namesL (nds l) k)[j_24]'(by omega))) rfl rfl rfl (x_load rfl rfl (run_loadVar_one ti_9 (hst18.rle' _ _ hb40) (seg_get (j := 0) hs43 rfl))) ?_
   refine Lq (.string t) rfl rfl rfl rfl ?_
   refine Lq (.bool (decide (((namesL (nds l) k)[j_24]'(by omega)) = t))) rfl rfl rfl (x_eqlD rfl rfl rfl) ?_
   refine L_nil ?_
   rcases Bool.eq_false_or_eq_true (decide (((namesL (nds l) k)[j_24]'(by omega)) = t)) with c46 | c46
   ·
    have q47 := of_decide_eq_true c46
    refine W_cond_true (by show Value.bool _ = _; exact congrArg Value.bool c46) ?_
    refine W_seq ?_
    refine W_region_lit ?_
    refine Lq (int (j_24 : Int)) rfl rfl rfl rfl ?_
    refine Lq (int (j_24 : Int)) rfl rfl rfl rfl ?_
    refine Lq (.bool true) rfl rfl rfl rfl ?_
    refine L_nil ?_
    refine W_ret ?_
    refine ⟨_, _, res_run (rs := [.tmp 6, .tmp 7]) (vs := [(int (j_24 : Int)), (.bool true)]) Tryz.results32 (.cons (.tmp rfl) (.cons (.tmp rfl) .nil)) hmk17, ?_⟩
    exact ⟨by rw [slot_at (by omega) hf22 (of_decide_eq_true c46).symm]; rfl, hst18.grow⟩
   ·
    have q48 := of_decide_eq_false c46
    refine W_cond_false (by show Value.bool _ = _; exact congrArg Value.bool c46) ?_
    refine W_skip ?_
    refine W_region_lit ?_
    refine Lq (int (j_24 : Int)) rfl rfl rfl rfl ?_
    refine Lq (int ((j_24 + 1 : Nat) : Int)) rfl rfl rfl (x_add_nat rfl rfl rfl (by omega)) ?_
    refine Lq (int ((j_24 + 1 : Nat) : Int)) rfl rfl rfl rfl ?_
    refine L_nil ?_
    refine ⟨(namesL (nds l) k).length - (j_24 + 1), by first | omega | (simp only [List.length_append, List.length_cons, List.length_nil]; omega), ?_⟩
    exact ⟨_, (j_24 + 1), (upd_of (upd_of (upd_of (upd_of (upd_of (upd_of (upd_of (upd_of rfl rfl) rfl) rfl) rfl) rfl) rfl) rfl) rfl), hmk17, hst18, (by omega), (allS_step hf22 (fun e_ => (of_decide_eq_false c46) e_.symm)), rfl⟩
  ·
   have q49 := of_decide_eq_false c30
   refine W_cond_false (by show Value.bool _ = _; exact congrArg Value.bool c30) ?_
   refine W_exit ?_
   refine W_seq ?_
   refine W_region_lit ?_
   refine Lq (int 0) rfl rfl rfl rfl ?_
   refine Lq (.bool false) rfl rfl rfl rfl ?_
   refine L_nil ?_
   refine W_ret ?_
   refine ⟨_, _, res_run (rs := [.tmp 6, .tmp 7]) (vs := [(int 0), (.bool false)]) Tryz.results32 (.cons (.tmp rfl) (.cons (.tmp rfl) .nil)) hmk17, ?_⟩
   exact ⟨by rw [slot_none (fun j hj => hf22 j hj (by omega))]; rfl, hst18.grow⟩
theorem FindR_spec {w : World} {R : Hp} {p : Nat} {l : List Sh} {rs : List Int} {u : Value} (cls : Int) (names : List Str) (hu : RdS Ty.str R u names) (hmay : names.length ≤ 1000000) (hT : RefV R p l rs) (hR : Le R (hp w)) :
    Calls Tryz.prog 34 #[ptr p 0, int cls, u] w fun e w' => e = .returned (.tuple #[int (findL (nds l) cls names).1, .bool (findL (nds l) cls names).2]) ∧ Grow w w' := by
 have hT0 := hT
 obtain ⟨vL, vR, hp0, hL, hRs, hS, hrv, hrl⟩ := hT
 have hlen := hS.len
 have hnl := nds_len l
 have hst := Step.ro hR
 refine calls_of_W (n := 52) Tryz.func34 rfl Tryz.ntmps34 (Nat.le_of_ble_eq_true rfl) ?_
 refine W_seq ?_
 refine W_region_lit ?_
 refine Lq (int 0) rfl rfl rfl rfl ?_
 refine Lq (.bool false) rfl rfl rfl rfl ?_
 refine L_nil ?_
 refine W_seq ?_
 refine W_seq ?_
 refine W_region_lit ?_
 refine Lq (int 0) rfl rfl rfl rfl ?_
 refine L_nil ?_
 refine W_block ?_
 refine W_loop (I := fun σ w_ m_ => ∃ (σ0 : Fr) (j_ : Nat), σ = upd (upd (upd (upd σ0 0 (ptr p 0)) 1 (int cls)) 2 u) 8 (int (j_ : Int)) ∧ mks (σ0 0) = [] ∧ Step w R [] w_ R [] ∧ j_ ≤ l.length ∧ (∀ i (hi : i < (nds l).length), i < j_ → findP cls names (nds l)[i] = false) ∧ m_ = l.length - j_) (m := l.length - 0) ?_ ?_
 ·
  exact ⟨_, 0, (upd_of (upd_of (upd_of (upd_of rfl rfl) rfl) rfl) rfl), rfl, hst, (by omega), (fun j hj h => absurd h (by omega)), rfl⟩
 ·
  rintro m9 σ_ w3 ⟨s7, j_8, rfl, hmk1, hst2, hf5, hf6, rfl⟩
  refine W_seq ?_
  refine W_seq ?_
  refine W_region_lit ?_
  refine Lq (int (j_8 : Int)) rfl rfl rfl rfl ?_
  refine Lq (ptr p 0) rfl rfl rfl rfl ?_
  refine Lq (ptr p 0) rfl rfl rfl rfl ?_
  refine Lq (ptr p 0) rfl rfl rfl (by kernel_rfl) ?_
  refine Lq vL rfl rfl rfl (x_load rfl rfl (run_loadVar_one ti_70 (hst2.rle' _ _ (hp0 _ _ (one_self _ _))) rfl)) ?_
  obtain ⟨a10, cap11, e12, hc13⟩ := hL.shape
  subst e12
  refine Lq (int (l.length : Int)) rfl rfl rfl (x_len_slice rfl sl_70 rfl) ?_
  refine Lq (.bool (decide ((j_8 : Int) < (l.length : Int)))) rfl rfl rfl (by kernel_rfl) ?_
  refine L_nil ?_
  rcases Bool.eq_false_or_eq_true (decide ((j_8 : Int) < (l.length : Int))) with c14 | c14
  ·
   have q15 := of_decide_eq_true c14
   refine W_cond_true (by show Value.bool _ = _; exact congrArg Value.bool c14) ?_
   refine W_skip ?_
   refine W_seq ?_
   refine W_block ?_
   refine W_seq ?_
   refine W_region_lit ?_
   refine Lq (ptr p 0) rfl rfl rfl rfl ?_
   refine Lq (ptr p 0) rfl rfl rfl rfl ?_
   refine Lq (ptr p 0) rfl rfl rfl (by kernel_rfl) ?_
   refine Lq (.slice a10 l.length cap11) rfl rfl rfl (x_load rfl rfl (run_loadVar_one ti_70 (hst2.rle' _ _ (hp0 _ _ (one_self _ _))) rfl)) ?_
   refine Lq (int (j_8 : Int)) rfl rfl rfl rfl ?_
   obtain ⟨b16, off17, cap18, cs19, T20, fz21, e22, hc23, hb24, he25⟩ := hL.open (by omega)
   cases e22
   obtain ⟨cl26, hs27, hr28⟩ := he25.at j_8 (by omega)
   obtain ⟨x29, hx30⟩ : ∃ x_, x_ = (l[j_8]'(by omega)) := ⟨_, rfl⟩
   rw [← hx30] at hr28
   have hb31 := sh_names hS (by omega) hx30
   have hb32 := sh_ali hS (by omega) hx30
   obtain ⟨vn33, vl34, rfl, hvn35, hvl36⟩ := tySh_open hr28
   refine Lq (ptr b16 (off17 + j_8 * 4)) rfl rfl rfl (x_indexAddr' rfl sl_70 ti_75 rfl rfl (by omega)) ?_
   refine Lq (ptr b16 (off17 + j_8 * 4 + 1)) rfl rfl rfl (by kernel_rfl) ?_
   refine Lq (int x29.nd.ali) rfl rfl rfl (x_load rfl rfl (run_loadVar_one ti_3 (hst2.rle' _ _ hb24) (seg_get (j := 1) hs27 rfl))) ?_
   refine Lq (.bool (decide (x29.nd.ali < 0))) rfl rfl rfl (by kernel_rfl) ?_
   refine Lq (.bool (decide (x29.nd.ali < 0))) rfl rfl rfl rfl ?_
   rcases Bool.eq_false_or_eq_true (decide (x29.nd.ali < 0)) with c37 | c37
   ·
    have q38 := of_decide_eq_true c37
    refine L_guard rfl rfl rfl rfl c37 ?_
    refine Lq (ptr p 0) rfl rfl rfl rfl ?_
    refine L_guard rfl rfl rfl rfl c37 ?_
    refine Lq (ptr p 0) rfl rfl rfl rfl ?_
    refine L_guard rfl rfl rfl rfl c37 ?_
    refine Lq (ptr p 0) rfl rfl rfl (by kernel_rfl) ?_
    refine L_guard rfl rfl rfl rfl c37 ?_
    refine Lq (.slice (some ⟨b16, off17, none⟩) l.length cap11) rfl rfl rfl (x_load rfl rfl (run_loadVar_one ti_70 (hst2.rle' _ _ (hp0 _ _ (one_self _ _))) rfl)) ?_
    refine L_guard rfl rfl rfl rfl c37 ?_
    refine Lq (int (j_8 : Int)) rfl rfl rfl rfl ?_
    refine L_guard rfl rfl rfl rfl c37 ?_
    obtain ⟨cl39, hs40, hr41⟩ := he25.at j_8 (by omega)
    rw [← hx30] at hr41
    obtain ⟨vn42, vl43, rfl, hvn44, hvl45⟩ := tySh_open hr41
    refine Lq (ptr b16 (off17 + j_8 * 4)) rfl rfl rfl (x_indexAddr' rfl sl_70 ti_75 rfl rfl (by omega)) ?_
    refine L_guard rfl rfl rfl rfl c37 ?_
    refine Lq (ptr b16 (off17 + j_8 * 4)) rfl rfl rfl (by kernel_rfl) ?_
    refine L_guard rfl rfl rfl rfl c37 ?_
    refine Lq (int x29.nd.cls) rfl rfl rfl (x_load rfl rfl (run_loadVar_one ti_3 (hst2.rle' _ _ hb24) (seg_get (j := 0) hs40 rfl))) ?_
    refine L_guard rfl rfl rfl rfl c37 ?_
    refine Lq (int cls) rfl rfl rfl rfl ?_
    refine L_guard rfl rfl rfl rfl c37 ?_
    refine Lq (.bool (x29.nd.cls == cls)) rfl rfl rfl (by kernel_rfl) ?_
    refine Lq (.bool (x29.nd.cls == cls)) rfl rfl rfl (x_pick rfl rfl (by rw [c37]; rfl)) ?_
    refine Lq (.bool (x29.nd.cls == cls)) rfl rfl rfl rfl ?_
    rcases Bool.eq_false_or_eq_true (x29.nd.cls == cls) with c46 | c46
    ·
     have q47 := eq_of_beq c46
     refine L_guard rfl rfl rfl rfl c46 ?_
     refine Lq (ptr p 0) rfl rfl rfl rfl ?_
     refine L_guard rfl rfl rfl rfl c46 ?_
     refine Lq (ptr p 0) rfl rfl rfl rfl ?_
     refine L_guard rfl rfl rfl rfl c46 ?_
     refine Lq (ptr p 0) rfl rfl rfl (by kernel_rfl) ?_
     refine L_guard rfl rfl rfl rfl c46 ?_
     refine Lq (.slice (some ⟨b16, off17, none⟩) l.length cap11) rfl rfl rfl (x_load rfl rfl (run_loadVar_one ti_70 (hst2.rle' _ _ (hp0 _ _ (one_self _ _))) rfl)) ?_
     refine L_guard rfl rfl rfl rfl c46 ?_
     refine Lq (int (j_8 : Int)) rfl rfl rfl rfl ?_
     refine L_guard rfl rfl rfl rfl c46 ?_
     obtain ⟨cl48, hs49, hr50⟩ := he25.at j_8 (by omega)
     rw [← hx30] at hr50
     obtain ⟨vn51, vl52, rfl, hvn53, hvl54⟩ := tySh_open hr50
     refine Lq (ptr b16 (off17 + j_8 * 4)) rfl rfl rfl (x_indexAddr' rfl sl_70 ti_75 rfl rfl (by omega)) ?_
     refine L_guard rfl rfl rfl rfl c46 ?_
     refine Lq (ptr b16 (off17 + j_8 * 4 + 2)) rfl rfl rfl (by kernel_rfl) ?_
     refine L_guard rfl rfl rfl rfl c46 ?_
     refine Lq vn51 rfl rfl rfl (x_load rfl rfl (run_loadVar_one ti_42 (hst2.rle' _ _ hb24) (seg_get (j := 2) hs49 rfl))) ?_
     refine L_guard rfl rfl rfl rfl c46 ?_
     refine Lq u rfl rfl rfl rfl ?_
     refine L_guard rfl rfl rfl rfl c46 ?_
     obtain ⟨a55, cap56, e57, hc58⟩ := hvn53.shape
     subst e57
     obtain ⟨a59, cap60, e61, hc62⟩ := hu.shape
     subst e61
     refine L_callG hst2 (v := (.bool (decide (x29.nd.names = names)))) rfl rfl rfl (x_call (vs := #[(.slice a55 x29.nd.names.length cap56), (.slice a59 names.length cap60)]) rfl rfl (by kernel_rfl) ent_23) (EqualR_spec (Le.refl _) (RdS.mono hvn53 hst2.rle') (RdS.mono hu hst2.rle') (by first | omega | assumption | (simp only [List.length_append, List.length_cons, List.length_nil]; omega)) (by first | omega | assumption | (simp only [List.length_append, List.length_cons, List.length_nil]; omega))) (fun w63 hst64 => ?_)
     refine Lq (.bool (decide (x29.nd.names = names))) rfl rfl rfl (x_pick rfl rfl (by rw [c46]; rfl)) ?_
     refine L_nil ?_
     rcases Bool.eq_false_or_eq_true (decide (x29.nd.names = names)) with c65 | c65
     ·
      have q66 := of_decide_eq_true c65
      refine W_cond_true (by show Value.bool _ = _; exact congrArg Value.bool c65) ?_
      refine W_seq ?_
      refine W_region_lit ?_
      refine Lq (int (j_8 : Int)) rfl rfl rfl rfl ?_
      refine Lq (int (j_8 : Int)) rfl rfl rfl rfl ?_
      refine Lq (.bool true) rfl rfl rfl rfl ?_
      refine L_nil ?_
      refine W_ret ?_
      refine ⟨_, _, res_run (rs := [.tmp 6, .tmp 7]) (vs := [(int (j_8 : Int)), (.bool true)]) Tryz.results34 (.cons (.tmp rfl) (.cons (.tmp rfl) .nil)) hmk1, ?_⟩
      exact ⟨by rw [find_at (by omega) hf6 (by rw [sh_nd (by omega) hx30]; exact findP_t (of_decide_eq_true c37) (eq_of_beq c46) (of_decide_eq_true c65))]; rfl, hst64.grow⟩
     ·
      have q67 := of_decide_eq_false c65
      refine W_cond_false (by show Value.bool _ = _; exact congrArg Value.bool c65) ?_
      refine W_skip ?_
      refine W_region_lit ?_
      refine Lq (int (j_8 : Int)) rfl rfl rfl rfl ?_
      refine Lq (int ((j_8 + 1 : Nat) : Int)) rfl rfl rfl (x_add_nat rfl rfl rfl (by omega)) ?_
      refine Lq (int ((j_8 + 1 : Nat) : Int)) rfl rfl rfl rfl ?_
      refine L_nil ?_
      refine ⟨l.length - (j_8 + 1), by first | omega | (simp only [List.length_append, List.length_cons, List.length_nil]; omega), ?_⟩
      exact ⟨_, (j_8 + 1), (upd_of (upd_of (upd_of (upd_of rfl rfl) rfl) rfl) rfl), hmk1, hst64, (by omega), (allN_step (hk := by omega) hf6 (by rw [sh_nd (by omega) hx30]; exact (findP_f3 (of_decide_eq_false c65)))), rfl⟩
    ·
     have q68 := ne_of_beq_false c46
     refine L_unwanted rfl rfl rfl rfl (by rw [c46]; try rfl) rfl rfl ?_
     refine L_unwanted rfl rfl rfl rfl (by rw [c46]; try rfl) rfl rfl ?_
     refine L_unwanted rfl rfl rfl rfl (by rw [c46]; try rfl) rfl rfl ?_
     refine L_unwanted rfl rfl rfl rfl (by rw [c46]; try rfl) rfl rfl ?_
     refine L_unwanted rfl rfl rfl rfl (by rw [c46]; try rfl) rfl rfl ?_
     refine L_unwanted rfl rfl rfl rfl (by rw [c46]; try rfl) rfl rfl ?_
     refine L_unwanted rfl rfl rfl rfl (by rw [c46]; try rfl) rfl rfl ?_
     refine L_unwanted rfl rfl rfl rfl (by rw [c46]; try rfl) rfl rfl ?_
     refine L_unwanted rfl rfl rfl rfl (by rw [c46]; try rfl) rfl rfl ?_
     refine L_unwanted rfl rfl rfl rfl (by rw [c46]; try rfl) rfl rfl ?_
     refine Lq (.bool false) rfl rfl rfl (x_pick rfl rfl (by rw [c46]; rfl)) ?_
     refine L_nil ?_
     refine W_cond_false (by show Value.bool _ = _; exact congrArg Value.bool rfl) ?_
     refine W_skip ?_
     refine W_region_lit ?_
     refine Lq (int (j_8 : Int)) rfl rfl rfl rfl ?_
     refine Lq (int ((j_8 + 1 : Nat) : Int)) rfl rfl rfl (x_add_nat rfl rfl rfl (by omega)) ?_
     refine Lq (int ((j_8 + 1 : Nat) : Int)) rfl rfl rfl rfl ?_
     refine L_nil ?_
     refine ⟨l.length - (j_8 + 1), by first | omega | (simp only [List.length_append, List.length_cons, List.length_nil]; omega), ?_⟩
     exact ⟨_, (j_8 + 1), (upd_of (upd_of (upd_of (upd_of rfl rfl) rfl) rfl) rfl), hmk1, hst2, (by omega), (allN_step (hk := by omega) hf6 (by rw [sh_nd (by omega) hx30]; exact (findP_f2 (ne_of_beq_false c46)))), rfl⟩
   ·
    have q69 := of_decide_eq_false c37
    refine L_unwanted rfl rfl rfl rfl (by rw [c37]; try rfl) rfl rfl ?_
    refine L_unwanted rfl rfl rfl rfl (by rw [c37]; try rfl) rfl rfl ?_
    refine L_unwanted rfl rfl rfl rfl (by rw [c37]; try rfl) rfl rfl ?_
    refine L_unwanted rfl rfl rfl rfl (by rw [c37]; try rfl) rfl rfl ?_
    refine L_unwanted rfl rfl rfl rfl (by rw [c37]; try rfl) rfl rfl ?_
    refine L_unwanted rfl rfl rfl rfl (by rw [c37]; try rfl) rfl rfl ?_
    refine L_unwanted rfl rfl rfl rfl (by rw [c37]; try rfl) rfl rfl ?_
    refine L_unwanted rfl rfl rfl rfl (by rw [c37]; try rfl) rfl rfl ?_
    refine L_unwanted rfl rfl rfl rfl (by rw [c37]; try rfl) rfl rfl ?_
    refine L_unwanted rfl rfl rfl rfl (by rw [c37]; try rfl) rfl rfl ?_
    refine Lq (.bool false) rfl rfl rfl (x_pick rfl rfl (by rw [c37]; rfl)) ?_
    refine Lq (.bool false) rfl rfl rfl rfl ?_
    refine L_unwanted rfl rfl rfl rfl rfl rfl rfl ?_
    refine L_unwanted rfl rfl rfl rfl rfl rfl rfl ?_
    refine L_unwanted rfl rfl rfl rfl rfl rfl rfl ?_
    refine L_unwanted rfl rfl rfl rfl rfl rfl rfl ?_
    refine L_unwanted rfl rfl rfl rfl rfl rfl rfl ?_
    refine L_unwanted rfl rfl rfl rfl rfl rfl rfl ?_
    refine L_unwanted rfl rfl rfl rfl rfl rfl rfl ?_
    refine L_unwanted rfl rfl rfl rfl rfl rfl rfl ?_
    refine L_unwanted rfl rfl rfl rfl rfl rfl rfl ?_
    refine L_unwanted rfl rfl rfl rfl rfl rfl rfl ?_
    refine Lq (.bool false) rfl rfl rfl rfl ?_
    refine L_nil ?_
    refine W_cond_false (by show Value.bool _ = _; exact congrArg Value.bool rfl) ?_
    refine W_skip ?_
    refine W_region_lit ?_
    refine Lq (int (j_8 : Int)) rfl rfl rfl rfl ?_
    refine Lq (int ((j_8 + 1 : Nat) : Int)) rfl rfl rfl (x_add_nat rfl rfl rfl (by omega)) ?_
    refine Lq (int ((j_8 + 1 : Nat) : Int)) rfl rfl rfl rfl ?_
    refine L_nil ?_
    refine ⟨l.length - (j_8 + 1), by first | omega | (simp only [List.length_append, List.length_cons, List.length_nil]; omega), ?_⟩
    exact ⟨_, (j_8 + 1), (upd_of (upd_of (upd_of (upd_of rfl rfl) rfl) rfl) rfl), hmk1, hst2, (by omega), (allN_step (hk := by omega) hf6 (by rw [sh_nd (by omega) hx30]; exact (findP_f1 (of_decide_eq_false c37)))), rfl⟩
  ·
   have q70 := of_decide_eq_false c14
   refine W_cond_false (by show Value.bool _ = _; exact congrArg Value.bool c14) ?_
   refine W_exit ?_
   refine W_seq ?_
   refine W_region_lit ?_
   refine Lq (int 0) rfl rfl rfl rfl ?_
   refine Lq (.bool false) rfl rfl rfl rfl ?_
   refine L_nil ?_
   refine W_ret ?_
   refine ⟨_, _, res_run (rs := [.tmp 6, .tmp 7]) (vs := [(int 0), (.bool false)]) Tryz.results34 (.cons (.tmp rfl) (.cons (.tmp rfl) .nil)) hmk1, ?_⟩
   exact ⟨by rw [find_none (fun j hj => hf6 j hj (by omega))]; rfl, hst2.grow⟩
end Go.Fx.YtjpdhfhiimbpgaaGreatDoor
set_option linter.unusedSimpArgs false
set_option linter.unusedVariables false
set_option linter.unusedSectionVars false
namespace Go.Fx.YtjpdhfhiimbpgaaGreatDoor
open Go Go.Fx Go.Proofs
set_option maxRecDepth 20000
section
variable {P : Program} {w : World} {ρ : Operand → Value} {o : Oper}
theorem x_quo_nat {xT yT : TypeId} {p q : Operand} {a b : Nat} (ho : o.op = .binOp .quo xT p q yT) (hx : ρ p = int (a : Int)) (hy : ρ q = int (b : Int)) (h : b ≠ 0) (ha : a ≤ 1000000000) : (execOp ρ o).run P w = .ok (.value (int ((a / b : Nat) : Int))) w := by
  have e : Int.tdiv (a : Int) (b : Int) = ((a / b : Nat) : Int) := rfl
  have hl : a / b ≤ a := Nat.div_le_self _ _
  have hI : I64 (Int.tdiv (a : Int) (b : Int)) := by
    rw [e]
    generalize a / b = q at hl
    constructor <;> omega
  rw [← e]
  exact x_quo ho hx hy (by omega) hI
theorem x_rem_dig {xT yT : TypeId} {p q : Operand} {a b d : Nat} (ho : o.op = .binOp .rem xT p q yT) (hx : ρ p = int (a : Int)) (hy : ρ q = int (b : Int)) (h : b ≠ 0) (hd : a % b = d) : (execOp ρ o).run P w = .ok (.value (int (d : Int))) w := by
  rw [← hd]; exact x_rem_nat ho hx hy h
end
theorem dec_two {n d : Nat} (h10 : 10 ≤ n) (h : n < 100) (hd : n % 10 = d) : dec ((n / 10 : Nat) : Int) ++ ⟨#[UInt8.ofNat (48 + d)]⟩ = dec (n : Int) := by
  have key : ∀ q : Nat, q < 10 → ∀ d : Nat, d < 10 → 1 ≤ q → dec (q : Int) ++ ⟨#[UInt8.ofNat (48 + d)]⟩ = dec ((10 * q + d : Nat) : Int) := by decide +kernel
  have := key (n / 10) (by omega) d (by omega) (by omega)
  rw [this]
  congr 1
  omega
def jn (ws : List Str) : List UInt8 := Lib.join (ws.map bts) [32]
theorem jn_one (a : Str) : jn [a] = bts a := by simp [jn, Lib.join_cons, Lib.joinTail]
theorem jn_snoc {ws : List Str} (h : ws ≠ []) (a : Str) : jn (ws ++ [a]) = jn ws ++ ([32] ++ bts a) := by
  cases ws with
  | nil => exact absurd rfl h
  | cons x l => simp [jn, Lib.join_cons, Lib.joinTail]
theorem bts_line (m : List (Stp × Int)) (k : Nat) (x : Nd) : bts (lineN m k x) = jn (wordsN m k x) ++ [10] := by
  unfold lineN joinS
  rw [bts_append]
  simp [bts, jn, sNl]
abbrev wd0 (k : Nat) (x : Nd) : List Str := [dec (k : Int), dec x.cls]
theorem wd0_ne {k : Nat} {x : Nd} (l : List Str) : wd0 k x ++ l ≠ [] := by simp
theorem jn_len {ws : List Str} (h : ∀ x ∈ ws, x.size ≤ 32) (hl : ws.length ≤ 1073) : (jn ws).length ≤ 35409 := by
  have := joinS_size h
  have e : (joinS ws).size = (jn ws).length := rfl
  omega
variable {s : TS}
theorem shs_at {k : Nat} (h : k < (shs s).length) : (shs s)[k] = ⟨ndL s.nodes k, lks s.next (k : Int)⟩ := by simp [shs]
theorem shs_len (s : TS) : (shs s).length = s.nodes.length := by simp [shs]
theorem shs_nd {k : Nat} {x : Sh} (h : k < (shs s).length) (e : x = (shs s)[k]) : ∃ hk : k < s.nodes.length, x.nd = s.nodes[k] ∧ x.lks = lks s.next (k : Int) := by
  have hk : k < s.nodes.length := by rw [← shs_len]; exact h
  refine ⟨hk, ?_, ?_⟩ <;> rw [e, shs_at h]
  exact ndL_eq hk
/-- The bounds of a shape. -/
theorem sh_bd (hw : WF s) (hn : Nice s) {k : Nat} {x : Sh} (h : k < (shs s).length) (e : x = (shs s)[k]) :
    (0 ≤ x.nd.cls ∧ x.nd.cls < 100) ∧ x.nd.ali < 100 ∧ (∀ j, (jn (wd0 k x.nd ++ x.nd.names.take j)).length ≤ 35409) ∧ (∀ j, (jn ((wd0 k x.nd ++ x.nd.names) ++ [sGt] ++ (x.lks.take j).map stepW)).length ≤ 35409) ∧ (∀ t ∈ x.nd.names, t.size ≤ 16) ∧ (∀ y ∈ x.lks, y.1.size ≤ 16 ∧ 0 ≤ y.2 ∧ y.2 < 100) ∧ k < 100 := by
  obtain ⟨hk, e1, e2⟩ := shs_nd h e
  have hm : x.nd ∈ s.nodes := by rw [e1]; exact List.getElem_mem hk
  have h1 := hn.cls _ hm
  have h2 := hn.names _ hm
  have h3 := hn.sizes _ hm
  have h4 := ali_ok hw hn hk
  have h5 := hn.nodes
  have h6 := lks_len s.next (k : Int)
  have h7 := hn.next
  have hk2 := dec_size (n := (k : Int)) (by omega) (by omega)
  have hc2 := dec_size h1.1 h1.2
  have hlk : ∀ y ∈ x.lks, y.1.size ≤ 16 ∧ 0 ≤ y.2 ∧ y.2 < 100 := fun y hy => lks_ok hw hn (k := (k : Int)) (by rw [← e2]; exact hy)
  have hd0 : ∀ t ∈ wd0 k x.nd, t.size ≤ 32 := fun t ht => by
    rcases List.mem_cons.1 ht with rfl | ht
    · omega
    · obtain rfl := List.mem_singleton.1 ht; omega
  refine ⟨h1, by rw [e1]; exact h4, fun j => jn_len (fun t ht => ?_) ?_, fun j => jn_len (fun t ht => ?_) ?_, h3, hlk, by omega⟩
  · rcases List.mem_append.1 ht with ht | ht
    · exact hd0 t ht
    · have := h3 t (List.mem_of_mem_take ht); omega
  · simp; omega
  · rcases List.mem_append.1 ht with ht | ht
    · rcases List.mem_append.1 ht with ht | ht
      · rcases List.mem_append.1 ht with ht | ht
        · exact hd0 t ht
        · have := h3 t ht; omega
      · obtain rfl := List.mem_singleton.1 ht; decide
    · obtain ⟨y, hy, rfl⟩ := List.mem_map.1 ht
      obtain ⟨g1, g2, g3⟩ := hlk y (List.mem_of_mem_take hy)
      have g4 := dec_size g2 g3
      have g5 : sCo.size ≤ 1 := by decide
      exact Nat.le_trans (size_app_le (size_app_le g1 g5) g4) (by decide)
  · rw [e2]; simp; omega
theorem sh_lks (hn : Nice s) {k : Nat} {x : Sh} (h : k < (shs s).length) (e : x = (shs s)[k]) : x.lks.length ≤ 1000 := by
  obtain ⟨hk, e1, e2⟩ := shs_nd h e
  have h6 := lks_len s.next (k : Int)
  have h7 := hn.next
  rw [e2]; omega
theorem names_succ {k : Nat} {x : Nd} {j : Nat} (hj : j < x.names.length) : jn (wd0 k x ++ x.names.take (j + 1)) = jn (wd0 k x ++ x.names.take j) ++ ([32] ++ bts x.names[j]) := by
  rw [List.take_succ_eq_append_getElem hj, ← List.append_assoc, jn_snoc (wd0_ne _)]
theorem links_succ {k : Nat} {x : Sh} {j : Nat} (hj : j < x.lks.length) : jn ((wd0 k x.nd ++ x.nd.names) ++ [sGt] ++ (x.lks.take (j + 1)).map stepW) = jn ((wd0 k x.nd ++ x.nd.names) ++ [sGt] ++ (x.lks.take j).map stepW) ++ ([32] ++ (bts x.lks[j].1 ++ ([58] ++ bts (dec x.lks[j].2)))) := by
  rw [List.take_succ_eq_append_getElem hj, List.map_append, ← List.append_assoc _ _ (List.map stepW [x.lks[j]]), List.map_singleton, jn_snoc (by simp)]
  congr 1
  unfold stepW
  rw [bts_append, bts_append, List.append_assoc]
  rfl
theorem line_yes {k : Nat} {x : Sh} (h : k < (shs s).length) (e : x = (shs s)[k]) (ha : x.nd.ali ≥ 0) {j : Nat} (hj : x.nd.names.length ≤ j) : linesT s (k + 1) = linesT s k ++ (jn (wd0 k x.nd ++ x.nd.names.take j) ++ ([32, 61, 32] ++ (bts (dec x.nd.ali) ++ [10]))) := by
  obtain ⟨hk, e1, e2⟩ := shs_nd h e
  rw [linesT_succ hk e1, bts_line, List.take_of_length_le hj]
  congr 1
  unfold wordsN
  rw [if_pos ha, show ([dec (k : Int), dec x.nd.cls] ++ x.nd.names ++ [sEq, dec x.nd.ali] : List Str) = (wd0 k x.nd ++ x.nd.names ++ [sEq]) ++ [dec x.nd.ali] by simp, jn_snoc (by simp), jn_snoc (wd0_ne _)]
  simp [sEq, bts]
theorem line_no {k : Nat} {x : Sh} (h : k < (shs s).length) (e : x = (shs s)[k]) (ha : ¬ x.nd.ali ≥ 0) {j : Nat} (hj : x.lks.length ≤ j) : linesT s (k + 1) = linesT s k ++ (jn ((wd0 k x.nd ++ x.nd.names) ++ [sGt] ++ (x.lks.take j).map stepW) ++ [10]) := by
  obtain ⟨hk, e1, e2⟩ := shs_nd h e
  rw [linesT_succ hk e1, bts_line, List.take_of_length_le hj, e2]
  congr 1
  unfold wordsN
  rw [if_neg ha, ← List.append_assoc]
theorem gt_start {k : Nat} {x : Nd} {j : Nat} (hj : x.names.length ≤ j) (lk : List Lk) : jn ((wd0 k x ++ x.names) ++ [sGt] ++ (lk.take 0).map stepW) = jn (wd0 k x ++ x.names.take j) ++ [32, 62] := by
  rw [List.take_of_length_le hj, List.take_zero, List.map_nil, List.append_nil, jn_snoc (wd0_ne _)]
  simp [sGt, bts]
theorem wd_start {k : Nat} {x : Nd} : jn (wd0 k x ++ x.names.take 0) = bts (dec (k : Int)) ++ ([32] ++ bts (dec x.cls)) := by
  rw [List.take_zero, List.append_nil]
  show jn ([dec (k : Int)] ++ [dec x.cls]) = _
  rw [jn_snoc (by simp), jn_one]
theorem txt_of {t : Str} (h : bts t = textT s) : t = ⟨(textT s).toArray⟩ := by
  rw [← h]
  simp [bts]
end Go.Fx.YtjpdhfhiimbpgaaGreatDoor
set_option linter.unusedSimpArgs false
set_option linter.unusedVariables false
namespace Go.Fx.YtjpdhfhiimbpgaaGreatDoor
open Go Go.Fx Go.Proofs
set_option maxRecDepth 20000
theorem ent_45 : Ent Tryz.prog 45 := fun _ _ => by kernel_rfl
theorem sl_73 : SL Tryz.prog 73 91 := Tryz.underlying73
theorem ti_73 : TI Tryz.prog 73 false 1 24 (.slice none 0 0) := ⟨by kernel_rfl, by kernel_rfl⟩
theorem ti_91 : TI Tryz.prog 91 true 2 24 (.agg #[(.string ⟨#[]⟩), (.int .i64 0)]) := ⟨by kernel_rfl, by kernel_rfl⟩
theorem Dec_one {w : World} {R : Hp} (n : Nat) (hn : n < 10) (hR : Le R (hp w)) :
    Calls Tryz.prog 45 #[int (n : Int)] w fun e w' => e = .returned (.string (dec (n : Int))) ∧ Grow w w' := by
 have hst := Step.ro hR
 refine calls_of_W (n := 19) Tryz.func45 rfl Tryz.ntmps45 (Nat.le_of_ble_eq_true rfl) ?_
 refine W_seq ?_
 refine W_region_lit ?_
 refine Lq (.string ⟨#[]⟩) rfl rfl rfl rfl ?_
 refine L_nil ?_
 refine W_seq ?_
 refine W_seq ?_
 refine W_region_lit ?_
 refine Lq (int (n : Int)) rfl rfl rfl rfl ?_
 refine Lq (.bool (decide ((n : Int) < 10))) rfl rfl rfl (by kernel_rfl) ?_
 refine L_nil ?_
 have c1 : (decide ((n : Int) < 10)) = true := decide_eq_true (by omega)
 have q2 := of_decide_eq_true c1
 refine W_cond_true (by show Value.bool _ = _; exact congrArg Value.bool c1) ?_
 refine W_seq ?_
 have hd10 : n = 0 ∨ n = 1 ∨ n = 2 ∨ n = 3 ∨ n = 4 ∨ n = 5 ∨ n = 6 ∨ n = 7 ∨ n = 8 ∨ n = 9 := by omega
 rcases hd10 with rfl | rfl | rfl | rfl | rfl | rfl | rfl | rfl | rfl | rfl
 ·
  refine W_region_lit ?_
  refine Lq (int 0) rfl rfl rfl rfl ?_
  refine Lq (int 0) rfl rfl rfl rfl ?_
  refine Lq (int 1) rfl rfl rfl (by kernel_rfl) ?_
  refine Lq (.string ⟨#[48]⟩) rfl rfl rfl (by kernel_rfl) ?_
  refine Lq (.string ⟨#[48]⟩) rfl rfl rfl rfl ?_
  refine L_nil ?_
  refine W_ret ?_
  refine ⟨_, _, res_run (rs := [.tmp 2]) (vs := [(.string ⟨#[48]⟩)]) Tryz.results45 (.cons (.tmp rfl) .nil) rfl, ?_⟩
  exact ⟨ret_str (by decide +kernel), hst.grow⟩
 ·
  refine W_region_lit ?_
  refine Lq (int 1) rfl rfl rfl rfl ?_
  refine Lq (int 1) rfl rfl rfl rfl ?_
  refine Lq (int 2) rfl rfl rfl (by kernel_rfl) ?_
  refine Lq (.string ⟨#[49]⟩) rfl rfl rfl (by kernel_rfl) ?_
  refine Lq (.string ⟨#[49]⟩) rfl rfl rfl rfl ?_
  refine L_nil ?_
  refine W_ret ?_
  refine ⟨_, _, res_run (rs := [.tmp 2]) (vs := [(.string ⟨#[49]⟩)]) Tryz.results45 (.cons (.tmp rfl) .nil) rfl, ?_⟩
  exact ⟨ret_str (by decide +kernel), hst.grow⟩
 ·
  refine W_region_lit ?_
  refine Lq (int 2) rfl rfl rfl rfl ?_
  refine Lq (int 2) rfl rfl rfl rfl ?_
  refine Lq (int 3) rfl rfl rfl (by kernel_rfl) ?_
  refine Lq (.string ⟨#[50]⟩) rfl rfl rfl (by kernel_rfl) ?_
  refine Lq (.string ⟨#[50]⟩) rfl rfl rfl rfl ?_
  refine L_nil ?_
  refine W_ret ?_
  refine ⟨_, _, res_run (rs := [.tmp 2]) (vs := [(.string ⟨#[50]⟩)]) Tryz.results45 (.cons (.tmp rfl) .nil) rfl, ?_⟩
  exact ⟨ret_str (by decide +kernel), hst.grow⟩
 ·
  refine W_region_lit ?_
  refine Lq (int 3) rfl rfl rfl rfl ?_
  refine Lq (int 3) rfl rfl rfl rfl ?_
  refine Lq (int 4) rfl rfl rfl (by kernel_rfl) ?_
  refine Lq (.string ⟨#[51]⟩) rfl rfl rfl (by kernel_rfl) ?_
  refine Lq (.string ⟨#[51]⟩) rfl rfl rfl rfl ?_
  refine L_nil ?_
  refine W_ret ?_
  refine ⟨_, _, res_run (rs := [.tmp 2]) (vs := [(.string ⟨#[51]⟩)]) Tryz.results45 (.cons (.tmp rfl) .nil) rfl, ?_⟩
  exact ⟨ret_str (by decide +kernel), hst.grow⟩
 ·
  refine W_region_lit ?_
  refine Lq (int 4) rfl rfl rfl rfl ?_
  refine Lq (int 4) rfl rfl rfl rfl ?_
  refine Lq (int 5) rfl rfl rfl (by kernel_rfl) ?_
  refine Lq (.string ⟨#[52]⟩) rfl rfl rfl (by kernel_rfl) ?_
  refine Lq (.string ⟨#[52]⟩) rfl rfl rfl rfl ?_
  refine L_nil ?_
  refine W_ret ?_
  refine ⟨_, _, res_run (rs := [.tmp 2]) (vs := [(.string ⟨#[52]⟩)]) Tryz.results45 (.cons (.tmp rfl) .nil) rfl, ?_⟩
  exact ⟨ret_str (by decide +kernel), hst.grow⟩
 ·
  refine W_region_lit ?_
  refine Lq (int 5) rfl rfl rfl rfl ?_
  refine Lq (int 5) rfl rfl rfl rfl ?_
  refine Lq (int 6) rfl rfl rfl (by kernel_rfl) ?_
  refine Lq (.string ⟨#[53]⟩) rfl rfl rfl (by kernel_rfl) ?_
  refine Lq (.string ⟨#[53]⟩) rfl rfl rfl rfl ?_
  refine L_nil ?_
  refine W_ret ?_
  refine ⟨_, _, res_run (rs := [.tmp 2]) (vs := [(.string ⟨#[53]⟩)]) Tryz.results45 (.cons (.tmp rfl) .nil) rfl, ?_⟩
  exact ⟨ret_str (by decide +kernel), hst.grow⟩
 ·
  refine W_region_lit ?_
  refine Lq (int 6) rfl rfl rfl rfl ?_
  refine Lq (int 6) rfl rfl rfl rfl ?_
  refine Lq (int 7) rfl rfl rfl (by kernel_rfl) ?_
  refine Lq (.string ⟨#[54]⟩) rfl rfl rfl (by kernel_rfl) ?_
  refine Lq (.string ⟨#[54]⟩) rfl rfl rfl rfl ?_
  refine L_nil ?_
  refine W_ret ?_
  refine ⟨_, _, res_run (rs := [.tmp 2]) (vs := [(.string ⟨#[54]⟩)]) Tryz.results45 (.cons (.tmp rfl) .nil) rfl, ?_⟩
  exact ⟨ret_str (by decide +kernel), hst.grow⟩
 ·
  refine W_region_lit ?_
  refine Lq (int 7) rfl rfl rfl rfl ?_
  refine Lq (int 7) rfl rfl rfl rfl ?_
  refine Lq (int 8) rfl rfl rfl (by kernel_rfl) ?_
  refine Lq (.string ⟨#[55]⟩) rfl rfl rfl (by kernel_rfl) ?_
  refine Lq (.string ⟨#[55]⟩) rfl rfl rfl rfl ?_
  refine L_nil ?_
  refine W_ret ?_
  refine ⟨_, _, res_run (rs := [.tmp 2]) (vs := [(.string ⟨#[55]⟩)]) Tryz.results45 (.cons (.tmp rfl) .nil) rfl, ?_⟩
  exact ⟨ret_str (by decide +kernel), hst.grow⟩
 ·
  refine W_region_lit ?_
  refine Lq (int 8) rfl rfl rfl rfl ?_
  refine Lq (int 8) rfl rfl rfl rfl ?_
  refine Lq (int 9) rfl rfl rfl (by kernel_rfl) ?_
  refine Lq (.string ⟨#[56]⟩) rfl rfl rfl (by kernel_rfl) ?_
  refine Lq (.string ⟨#[56]⟩) rfl rfl rfl rfl ?_
  refine L_nil ?_
  refine W_ret ?_
  refine ⟨_, _, res_run (rs := [.tmp 2]) (vs := [(.string ⟨#[56]⟩)]) Tryz.results45 (.cons (.tmp rfl) .nil) rfl, ?_⟩
  exact ⟨ret_str (by decide +kernel), hst.grow⟩
 ·
  refine W_region_lit ?_
  refine Lq (int 9) rfl rfl rfl rfl ?_
  refine Lq (int 9) rfl rfl rfl rfl ?_
  refine Lq (int 10) rfl rfl rfl (by kernel_rfl) ?_
  refine Lq (.string ⟨#[57]⟩) rfl rfl rfl (by kernel_rfl) ?_
  refine Lq (.string ⟨#[57]⟩) rfl rfl rfl rfl ?_
  refine L_nil ?_
  refine W_ret ?_
  refine ⟨_, _, res_run (rs := [.tmp 2]) (vs := [(.string ⟨#[57]⟩)]) Tryz.results45 (.cons (.tmp rfl) .nil) rfl, ?_⟩
  exact ⟨ret_str (by decide +kernel), hst.grow⟩
theorem Dec_two {w : World} {R : Hp} (n : Nat) (h10 : 10 ≤ n) (hn : n < 100) (hR : Le R (hp w)) :
    Calls Tryz.prog 45 #[int (n : Int)] w fun e w' => e = .returned (.string (dec (n : Int))) ∧ Grow w w' := by
 have hst := Step.ro hR
 refine calls_of_W (n := 19) Tryz.func45 rfl Tryz.ntmps45 (Nat.le_of_ble_eq_true rfl) ?_
 refine W_seq ?_
 refine W_region_lit ?_
 refine Lq (.string ⟨#[]⟩) rfl rfl rfl rfl ?_
 refine L_nil ?_
 refine W_seq ?_
 refine W_seq ?_
 refine W_region_lit ?_
 refine Lq (int (n : Int)) rfl rfl rfl rfl ?_
 refine Lq (.bool (decide ((n : Int) < 10))) rfl rfl rfl (by kernel_rfl) ?_
 refine L_nil ?_
 have c1 : (decide ((n : Int) < 10)) = false := decide_eq_false (by omega)
 have q2 := of_decide_eq_false c1
 refine W_cond_false (by show Value.bool _ = _; exact congrArg Value.bool c1) ?_
 refine W_skip ?_
 refine W_seq ?_
 have hd10 : n % 10 = 0 ∨ n % 10 = 1 ∨ n % 10 = 2 ∨ n % 10 = 3 ∨ n % 10 = 4 ∨ n % 10 = 5 ∨ n % 10 = 6 ∨ n % 10 = 7 ∨ n % 10 = 8 ∨ n % 10 = 9 := by omega
 rcases hd10 with hdig | hdig | hdig | hdig | hdig | hdig | hdig | hdig | hdig | hdig
 ·
  refine W_region_draw [] (fun w => Le R (hp w)) hmix (by decide +kernel) (fun _ _ h => h) ?_
  have hst4 := hst.draws (w.drawn + 1)
  generalize draws w (w.drawn + 1) = w3 at hst4 ⊢
  refine LP (int (n : Int)) 0 rfl rfl rfl (fun u6 => rfl) hst4.rle' ?_
  refine LP (int (((n / 10) : Nat) : Int)) 1 rfl rfl rfl (fun u9 => (x_quo_nat (b := 10) rfl rfl rfl (by omega) (by omega))) hst4.rle' ?_
  refine LP (int (n : Int)) 3 rfl rfl rfl (fun u14 => rfl) hst4.rle' ?_
  refine LP (int 0) 4 rfl rfl rfl (fun u19 => (x_rem_dig (b := 10) rfl rfl rfl (by omega) hdig)) hst4.rle' ?_
  refine LP (int (n : Int)) 5 rfl rfl rfl (fun u24 => rfl) hst4.rle' ?_
  refine LP (int 0) 6 rfl rfl rfl (fun u29 => (x_rem_dig (b := 10) rfl rfl rfl (by omega) hdig)) hst4.rle' ?_
  refine LP (int 1) 7 rfl rfl rfl (fun u34 => (by kernel_rfl)) hst4.rle' ?_
  refine LT (.string ⟨#[48]⟩) 8 rfl rfl rfl (fun u39 hF40 => (by kernel_rfl)) hst4.rle' ?_
  refine LA_all [2] (by decide +kernel) (by simp) ?_
  intro i_ hi_
  simp only [List.mem_cons, List.not_mem_nil, or_false] at hi_
  subst hi_
  have hdz := dec_size (n := (((n / 10) : Nat) : Int)) (by omega) (by omega)
  refine One_call (i := 2) rfl rfl rfl (Want.plain rfl) (x_call (vs := #[(int (((n / 10) : Nat) : Int))]) rfl rfl (by kernel_rfl) ent_45) (Dec_one (n / 10) (by omega) (Le.refl _)) ?_
  rintro e46 w44 ⟨rfl, hw47⟩
  have hst45 := hst4.grown hw47
  refine ⟨_, rfl, (fun _ => hst45.rle'), ?_⟩
  obtain ⟨t51, ht52⟩ : ∃ t_ : ByteArray, t_ = (dec (((n / 10) : Nat) : Int)) ++ ⟨#[48]⟩ := ⟨_, rfl⟩
  have ht52z := size_app_le hdz (show ByteArray.size ⟨#[48]⟩ ≤ 1 from by decide)
  rw [← ht52] at ht52z
  simp only [Nat.reduceAdd] at ht52z
  refine LP (.string t51) 9 rfl rfl rfl (fun u49 => (by rw [ht52]; exact (x_strcat rfl rfl rfl (by have h1_ := hdz; have h2_ := (show ByteArray.size ⟨#[48]⟩ ≤ 1 from by decide); omega)))) hst45.rle' ?_
  refine LP (.string t51) 10 rfl rfl rfl (fun u54 => rfl) hst45.rle' ?_
  refine LA_done (by decide +kernel) ?_
  refine W_ret ?_
  refine ⟨_, _, res_run (rs := [.tmp 2]) (vs := [(.string t51)]) Tryz.results45 (.cons (.tmp rfl) .nil) rfl, ?_⟩
  exact ⟨ret_str (by rw [ht52]; exact dec_two h10 hn hdig), hst45.grow⟩
 ·
  refine W_region_draw [] (fun w => Le R (hp w)) hmix (by decide +kernel) (fun _ _ h => h) ?_
  have hst57 := hst.draws (w.drawn + 1)
  generalize draws w (w.drawn + 1) = w56 at hst57 ⊢
  refine LP (int (n : Int)) 0 rfl rfl rfl (fun u59 => rfl) hst57.rle' ?_
  refine LP (int (((n / 10) : Nat) : Int)) 1 rfl rfl rfl (fun u62 => (x_quo_nat (b := 10) rfl rfl rfl (by omega) (by omega))) hst57.rle' ?_
  refine LP (int (n : Int)) 3 rfl rfl rfl (fun u67 => rfl) hst57.rle' ?_
  refine LP (int 1) 4 rfl rfl rfl (fun u72 => (x_rem_dig (b := 10) rfl rfl rfl (by omega) hdig)) hst57.rle' ?_
  refine LP (int (n : Int)) 5 rfl rfl rfl (fun u77 => rfl) hst57.rle' ?_
  refine LP (int 1) 6 rfl rfl rfl (fun u82 => (x_rem_dig (b := 10) rfl rfl rfl (by omega) hdig)) hst57.rle' ?_
  refine LP (int 2) 7 rfl rfl rfl (fun u87 => (by kernel_rfl)) hst57.rle' ?_
  refine LT (.string ⟨#[49]⟩) 8 rfl rfl rfl (fun u92 hF93 => (by kernel_rfl)) hst57.rle' ?_
  refine LA_all [2] (by decide +kernel) (by simp) ?_
  intro i_ hi_
  simp only [List.mem_cons, List.not_mem_nil, or_false] at hi_
  subst hi_
  have hdz := dec_size (n := (((n / 10) : Nat) : Int)) (by omega) (by omega)
  refine One_call (i := 2) rfl rfl rfl (Want.plain rfl) (x_call (vs := #[(int (((n / 10) : Nat) : Int))]) rfl rfl (by kernel_rfl) ent_45) (Dec_one (n / 10) (by omega) (Le.refl _)) ?_
  rintro e99 w97 ⟨rfl, hw100⟩
  have hst98 := hst57.grown hw100
  refine ⟨_, rfl, (fun _ => hst98.rle'), ?_⟩
  obtain ⟨t104, ht105⟩ : ∃ t_ : ByteArray, t_ = (dec (((n / 10) : Nat) : Int)) ++ ⟨#[49]⟩ := ⟨_, rfl⟩
  have ht105z := size_app_le hdz (show ByteArray.size ⟨#[49]⟩ ≤ 1 from by decide)
  rw [← ht105] at ht105z
  simp only [Nat.reduceAdd] at ht105z
  refine LP (.string t104) 9 rfl rfl rfl (fun u102 => (by rw [ht105]; exact (x_strcat rfl rfl rfl (by have h1_ := hdz; have h2_ := (show ByteArray.size ⟨#[49]⟩ ≤ 1 from by decide); omega)))) hst98.rle' ?_
  refine LP (.string t104) 10 rfl rfl rfl (fun u107 => rfl) hst98.rle' ?_
  refine LA_done (by decide +kernel) ?_
  refine W_ret ?_
  refine ⟨_, _, res_run (rs := [.tmp 2]) (vs := [(.string t104)]) Tryz.results45 (.cons (.tmp rfl) .nil) rfl, ?_⟩
  exact ⟨ret_str (by rw [ht105]; exact dec_two h10 hn hdig), hst98.grow⟩
 ·
  refine W_region_draw [] (fun w => Le R (hp w)) hmix (by decide +kernel) (fun _ _ h => h) ?_
  have hst110 := hst.draws (w.drawn + 1)
  generalize draws w (w.drawn + 1) = w109 at hst110 ⊢
  refine LP (int (n : Int)) 0 rfl rfl rfl (fun u112 => rfl) hst110.rle' ?_
  refine LP (int (((n / 10) : Nat) : Int)) 1 rfl rfl rfl (fun u115 => (x_quo_nat (b := 10) rfl rfl rfl (by omega) (by omega))) hst110.rle' ?_
  refine LP (int (n : Int)) 3 rfl rfl rfl (fun u120 => rfl) hst110.rle' ?_
  refine LP (int 2) 4 rfl rfl rfl (fun u125 => (x_rem_dig (b := 10) rfl rfl rfl (by omega) hdig)) hst110.rle' ?_
  refine LP (int (n : Int)) 5 rfl rfl rfl (fun u130 => rfl) hst110.rle' ?_
  refine LP (int 2) 6 rfl rfl rfl (fun u135 => (x_rem_dig (b := 10) rfl rfl rfl (by omega) hdig)) hst110.rle' ?_
  refine LP (int 3) 7 rfl rfl rfl (fun u140 => (by kernel_rfl)) hst110.rle' ?_
  refine LT (.string ⟨#[50]⟩) 8 rfl rfl rfl (fun u145 hF146 => (by kernel_rfl)) hst110.rle' ?_
  refine LA_all [2] (by decide +kernel) (by simp) ?_
  intro i_ hi_
  simp only [List.mem_cons, List.not_mem_nil, or_false] at hi_
  subst hi_
  have hdz := dec_size (n := (((n / 10) : Nat) : Int)) (by omega) (by omega)
  refine One_call (i := 2) rfl rfl rfl (Want.plain rfl) (x_call (vs := #[(int (((n / 10) : Nat) : Int))]) rfl rfl (by kernel_rfl) ent_45) (Dec_one (n / 10) (by omega) (Le.refl _)) ?_
  rintro e152 w150 ⟨rfl, hw153⟩
  have hst151 := hst110.grown hw153
  refine ⟨_, rfl, (fun _ => hst151.rle'), ?_⟩
  obtain ⟨t157, ht158⟩ : ∃ t_ : ByteArray, t_ = (dec (((n / 10) : Nat) : Int)) ++ ⟨#[50]⟩ := ⟨_, rfl⟩
  have ht158z := size_app_le hdz (show ByteArray.size ⟨#[50]⟩ ≤ 1 from by decide)
  rw [← ht158] at ht158z
  simp only [Nat.reduceAdd] at ht158z
  refine LP (.string t157) 9 rfl rfl rfl (fun u155 => (by rw [ht158]; exact (x_strcat rfl rfl rfl (by have h1_ := hdz; have h2_ := (show ByteArray.size ⟨#[50]⟩ ≤ 1 from by decide); omega)))) hst151.rle' ?_
  refine LP (.string t157) 10 rfl rfl rfl (fun u160 => rfl) hst151.rle' ?_
  refine LA_done (by decide +kernel) ?_
  refine W_ret ?_
  refine ⟨_, _, res_run (rs := [.tmp 2]) (vs := [(.string t157)]) Tryz.results45 (.cons (.tmp rfl) .nil) rfl, ?_⟩
  exact ⟨ret_str (by rw [ht158]; exact dec_two h10 hn hdig), hst151.grow⟩
 ·
  refine W_region_draw [] (fun w => Le R (hp w)) hmix (by decide +kernel) (fun _ _ h => h) ?_
  have hst163 := hst.draws (w.drawn + 1)
  generalize draws w (w.drawn + 1) = w162 at hst163 ⊢
  refine LP (int (n : Int)) 0 rfl rfl rfl (fun u165 => rfl) hst163.rle' ?_
  refine LP (int (((n / 10) : Nat) : Int)) 1 rfl rfl rfl (fun u168 => (x_quo_nat (b := 10) rfl rfl rfl (by omega) (by omega))) hst163.rle' ?_
  refine LP (int (n : Int)) 3 rfl rfl rfl (fun u173 => rfl) hst163.rle' ?_
  refine LP (int 3) 4 rfl rfl rfl (fun u178 => (x_rem_dig (b := 10) rfl rfl rfl (by omega) hdig)) hst163.rle' ?_
  refine LP (int (n : Int)) 5 rfl rfl rfl (fun u183 => rfl) hst163.rle' ?_
  refine LP (int 3) 6 rfl rfl rfl (fun u188 => (x_rem_dig (b := 10) rfl rfl rfl (by omega) hdig)) hst163.rle' ?_
  refine LP (int 4) 7 rfl rfl rfl (fun u193 => (by kernel_rfl)) hst163.rle' ?_
  refine LT (.string ⟨#[51]⟩) 8 rfl rfl rfl (fun u198 hF199 => (by kernel_rfl)) hst163.rle' ?_
  refine LA_all [2] (by decide +kernel) (by simp) ?_
  intro i_ hi_
  simp only [List.mem_cons, List.not_mem_nil, or_false] at hi_
  subst hi_
  have hdz := dec_size (n := (((n / 10) : Nat) : Int)) (by omega) (by omega)
  refine One_call (i := 2) rfl rfl rfl (Want.plain rfl) (x_call (vs := #[(int (((n / 10) : Nat) : Int))]) rfl rfl (by kernel_rfl) ent_45) (Dec_one (n / 10) (by omega) (Le.refl _)) ?_
  rintro e205 w203 ⟨rfl, hw206⟩
  have hst204 := hst163.grown hw206
  refine ⟨_, rfl, (fun _ => hst204.rle'), ?_⟩
  obtain ⟨t210, ht211⟩ : ∃ t_ : ByteArray, t_ = (dec (((n / 10) : Nat) : Int)) ++ ⟨#[51]⟩ := ⟨_, rfl⟩
  have ht211z := size_app_le hdz (show ByteArray.size ⟨#[51]⟩ ≤ 1 from by decide)
  rw [← ht211] at ht211z
  simp only [Nat.reduceAdd] at ht211z
  refine LP (.string t210) 9 rfl rfl rfl (fun u208 => (by rw [ht211]; exact (x_strcat rfl rfl rfl (by have h1_ := hdz; have h2_ := (show ByteArray.size ⟨#[51]⟩ ≤ 1 from by decide); omega)))) hst204.rle' ?_
  refine LP (.string t210) 10 rfl rfl rfl (fun u213 => rfl) hst204.rle' ?_
  refine LA_done (by decide +kernel) ?_
  refine W_ret ?_
  refine ⟨_, _, res_run (rs := [.tmp 2]) (vs := [(.string t210)]) Tryz.results45 (.cons (.tmp rfl) .nil) rfl, ?_⟩
  exact ⟨ret_str (by rw [ht211]; exact dec_two h10 hn hdig), hst204.grow⟩
 ·
  refine W_region_draw [] (fun w => Le R (hp w)) hmix (by decide +kernel) (fun _ _ h => h) ?_
  have hst216 := hst.draws (w.drawn + 1)
  generalize draws w (w.drawn + 1) = w215 at hst216 ⊢
  refine LP (int (n : Int)) 0 rfl rfl rfl (fun u218 => rfl) hst216.rle' ?_
  refine LP (int (((n / 10) : Nat) : Int)) 1 rfl rfl rfl (fun u221 => (x_quo_nat (b := 10) rfl rfl rfl (by omega) (by omega))) hst216.rle' ?_
  refine LP (int (n : Int)) 3 rfl rfl rfl (fun u226 => rfl) hst216.rle' ?_
  refine LP (int 4) 4 rfl rfl rfl (fun u231 => (x_rem_dig (b := 10) rfl rfl rfl (by omega) hdig)) hst216.rle' ?_
  refine LP (int (n : Int)) 5 rfl rfl rfl (fun u236 => rfl) hst216.rle' ?_
  refine LP (int 4) 6 rfl rfl rfl (fun u241 => (x_rem_dig (b := 10) rfl rfl rfl (by omega) hdig)) hst216.rle' ?_
  refine LP (int 5) 7 rfl rfl rfl (fun u246 => (by kernel_rfl)) hst216.rle' ?_
  refine LT (.string ⟨#[52]⟩) 8 rfl rfl rfl (fun u251 hF252 => (by kernel_rfl)) hst216.rle' ?_
  refine LA_all [2] (by decide +kernel) (by simp) ?_
  intro i_ hi_
  simp only [List.mem_cons, List.not_mem_nil, or_false] at hi_
  subst hi_
  have hdz := dec_size (n := (((n / 10) : Nat) : Int)) (by omega) (by omega)
  refine One_call (i := 2) rfl rfl rfl (Want.plain rfl) (x_call (vs := #[(int (((n / 10) : Nat) : Int))]) rfl rfl (by kernel_rfl) ent_45) (Dec_one (n / 10) (by omega) (Le.refl _)) ?_
  rintro e258 w256 ⟨rfl, hw259⟩
  have hst257 := hst216.grown hw259
  refine ⟨_, rfl, (fun _ => hst257.rle'), ?_⟩
  obtain ⟨t263, ht264⟩ : ∃ t_ : ByteArray, t_ = (dec (((n / 10) : Nat) : Int)) ++ ⟨#[52]⟩ := ⟨_, rfl⟩
  have ht264z := size_app_le hdz (show ByteArray.size ⟨#[52]⟩ ≤ 1 from by decide)
  rw [← ht264] at ht264z
  simp only [Nat.reduceAdd] at ht264z
  refine LP (.string t263) 9 rfl rfl rfl (fun u261 => (by rw [ht264]; exact (x_strcat rfl rfl rfl (by have h1_ := hdz; have h2_ := (show ByteArray.size ⟨#[52]⟩ ≤ 1 from by decide); omega)))) hst257.rle' ?_
  refine LP (.string t263) 10 rfl rfl rfl (fun u266 => rfl) hst257.rle' ?_
  refine LA_done (by decide +kernel) ?_
  refine W_ret ?_
  refine ⟨_, _, res_run (rs := [.tmp 2]) (vs := [(.string t263)]) Tryz.results45 (.cons (.tmp rfl) .nil) rfl, ?_⟩
  exact ⟨ret_str (by rw [ht264]; exact dec_two h10 hn hdig), hst257.grow⟩
 ·
  refine W_region_draw [] (fun w => Le R (hp w)) hmix (by decide +kernel) (fun _ _ h => h) ?_
  have hst269 := hst.draws (w.drawn + 1)
  generalize draws w (w.drawn + 1) = w268 at hst269 ⊢
  refine LP (int (n : Int)) 0 rfl rfl rfl (fun u271 => rfl) hst269.rle' ?_
  refine LP (int (((n / 10) : Nat) : Int)) 1 rfl rfl rfl (fun u274 => (x_quo_nat (b := 10) rfl rfl rfl (by omega) (by omega))) hst269.rle' ?_
  refine LP (int (n : Int)) 3 rfl rfl rfl (fun u279 => rfl) hst269.rle' ?_
  refine LP (int 5) 4 rfl rfl rfl (fun u284 => (x_rem_dig (b := 10) rfl rfl rfl (by omega) hdig)) hst269.rle' ?_
  refine LP (int (n : Int)) 5 rfl rfl rfl (fun u289 => rfl) hst269.rle' ?_
  refine LP (int 5) 6 rfl rfl rfl (fun u294 => (x_rem_dig (b := 10) rfl rfl rfl (by omega) hdig)) hst269.rle' ?_
  refine LP (int 6) 7 rfl rfl rfl (fun u299 => (by kernel_rfl)) hst269.rle' ?_
  refine LT (.string ⟨#[53]⟩) 8 rfl rfl rfl (fun u304 hF305 => (by kernel_rfl)) hst269.rle' ?_
  refine LA_all [2] (by decide +kernel) (by simp) ?_
  intro i_ hi_
  simp only [List.mem_cons, List.not_mem_nil, or_false] at hi_
  subst hi_
  have hdz := dec_size (n := (((n / 10) : Nat) : Int)) (by omega) (by omega)
  refine One_call (i := 2) rfl rfl rfl (Want.plain rfl) (x_call (vs := #[(int (((n / 10) : Nat) : Int))]) rfl rfl (by kernel_rfl) ent_45) (Dec_one (n / 10) (by omega) (Le.refl _)) ?_
  rintro e311 w309 ⟨rfl, hw312⟩
  have hst310 := hst269.grown hw312
  refine ⟨_, rfl, (fun _ => hst310.rle'), ?_⟩
  obtain ⟨t316, ht317⟩ : ∃ t_ : ByteArray, t_ = (dec (((n / 10) : Nat) : Int)) ++ ⟨#[53]⟩ := ⟨_, rfl⟩
  have ht317z := size_app_le hdz (show ByteArray.size ⟨#[53]⟩ ≤ 1 from by decide)
  rw [← ht317] at ht317z
  simp only [Nat.reduceAdd] at ht317z
  refine LP (.string t316) 9 rfl rfl rfl (fun u314 => (by rw [ht317]; exact (x_strcat rfl rfl rfl (by have h1_ := hdz; have h2_ := (show ByteArray.size ⟨#[53]⟩ ≤ 1 from by decide); omega)))) hst310.rle' ?_
  refine LP (.string t316) 10 rfl rfl rfl (fun u319 => rfl) hst310.rle' ?_
  refine LA_done (by decide +kernel) ?_
  refine W_ret ?_
  refine ⟨_, _, res_run (rs := [.tmp 2]) (vs := [(.string t316)]) Tryz.results45 (.cons (.tmp rfl) .nil) rfl, ?_⟩
  exact ⟨ret_str (by rw [ht317]; exact dec_two h10 hn hdig), hst310.grow⟩
 ·
  refine W_region_draw [] (fun w => Le R (hp w)) hmix (by decide +kernel) (fun _ _ h => h) ?_
  have hst322 := hst.draws (w.drawn + 1)
  generalize draws w (w.drawn + 1) = w321 at hst322 ⊢
  refine LP (int (n : Int)) 0 rfl rfl rfl (fun u324 => rfl) hst322.rle' ?_
  refine LP (int (((n / 10) : Nat) : Int)) 1 rfl rfl rfl (fun u327 => (x_quo_nat (b := 10) rfl rfl rfl (by omega) (by omega))) hst322.rle' ?_
  refine LP (int (n : Int)) 3 rfl rfl rfl (fun u332 => rfl) hst322.rle' ?_
  refine LP (int 6) 4 rfl rfl rfl (fun u337 => (x_rem_dig (b := 10) rfl rfl rfl (by omega) hdig)) hst322.rle' ?_
  refine LP (int (n : Int)) 5 rfl rfl rfl (fun u342 => rfl) hst322.rle' ?_
  refine LP (int 6) 6 rfl rfl rfl (fun u347 => (x_rem_dig (b := 10) rfl rfl rfl (by omega) hdig)) hst322.rle' ?_
  refine LP (int 7) 7 rfl rfl rfl (fun u352 => (by kernel_rfl)) hst322.rle' ?_
  refine LT (.string ⟨#[54]⟩) 8 rfl rfl rfl (fun u357 hF358 => (by kernel_rfl)) hst322.rle' ?_
  refine LA_all [2] (by decide +kernel) (by simp) ?_
  intro i_ hi_
  simp only [List.mem_cons, List.not_mem_nil, or_false] at hi_
  subst hi_
  have hdz := dec_size (n := (((n / 10) : Nat) : Int)) (by omega) (by omega)
  refine One_call (i := 2) rfl rfl rfl (Want.plain rfl) (x_call (vs := #[(int (((n / 10) : Nat) : Int))]) rfl rfl (by kernel_rfl) ent_45) (Dec_one (n / 10) (by omega) (Le.refl _)) ?_
  rintro e364 w362 ⟨rfl, hw365⟩
  have hst363 := hst322.grown hw365
  refine ⟨_, rfl, (fun _ => hst363.rle'), ?_⟩
  obtain ⟨t369, ht370⟩ : ∃ t_ : ByteArray, t_ = (dec (((n / 10) : Nat) : Int)) ++ ⟨#[54]⟩ := ⟨_, rfl⟩
  have ht370z := size_app_le hdz (show ByteArray.size ⟨#[54]⟩ ≤ 1 from by decide)
  rw [← ht370] at ht370z
  simp only [Nat.reduceAdd] at ht370z
  refine LP (.string t369) 9 rfl rfl rfl (fun u367 => (by rw [ht370]; exact (x_strcat rfl rfl rfl (by have h1_ := hdz; have h2_ := (show ByteArray.size ⟨#[54]⟩ ≤ 1 from by decide); omega)))) hst363.rle' ?_
  refine LP (.string t369) 10 rfl rfl rfl (fun u372 => rfl) hst363.rle' ?_
  refine LA_done (by decide +kernel) ?_
  refine W_ret ?_
  refine ⟨_, _, res_run (rs := [.tmp 2]) (vs := [(.string t369)]) Tryz.results45 (.cons (.tmp rfl) .nil) rfl, ?_⟩
  exact ⟨ret_str (by rw [ht370]; exact dec_two h10 hn hdig), hst363.grow⟩
 ·
  refine W_region_draw [] (fun w => Le R (hp w)) hmix (by decide +kernel) (fun _ _ h => h) ?_
  have hst375 := hst.draws (w.drawn + 1)
  generalize draws w (w.drawn + 1) = w374 at hst375 ⊢
  refine LP (int (n : Int)) 0 rfl rfl rfl (fun u377 => rfl) hst375.rle' ?_
  refine LP (int (((n / 10) : Nat) : Int)) 1 rfl rfl rfl (fun u380 => (x_quo_nat (b := 10) rfl rfl rfl (by omega) (by omega))) hst375.rle' ?_
  refine LP (int (n : Int)) 3 rfl rfl rfl (fun u385 => rfl) hst375.rle' ?_
  refine LP (int 7) 4 rfl rfl rfl (fun u390 => (x_rem_dig (b := 10) rfl rfl rfl (by omega) hdig)) hst375.rle' ?_
  refine LP (int (n : Int)) 5 rfl rfl rfl (fun u395 => rfl) hst375.rle' ?_
  refine LP (int 7) 6 rfl rfl rfl (fun u400 => (x_rem_dig (b := 10) rfl rfl rfl (by omega) hdig)) hst375.rle' ?_
  refine LP (int 8) 7 rfl rfl rfl (fun u405 => (by kernel_rfl)) hst375.rle' ?_
  refine LT (.string ⟨#[55]⟩) 8 rfl rfl rfl (fun u410 hF411 => (by kernel_rfl)) hst375.rle' ?_
  refine LA_all [2] (by decide +kernel) (by simp) ?_
  intro i_ hi_
  simp only [List.mem_cons, List.not_mem_nil, or_false] at hi_
  subst hi_
  have hdz := dec_size (n := (((n / 10) : Nat) : Int)) (by omega) (by omega)
  refine One_call (i := 2) rfl rfl rfl (Want.plain rfl) (x_call (vs := #[(int (((n / 10) : Nat) : Int))]) rfl rfl (by kernel_rfl) ent_45) (Dec_one (n / 10) (by omega) (Le.refl _)) ?_
  rintro e417 w415 ⟨rfl, hw418⟩
  have hst416 := hst375.grown hw418
  refine ⟨_, rfl, (fun _ => hst416.rle'), ?_⟩
  obtain ⟨t422, ht423⟩ : ∃ t_ : ByteArray, t_ = (dec (((n / 10) : Nat) : Int)) ++ ⟨#[55]⟩ := ⟨_, rfl⟩
  have ht423z := size_app_le hdz (show ByteArray.size ⟨#[55]⟩ ≤ 1 from by decide)
  rw [← ht423] at ht423z
  simp only [Nat.reduceAdd] at ht423z
  refine LP (.string t422) 9 rfl rfl rfl (fun u420 => (by rw [ht423]; exact (x_strcat rfl rfl rfl (by have h1_ := hdz; have h2_ := (show ByteArray.size ⟨#[55]⟩ ≤ 1 from by decide); omega)))) hst416.rle' ?_
  refine LP (.string t422) 10 rfl rfl rfl (fun u425 => rfl) hst416.rle' ?_
  refine LA_done (by decide +kernel) ?_
  refine W_ret ?_
  refine ⟨_, _, res_run (rs := [.tmp 2]) (vs := [(.string t422)]) Tryz.results45 (.cons (.tmp rfl) .nil) rfl, ?_⟩
  exact ⟨ret_str (by rw [ht423]; exact dec_two h10 hn hdig), hst416.grow⟩
 ·
  refine W_region_draw [] (fun w => Le R (hp w)) hmix (by decide +kernel) (fun _ _ h => h) ?_
  have hst428 := hst.draws (w.drawn + 1)
  generalize draws w (w.drawn + 1) = w427 at hst428 ⊢
  refine LP (int (n : Int)) 0 rfl rfl rfl (fun u430 => rfl) hst428.rle' ?_
  refine LP (int (((n / 10) : Nat) : Int)) 1 rfl rfl rfl (fun u433 => (x_quo_nat (b := 10) rfl rfl rfl (by omega) (by omega))) hst428.rle' ?_
  refine LP (int (n : Int)) 3 rfl rfl rfl (fun u438 => rfl) hst428.rle' ?_
  refine LP (int 8) 4 rfl rfl rfl (fun u443 => (x_rem_dig (b := 10) rfl rfl rfl (by omega) hdig)) hst428.rle' ?_
  refine LP (int (n : Int)) 5 rfl rfl rfl (fun u448 => rfl) hst428.rle' ?_
  refine LP (int 8) 6 rfl rfl rfl (fun u453 => (x_rem_dig (b := 10) rfl rfl rfl (by omega) hdig)) hst428.rle' ?_
  refine LP (int 9) 7 rfl rfl rfl (fun u458 => (by kernel_rfl)) hst428.rle' ?_
  refine LT (.string ⟨#[56]⟩) 8 rfl rfl rfl (fun u463 hF464 => (by kernel_rfl)) hst428.rle' ?_
  refine LA_all [2] (by decide +kernel) (by simp) ?_
  intro i_ hi_
  simp only [List.mem_cons, List.not_mem_nil, or_false] at hi_
  subst hi_
  have hdz := dec_size (n := (((n / 10) : Nat) : Int)) (by omega) (by omega)
  refine One_call (i := 2) rfl rfl rfl (Want.plain rfl) (x_call (vs := #[(int (((n / 10) : Nat) : Int))]) rfl rfl (by kernel_rfl) ent_45) (Dec_one (n / 10) (by omega) (Le.refl _)) ?_
  rintro e470 w468 ⟨rfl, hw471⟩
  have hst469 := hst428.grown hw471
  refine ⟨_, rfl, (fun _ => hst469.rle'), ?_⟩
  obtain ⟨t475, ht476⟩ : ∃ t_ : ByteArray, t_ = (dec (((n / 10) : Nat) : Int)) ++ ⟨#[56]⟩ := ⟨_, rfl⟩
  have ht476z := size_app_le hdz (show ByteArray.size ⟨#[56]⟩ ≤ 1 from by decide)
  rw [← ht476] at ht476z
  simp only [Nat.reduceAdd] at ht476z
  refine LP (.string t475) 9 rfl rfl rfl (fun u473 => (by rw [ht476]; exact (x_strcat rfl rfl rfl (by have h1_ := hdz; have h2_ := (show ByteArray.size ⟨#[56]⟩ ≤ 1 from by decide); omega)))) hst469.rle' ?_
  refine LP (.string t475) 10 rfl rfl rfl (fun u478 => rfl) hst469.rle' ?_
  refine LA_done (by decide +kernel) ?_
  refine W_ret ?_
  refine ⟨_, _, res_run (rs := [.tmp 2]) (vs := [(.string t475)]) Tryz.results45 (.cons (.tmp rfl) .nil) rfl, ?_⟩
  exact ⟨ret_str (by rw [ht476]; exact dec_two h10 hn hdig), hst469.grow⟩
 ·
  refine W_region_draw [] (fun w => Le R (hp w)) hmix (by decide +kernel) (fun _ _ h => h) ?_
  have hst481 := hst.draws (w.drawn + 1)
  generalize draws w (w.drawn + 1) = w480 at hst481 ⊢
  refine LP (int (n : Int)) 0 rfl rfl rfl (fun u483 => rfl) hst481.rle' ?_
  refine LP (int (((n / 10) : Nat) : Int)) 1 rfl rfl rfl (fun u486 => (x_quo_nat (b := 10) rfl rfl rfl (by omega) (by omega))) hst481.rle' ?_
  refine LP (int (n : Int)) 3 rfl rfl rfl (fun u491 => rfl) hst481.rle' ?_
  refine LP (int 9) 4 rfl rfl rfl (fun u496 => (x_rem_dig (b := 10) rfl rfl rfl (by omega) hdig)) hst481.rle' ?_
  refine LP (int (n : Int)) 5 rfl rfl rfl (fun u501 => rfl) hst481.rle' ?_
  refine LP (int 9) 6 rfl rfl rfl (fun u506 => (x_rem_dig (b := 10) rfl rfl rfl (by omega) hdig)) hst481.rle' ?_
  refine LP (int 10) 7 rfl rfl rfl (fun u511 => (by kernel_rfl)) hst481.rle' ?_
  refine LT (.string ⟨#[57]⟩) 8 rfl rfl rfl (fun u516 hF517 => (by kernel_rfl)) hst481.rle' ?_
  refine LA_all [2] (by decide +kernel) (by simp) ?_
  intro i_ hi_
  simp only [List.mem_cons, List.not_mem_nil, or_false] at hi_
  subst hi_
  have hdz := dec_size (n := (((n / 10) : Nat) : Int)) (by omega) (by omega)
  refine One_call (i := 2) rfl rfl rfl (Want.plain rfl) (x_call (vs := #[(int (((n / 10) : Nat) : Int))]) rfl rfl (by kernel_rfl) ent_45) (Dec_one (n / 10) (by omega) (Le.refl _)) ?_
  rintro e523 w521 ⟨rfl, hw524⟩
  have hst522 := hst481.grown hw524
  refine ⟨_, rfl, (fun _ => hst522.rle'), ?_⟩
  obtain ⟨t528, ht529⟩ : ∃ t_ : ByteArray, t_ = (dec (((n / 10) : Nat) : Int)) ++ ⟨#[57]⟩ := ⟨_, rfl⟩
  have ht529z := size_app_le hdz (show ByteArray.size ⟨#[57]⟩ ≤ 1 from by decide)
  rw [← ht529] at ht529z
  simp only [Nat.reduceAdd] at ht529z
  refine LP (.string t528) 9 rfl rfl rfl (fun u526 => (by rw [ht529]; exact (x_strcat rfl rfl rfl (by have h1_ := hdz; have h2_ := (show ByteArray.size ⟨#[57]⟩ ≤ 1 from by decide); omega)))) hst522.rle' ?_
  refine LP (.string t528) 10 rfl rfl rfl (fun u531 => rfl) hst522.rle' ?_
  refine LA_done (by decide +kernel) ?_
  refine W_ret ?_
  refine ⟨_, _, res_run (rs := [.tmp 2]) (vs := [(.string t528)]) Tryz.results45 (.cons (.tmp rfl) .nil) rfl, ?_⟩
  exact ⟨ret_str (by rw [ht529]; exact dec_two h10 hn hdig), hst522.grow⟩
theorem Dec_spec {w : World} {R : Hp} {n : Int} (h0 : 0 ≤ n) (h1 : n < 100) (hR : Le R (hp w)) : Calls Tryz.prog 45 #[int n] w fun e w' => e = .returned (.string (dec n)) ∧ Grow w w' := by
  obtain ⟨k, rfl⟩ : ∃ k : Nat, n = (k : Int) := ⟨n.toNat, by omega⟩
  by_cases h : k < 10
  · exact Dec_one k h hR
  · exact Dec_two k (by omega) (by omega) hR
set_option maxHeartbeats 2000000 in
theorem TextR_spec {w : World} {R : Hp} {p : Nat} {s : TS} (hT : RefV R p (shs s) s.roots) (hwf : WF s) (hn : Nice s) (hR : Le R (hp w)) :
    Calls Tryz.prog 15 #[ptr p 0] w fun e w' => e = .returned (.string ⟨(textT s).toArray⟩) ∧ Grow w w' := by
 obtain ⟨vL, vR, hp0, hL, hRs, hS, hrv, hrl⟩ := hT
 have hsl := shs_len s
 have hnl := hn.nodes
 have hrl2 := hn.roots
 have hst := Step.ro hR
 refine calls_of_W (n := 111) Tryz.func15 rfl Tryz.ntmps15 (Nat.le_of_ble_eq_true rfl) ?_
 refine W_seq ?_
 refine W_region_lit ?_
 refine Lq (.string ⟨#[]⟩) rfl rfl rfl rfl ?_
 refine L_nil ?_
 refine W_seq ?_
 refine W_region_lit ?_
 refine Lq (.string ⟨#[114, 111, 111, 116, 115]⟩) rfl rfl rfl rfl ?_
 refine L_nil ?_
 refine W_seq ?_
 refine W_seq ?_
 refine W_region_lit ?_
 refine Lq (int 0) rfl rfl rfl rfl ?_
 refine L_nil ?_
 refine W_block ?_
 refine W_loop (I := fun σ w_ m_ => ∃ (σ0 : Fr) (k_ : Nat) (t_ : Str), σ = upd (upd (upd (upd σ0 0 (ptr p 0)) 2 (.string ⟨#[]⟩)) 3 (.string t_)) 4 (int (k_ : Int)) ∧ mks (σ0 0) = [] ∧ Step w R [] w_ R [] ∧ k_ ≤ s.roots.length ∧ bts t_ = rootsT s.roots k_ ∧ m_ = s.roots.length - k_) (m := s.roots.length - 0) ?_ ?_
 ·
  exact ⟨_, 0, ⟨#[114, 111, 111, 116, 115]⟩, (upd_of (upd_of (upd_of (upd_of rfl rfl) rfl) rfl) rfl), rfl, hst, (by omega), (by rw [rootsT_zero]; rfl), rfl⟩
 ·
  rintro m10 σ_ w3 ⟨s7, k_8, t_9, rfl, hmk1, hst2, hf5, hf6, rfl⟩
  have htz : t_9.size ≤ 4000000 := by rw [← bts_len, hf6]; have := rootsT_len hwf hn (k := k_8) (by omega); omega
  refine W_seq ?_
  refine W_seq ?_
  refine W_region_lit ?_
  refine Lq (int (k_8 : Int)) rfl rfl rfl rfl ?_
  refine Lq (ptr p 0) rfl rfl rfl rfl ?_
  refine Lq (ptr p 0) rfl rfl rfl rfl ?_
  refine Lq (ptr p 1) rfl rfl rfl (by kernel_rfl) ?_
  refine Lq vR rfl rfl rfl (x_load rfl rfl (run_loadVar_one ti_62 (hst2.rle' _ _ (hp0 _ _ (one_self _ _))) rfl)) ?_
  obtain ⟨a11, cap12, e13, hc14⟩ := hRs.shape
  subst e13
  refine Lq (int (s.roots.length : Int)) rfl rfl rfl (x_len_slice rfl sl_62 rfl) ?_
  refine Lq (.bool (decide ((k_8 : Int) < (s.roots.length : Int)))) rfl rfl rfl (by kernel_rfl) ?_
  refine L_nil ?_
  rcases Bool.eq_false_or_eq_true (decide ((k_8 : Int) < (s.roots.length : Int))) with c15 | c15
  ·
   have q16 := of_decide_eq_true c15
   refine W_cond_true (by show Value.bool _ = _; exact congrArg Value.bool c15) ?_
   refine W_skip ?_
   refine W_seq ?_
   refine W_block ?_
   have hrk := root_ok hwf hn (List.getElem_mem (l := s.roots) (n := k_8) (by omega))
   refine W_region_lit ?_
   refine Lq (.string t_9) rfl rfl rfl rfl ?_
   obtain ⟨t17, ht18⟩ : ∃ t_ : ByteArray, t_ = t_9 ++ ⟨#[32]⟩ := ⟨_, rfl⟩
   have ht18z := size_app_le htz (show ByteArray.size ⟨#[32]⟩ ≤ 1 from by decide)
   rw [← ht18] at ht18z
   simp only [Nat.reduceAdd] at ht18z
   refine Lq (.string t17) rfl rfl rfl (by rw [ht18]; exact (x_strcat rfl rfl rfl (by have h1_ := htz; have h2_ := (show ByteArray.size ⟨#[32]⟩ ≤ 1 from by decide); omega))) ?_
   refine Lq (ptr p 0) rfl rfl rfl rfl ?_
   refine Lq (ptr p 0) rfl rfl rfl rfl ?_
   refine Lq (ptr p 1) rfl rfl rfl (by kernel_rfl) ?_
   refine Lq (.slice a11 s.roots.length cap12) rfl rfl rfl (x_load rfl rfl (run_loadVar_one ti_62 (hst2.rle' _ _ (hp0 _ _ (one_self _ _))) rfl)) ?_
   refine Lq (int (k_8 : Int)) rfl rfl rfl rfl ?_
   obtain ⟨b19, off20, cap21, cs22, T23, fz24, e25, hc26, hb27, he28⟩ := hRs.open (by omega)
   cases e25
   obtain ⟨cl29, hs30, hr31⟩ := he28.at k_8 (by omega)
   have hx32 : cl29 = [.int .i64 (s.roots[k_8]'(by omega))] := hr31
   subst hx32
   refine Lq (ptr b19 (off20 + k_8 * 1)) rfl rfl rfl (x_indexAddr' rfl sl_62 ti_3 rfl rfl (by omega)) ?_
   refine Lq (int (s.roots[k_8]'(by omega))) rfl rfl rfl (x_load rfl rfl (run_loadVar_one ti_3 (hst2.rle' _ _ hb27) (seg_get (j := 0) hs30 rfl))) ?_
   have hd33 := dec_size (n := (s.roots[k_8]'(by omega))) (by omega) (by omega)
   refine L_callG hst2 (v := (.string (dec (s.roots[k_8]'(by omega))))) rfl rfl rfl (x_call (vs := #[(int (s.roots[k_8]'(by omega)))]) rfl rfl (by kernel_rfl) ent_45) (Dec_spec (n := (s.roots[k_8]'(by omega))) (by omega) (by omega) (Le.refl _)) (fun w34 hst35 => ?_)
   obtain ⟨t36, ht37⟩ : ∃ t_ : ByteArray, t_ = t17 ++ (dec (s.roots[k_8]'(by omega))) := ⟨_, rfl⟩
   have ht37z := size_app_le ht18z hd33
   rw [← ht37] at ht37z
   simp only [Nat.reduceAdd] at ht37z
   refine Lq (.string t36) rfl rfl rfl (by rw [ht37]; exact (x_strcat rfl rfl rfl (by have h1_ := ht18z; have h2_ := hd33; omega))) ?_
   refine Lq (.string t36) rfl rfl rfl rfl ?_
   refine L_nil ?_
   refine W_region_lit ?_
   refine Lq (int (k_8 : Int)) rfl rfl rfl rfl ?_
   refine Lq (int ((k_8 + 1 : Nat) : Int)) rfl rfl rfl (x_add_nat rfl rfl rfl (by omega)) ?_
   refine Lq (int ((k_8 + 1 : Nat) : Int)) rfl rfl rfl rfl ?_
   refine L_nil ?_
   refine ⟨s.roots.length - (k_8 + 1), by first | omega | (simp only [List.length_append, List.length_cons, List.length_nil]; omega), ?_⟩
   exact ⟨_, (k_8 + 1), t36, (upd_of (upd_of (upd_of (upd_of rfl rfl) rfl) rfl) rfl), hmk1, hst35, (by omega), (by rw [ht37, ht18]; simp only [bts_append]; rw [hf6]; rw [rootsT_succ (by omega)]; simp [bts, sSp]), rfl⟩
  ·
   have q38 := of_decide_eq_false c15
   refine W_cond_false (by show Value.bool _ = _; exact congrArg Value.bool c15) ?_
   refine W_exit ?_
   refine W_seq ?_
   refine W_region_lit ?_
   refine Lq (.string t_9) rfl rfl rfl rfl ?_
   obtain ⟨t39, ht40⟩ : ∃ t_ : ByteArray, t_ = t_9 ++ ⟨#[10]⟩ := ⟨_, rfl⟩
   have ht40z := size_app_le htz (show ByteArray.size ⟨#[10]⟩ ≤ 1 from by decide)
   rw [← ht40] at ht40z
   simp only [Nat.reduceAdd] at ht40z
   refine Lq (.string t39) rfl rfl rfl (by rw [ht40]; exact (x_strcat rfl rfl rfl (by have h1_ := htz; have h2_ := (show ByteArray.size ⟨#[10]⟩ ≤ 1 from by decide); omega))) ?_
   refine Lq (.string t39) rfl rfl rfl rfl ?_
   refine L_nil ?_
   refine W_seq ?_
   refine W_seq ?_
   have hf41 : bts t39 = linesT s 0 := (by rw [ht40]; simp only [bts_append]; rw [hf6]; rw [linesT_zero, show k_8 = s.roots.length by omega]; simp [bts, sNl])
   refine W_region_lit ?_
   refine Lq (int 0) rfl rfl rfl rfl ?_
   refine L_nil ?_
   refine W_block ?_
   refine W_loop (I := fun σ w_ m_ => ∃ (σ0 : Fr) (k_ : Nat) (t_ : Str), σ = upd (upd (upd (upd (upd (upd (upd (upd (upd (upd (upd (upd (upd (upd σ0 0 (ptr p 0)) 2 (.string ⟨#[]⟩)) 3 (.string t_)) 4 (int (k_8 : Int))) 5 (int (k_ : Int))) 9 (int (k_8 : Int))) 10 (ptr p 0)) 11 (ptr p 0)) 12 (ptr p 1)) 13 (.slice a11 s.roots.length cap12)) 14 (int (s.roots.length : Int))) 15 (.bool (decide ((k_8 : Int) < (s.roots.length : Int))))) 29 (.string t_9)) 30 (.string t39) ∧ mks (σ0 0) = [] ∧ Step w R [] w_ R [] ∧ k_ ≤ (shs s).length ∧ bts t_ = linesT s k_ ∧ m_ = (shs s).length - k_) (m := (shs s).length - 0) ?_ ?_
   ·
    exact ⟨_, 0, t39, (upd_of (upd_of (upd_of (upd_of (upd_of (upd_of (upd_of (upd_of (upd_of (upd_of (upd_of (upd_of (upd_of (upd_of rfl rfl) rfl) rfl) rfl) rfl) rfl) rfl) rfl) rfl) rfl) rfl) rfl) rfl) rfl), hmk1, hst2, (by omega), hf41, rfl⟩
   ·
    rintro m51 σ_ w44 ⟨s48, k_49, t_50, rfl, hmk42, hst43, hf46, hf47, rfl⟩
    have htz : t_50.size ≤ 4000000 := by rw [← bts_len, hf47]; have := linesT_len hwf hn (k := k_49) (by omega); omega
    refine W_seq ?_
    refine W_seq ?_
    refine W_region_lit ?_
    refine Lq (int (k_49 : Int)) rfl rfl rfl rfl ?_
    refine Lq (ptr p 0) rfl rfl rfl rfl ?_
    refine Lq (ptr p 0) rfl rfl rfl rfl ?_
    refine Lq (ptr p 0) rfl rfl rfl (by kernel_rfl) ?_
    refine Lq vL rfl rfl rfl (x_load rfl rfl (run_loadVar_one ti_70 (hst43.rle' _ _ (hp0 _ _ (one_self _ _))) rfl)) ?_
    obtain ⟨a52, cap53, e54, hc55⟩ := hL.shape
    subst e54
    refine Lq (int (((shs s).length : Nat) : Int)) rfl rfl rfl (x_len_slice rfl sl_70 rfl) ?_
    refine Lq (.bool (decide ((k_49 : Int) < (((shs s).length : Nat) : Int)))) rfl rfl rfl (by kernel_rfl) ?_
    refine L_nil ?_
    rcases Bool.eq_false_or_eq_true (decide ((k_49 : Int) < (((shs s).length : Nat) : Int))) with c56 | c56
    ·
     have q57 := of_decide_eq_true c56
     refine W_cond_true (by show Value.bool _ = _; exact congrArg Value.bool c56) ?_
     refine W_skip ?_
     refine W_seq ?_
     refine W_block ?_
     refine W_seq ?_
     refine W_region_lit ?_
     refine Lq (ptr p 0) rfl rfl rfl rfl ?_
     refine Lq (ptr p 0) rfl rfl rfl rfl ?_
     refine Lq (ptr p 0) rfl rfl rfl (by kernel_rfl) ?_
     refine Lq (.slice a52 ((shs s).length) cap53) rfl rfl rfl (x_load rfl rfl (run_loadVar_one ti_70 (hst43.rle' _ _ (hp0 _ _ (one_self _ _))) rfl)) ?_
     refine Lq (int (k_49 : Int)) rfl rfl rfl rfl ?_
     obtain ⟨b58, off59, cap60, cs61, T62, fz63, e64, hc65, hb66, he67⟩ := hL.open (by omega)
     cases e64
     obtain ⟨cl68, hs69, hr70⟩ := he67.at k_49 (by omega)
     obtain ⟨x71, hx72⟩ : ∃ x_, x_ = ((shs s)[k_49]'(by omega)) := ⟨_, rfl⟩
     rw [← hx72] at hr70
     have hb73 := sh_names hS (by omega) hx72
     have hb74 := sh_ali hS (by omega) hx72
     obtain ⟨vn75, vl76, rfl, hvn77, hvl78⟩ := tySh_open hr70
     refine Lq (ptr b58 (off59 + k_49 * 4)) rfl rfl rfl (x_indexAddr' rfl sl_70 ti_75 rfl rfl (by omega)) ?_
     refine Lq (.agg #[(int x71.nd.cls), (int x71.nd.ali), vn75, vl76]) rfl rfl rfl (x_load rfl rfl (run_loadVar_agg ti_75 (hst43.rle' _ _ hb66) hs69 rfl)) ?_
     refine L_new hst43 (v := fun b => ptr b 0) (ob := .cells #[(int 0), (int 0), (.slice none 0 0), (.slice none 0 0)] 75 (0, 0)) rfl rfl rfl (by kernel_rfl) (fun b79 w80 hst81 => ?_)
     obtain ⟨a82, cap83, e84, hc85⟩ := hvn77.shape
     subst e84
     obtain ⟨a86, cap87, e88, hc89⟩ := hvl78.shape
     subst e88
     refine L_store hst81 0 ti_75 rfl rfl rfl rfl rfl rfl rfl rfl rfl rfl rfl (fun w90 hst91 => ?_)
     change Step _ _ _ _ _ [one b79 (.cells #[(int x71.nd.cls), (int x71.nd.ali), (.slice a82 x71.nd.names.length cap83), (.slice a86 x71.lks.length cap87)] 75 (0, 0))] at hst91
     refine L_nil ?_
     refine W_seq ?_
     obtain ⟨⟨hb1, hb2⟩, hb3, hb4, hb5, hb6, hb7, hb8⟩ := sh_bd hwf hn (by omega) hx72
     have hlkn := sh_lks hn (by omega) hx72
     have hll := linesT_len hwf hn (k := k_49) (by omega)
     refine W_region_draw [] (fun w => Le R (hp w) ∧ Le (one b79 (.cells #[(int x71.nd.cls), (int x71.nd.ali), (.slice a82 x71.nd.names.length cap83), (.slice a86 x71.lks.length cap87)] 75 (0, 0))) (hp w)) hmix (by decide +kernel) (fun _ _ h => h) ?_
     have hst93 := hst91.draws (w90.drawn + 1)
     generalize draws w90 (w90.drawn + 1) = w92 at hst93 ⊢
     refine LP (.string t_50) 0 rfl rfl rfl (fun u95 => rfl) hst93.a1 ?_
     refine LP (int (k_49 : Int)) 1 rfl rfl rfl (fun u98 => rfl) hst93.a1 ?_
     refine LP (ptr b79 0) 5 rfl rfl rfl (fun u103 => (by kernel_rfl)) hst93.a1 ?_
     refine LT (int x71.nd.cls) 6 rfl rfl rfl (fun u108 hF109 => (x_load rfl rfl (run_loadVar_one ti_3 (hF109.2 _ _ (one_self _ _)) rfl))) hst93.a1 ?_
     refine LA_all [2] (by decide +kernel) (by simp) ?_
     intro i_ hi_
     simp only [List.mem_cons, List.not_mem_nil, or_false] at hi_
     subst hi_
     have hd113 := dec_size (n := (k_49 : Int)) (by omega) (by omega)
     refine One_call (i := 2) rfl rfl rfl (Want.plain rfl) (x_call (vs := #[(int (k_49 : Int))]) rfl rfl (by kernel_rfl) ent_45) (Dec_spec (n := (k_49 : Int)) (by omega) (by omega) (Le.refl _)) ?_
     rintro e116 w114 ⟨rfl, hw117⟩
     have hst115 := hst93.grown hw117
     refine ⟨_, rfl, (fun _ => hst115.a1), ?_⟩
     obtain ⟨t121, ht122⟩ : ∃ t_ : ByteArray, t_ = t_50 ++ (dec (k_49 : Int)) := ⟨_, rfl⟩
     have ht122z := size_app_le htz hd113
     rw [← ht122] at ht122z
     simp only [Nat.reduceAdd] at ht122z
     refine LP (.string t121) 3 rfl rfl rfl (fun u119 => (by rw [ht122]; exact (x_strcat rfl rfl rfl (by have h1_ := htz; have h2_ := hd113; omega)))) hst115.a1 ?_
     obtain ⟨t126, ht127⟩ : ∃ t_ : ByteArray, t_ = t121 ++ ⟨#[32]⟩ := ⟨_, rfl⟩
     have ht127z := size_app_le ht122z (show ByteArray.size ⟨#[32]⟩ ≤ 1 from by decide)
     rw [← ht127] at ht127z
     simp only [Nat.reduceAdd] at ht127z
     refine LP (.string t126) 4 rfl rfl rfl (fun u124 => (by rw [ht127]; exact (x_strcat rfl rfl rfl (by have h1_ := ht122z; have h2_ := (show ByteArray.size ⟨#[32]⟩ ≤ 1 from by decide); omega)))) hst115.a1 ?_
     refine LA_all [7] (by decide +kernel) (by simp) ?_
     intro i_ hi_
     simp only [List.mem_cons, List.not_mem_nil, or_false] at hi_
     subst hi_
     have hd131 := dec_size (n := x71.nd.cls) (by omega) (by omega)
     refine One_call (i := 7) rfl rfl rfl (Want.plain rfl) (x_call (vs := #[(int x71.nd.cls)]) rfl rfl (by kernel_rfl) ent_45) (Dec_spec (n := x71.nd.cls) (by omega) (by omega) (Le.refl _)) ?_
     rintro e134 w132 ⟨rfl, hw135⟩
     have hst133 := hst115.grown hw135
     refine ⟨_, rfl, (fun _ => hst133.a1), ?_⟩
     obtain ⟨t139, ht140⟩ : ∃ t_ : ByteArray, t_ = t126 ++ (dec x71.nd.cls) := ⟨_, rfl⟩
     have ht140z := size_app_le ht127z hd131
     rw [← ht140] at ht140z
     simp only [Nat.reduceAdd] at ht140z
     refine LP (.string t139) 8 rfl rfl rfl (fun u137 => (by rw [ht140]; exact (x_strcat rfl rfl rfl (by have h1_ := ht127z; have h2_ := hd131; omega)))) hst133.a1 ?_
     refine LP (.string t139) 9 rfl rfl rfl (fun u142 => rfl) hst133.a1 ?_
     refine LA_done (by decide +kernel) ?_
     refine W_seq ?_
     refine W_seq ?_
     refine W_region_lit ?_
     refine Lq (int 0) rfl rfl rfl rfl ?_
     refine L_nil ?_
     refine W_block ?_
     refine W_loop (I := fun σ w_ m_ => ∃ (σ0 : Fr) (j_ : Nat) (t_ : Str), σ = upd (upd (upd (upd (upd (upd (upd (upd (upd (upd (upd (upd (upd (upd (upd (upd (upd (upd (upd (upd (upd (upd (upd (upd (upd (upd (upd (upd (upd (upd (upd (upd (upd (upd (upd (upd (upd (upd (upd σ0 0 (ptr p 0)) 2 (.string ⟨#[]⟩)) 3 (.string t_)) 4 (int (k_8 : Int))) 5 (int (k_49 : Int))) 6 (ptr b79 0)) 7 (int (j_ : Int))) 9 (int (k_8 : Int))) 10 (ptr p 0)) 11 (ptr p 0)) 12 (ptr p 1)) 13 (.slice a11 s.roots.length cap12)) 14 (int (s.roots.length : Int))) 15 (.bool (decide ((k_8 : Int) < (s.roots.length : Int))))) 29 (.string t_9)) 30 (.string t39)) 31 (int (k_49 : Int))) 32 (ptr p 0)) 33 (ptr p 0)) 34 (ptr p 0)) 35 (.slice (some ⟨b58, off59, none⟩) ((shs s).length) cap53)) 36 (int (((shs s).length : Nat) : Int))) 37 (.bool (decide ((k_49 : Int) < (((shs s).length : Nat) : Int))))) 40 (ptr p 0)) 41 (ptr p 0)) 42 (ptr p 0)) 43 (.slice (some ⟨b58, off59, none⟩) ((shs s).length) cap53)) 44 (int (k_49 : Int))) 45 (ptr b58 (off59 + k_49 * 4))) 46 (.agg #[(int x71.nd.cls), (int x71.nd.ali), (.slice a82 x71.nd.names.length cap83), (.slice a86 x71.lks.length cap87)])) 47 (.string t_50)) 48 (int (k_49 : Int))) 49 (.string (dec (k_49 : Int)))) 50 (.string t121)) 51 (.string t126)) 52 (ptr b79 0)) 53 (int x71.nd.cls)) 54 (.string (dec x71.nd.cls))) 55 (.string t139) ∧ mks (σ0 0) = [] ∧ Step w R [] w_ R [one b79 (.cells #[(int x71.nd.cls), (int x71.nd.ali), (.slice a82 x71.nd.names.length cap83), (.slice a86 x71.lks.length cap87)] 75 (0, 0))] ∧ j_ ≤ x71.nd.names.length ∧ bts t_ = linesT s k_49 ++ jn (wd0 k_49 x71.nd ++ x71.nd.names.take j_) ∧ m_ = x71.nd.names.length - j_) (m := x71.nd.names.length - 0) ?_ ?_
     ·
      exact ⟨_, 0, t139, (upd_of (upd_of (upd_of (upd_of (upd_of (upd_of (upd_of (upd_of (upd_of (upd_of (upd_of (upd_of (upd_of (upd_of (upd_of (upd_of (upd_of (upd_of (upd_of (upd_of (upd_of (upd_of (upd_of (upd_of (upd_of (upd_of (upd_of (upd_of (upd_of (upd_of (upd_of (upd_of (upd_of (upd_of (upd_of (upd_of (upd_of (upd_of (upd_of rfl rfl) rfl) rfl) rfl) rfl) rfl) rfl) rfl) rfl) rfl) rfl) rfl) rfl) rfl) rfl) rfl) rfl) rfl) rfl) rfl) rfl) rfl) rfl) rfl) rfl) rfl) rfl) rfl) rfl) rfl) rfl) rfl) rfl) rfl) rfl) rfl) rfl) rfl) rfl), hmk42, hst133, (by omega), (by rw [ht140, ht127, ht122]; simp only [bts_append]; rw [hf47]; rw [wd_start]; simp [bts]), rfl⟩
     ·
      rintro m153 σ_ w146 ⟨s150, j_151, t_152, rfl, hmk144, hst145, hf148, hf149, rfl⟩
      have htz : t_152.size ≤ 4000000 := by rw [← bts_len, hf149]; rw [List.length_append]; have := hb4 j_151; omega
      refine W_seq ?_
      refine W_seq ?_
      refine W_region_lit ?_
      refine Lq (int (j_151 : Int)) rfl rfl rfl rfl ?_
      refine Lq (ptr b79 2) rfl rfl rfl (by kernel_rfl) ?_
      refine Lq (.slice a82 x71.nd.names.length cap83) rfl rfl rfl (x_load rfl rfl (run_loadVar_one ti_42 (hst145.b 0) rfl)) ?_
      refine Lq (int (x71.nd.names.length : Int)) rfl rfl rfl (x_len_slice rfl sl_42 rfl) ?_
      refine Lq (.bool (decide ((j_151 : Int) < (x71.nd.names.length : Int)))) rfl rfl rfl (by kernel_rfl) ?_
      refine L_nil ?_
      rcases Bool.eq_false_or_eq_true (decide ((j_151 : Int) < (x71.nd.names.length : Int))) with c154 | c154
      ·
       have q155 := of_decide_eq_true c154
       refine W_cond_true (by show Value.bool _ = _; exact congrArg Value.bool c154) ?_
       refine W_skip ?_
       refine W_seq ?_
       refine W_block ?_
       have hnz := hb6 (x71.nd.names[j_151]'(by omega)) (List.getElem_mem _)
       refine W_region_lit ?_
       refine Lq (.string t_152) rfl rfl rfl rfl ?_
       obtain ⟨t156, ht157⟩ : ∃ t_ : ByteArray, t_ = t_152 ++ ⟨#[32]⟩ := ⟨_, rfl⟩
       have ht157z := size_app_le htz (show ByteArray.size ⟨#[32]⟩ ≤ 1 from by decide)
       rw [← ht157] at ht157z
       simp only [Nat.reduceAdd] at ht157z
       refine Lq (.string t156) rfl rfl rfl (by rw [ht157]; exact (x_strcat rfl rfl rfl (by have h1_ := htz; have h2_ := (show ByteArray.size ⟨#[32]⟩ ≤ 1 from by decide); omega))) ?_
       refine Lq (ptr b79 2) rfl rfl rfl (by kernel_rfl) ?_
       refine Lq (.slice a82 x71.nd.names.length cap83) rfl rfl rfl (x_load rfl rfl (run_loadVar_one ti_42 (hst145.b 0) rfl)) ?_
       refine Lq (int (j_151 : Int)) rfl rfl rfl rfl ?_
       obtain ⟨b158, off159, cap160, cs161, T162, fz163, e164, hc165, hb166, he167⟩ := hvn77.open (by omega)
       cases e164
       obtain ⟨cl168, hs169, hr170⟩ := he167.at j_151 (by omega)
       have hx171 : cl168 = [.string (x71.nd.names[j_151]'(by omega))] := hr170
       subst hx171
       refine Lq (ptr b158 (off159 + j_151 * 1)) rfl rfl rfl (x_indexAddr' rfl sl_42 ti_9 rfl rfl (by omega)) ?_
       refine Lq (.string (x71.nd.names[j_151]'(by omega))) rfl rfl rfl (x_load rfl rfl (run_loadVar_one ti_9 (hst145.rle' _ _ hb166) (seg_get (j := 0) hs169 rfl))) ?_
       obtain ⟨t172, ht173⟩ : ∃ t_ : ByteArray, t_ = t156 ++ (x71.nd.names[j_151]'(by omega)) := ⟨_, rfl⟩
       have ht173z := size_app_le ht157z hnz
       rw [← ht173] at ht173z
       simp only [Nat.reduceAdd] at ht173z
       refine Lq (.string t172) rfl rfl rfl (by rw [ht173]; exact (x_strcat rfl rfl rfl (by have h1_ := ht157z; have h2_ := hnz; omega))) ?_
       refine Lq (.string t172) rfl rfl rfl rfl ?_
       refine L_nil ?_
       refine W_region_lit ?_
       refine Lq (int (j_151 : Int)) rfl rfl rfl rfl ?_
       refine Lq (int ((j_151 + 1 : Nat) : Int)) rfl rfl rfl (x_add_nat rfl rfl rfl (by omega)) ?_
       refine Lq (int ((j_151 + 1 : Nat) : Int)) rfl rfl rfl rfl ?_
       refine L_nil ?_
       refine ⟨x71.nd.names.length - (j_151 + 1), by first | omega | (simp only [List.length_append, List.length_cons, List.length_nil]; omega), ?_⟩
       exact ⟨_, (j_151 + 1), t172, (upd_of (upd_of (upd_of (upd_of (upd_of (upd_of (upd_of (upd_of (upd_of (upd_of (upd_of (upd_of (upd_of (upd_of (upd_of (upd_of (upd_of (upd_of (upd_of (upd_of (upd_of (upd_of (upd_of (upd_of (upd_of (upd_of (upd_of (upd_of (upd_of (upd_of (upd_of (upd_of (upd_of (upd_of (upd_of (upd_of (upd_of (upd_of (upd_of rfl rfl) rfl) rfl) rfl) rfl) rfl) rfl) rfl) rfl) rfl) rfl) rfl) rfl) rfl) rfl) rfl) rfl) rfl) rfl) rfl) rfl) rfl) rfl) rfl) rfl) rfl) rfl) rfl) rfl) rfl) rfl) rfl) rfl) rfl) rfl) rfl) rfl) rfl) rfl), hmk144, hst145, (by omega), (by rw [ht173, ht157]; simp only [bts_append]; rw [hf149]; rw [names_succ (by omega)]; simp [bts]), rfl⟩
      ·
       have q174 := of_decide_eq_false c154
       refine W_cond_false (by show Value.bool _ = _; exact congrArg Value.bool c154) ?_
       refine W_exit ?_
       refine W_seq ?_
       refine W_seq ?_
       refine W_region_lit ?_
       refine Lq (ptr b79 1) rfl rfl rfl (by kernel_rfl) ?_
       refine Lq (int x71.nd.ali) rfl rfl rfl (x_load rfl rfl (run_loadVar_one ti_3 (hst145.b 0) rfl)) ?_
       refine Lq (.bool (decide (x71.nd.ali ≥ 0))) rfl rfl rfl (by kernel_rfl) ?_
       refine L_nil ?_
       rcases Bool.eq_false_or_eq_true (decide (x71.nd.ali ≥ 0)) with c175 | c175
       ·
        have q176 := of_decide_eq_true c175
        refine W_cond_true (by show Value.bool _ = _; exact congrArg Value.bool c175) ?_
        refine W_seq ?_
        refine W_region_lit ?_
        refine Lq (.string t_152) rfl rfl rfl rfl ?_
        obtain ⟨t177, ht178⟩ : ∃ t_ : ByteArray, t_ = t_152 ++ ⟨#[32, 61, 32]⟩ := ⟨_, rfl⟩
        have ht178z := size_app_le htz (show ByteArray.size ⟨#[32, 61, 32]⟩ ≤ 3 from by decide)
        rw [← ht178] at ht178z
        simp only [Nat.reduceAdd] at ht178z
        refine Lq (.string t177) rfl rfl rfl (by rw [ht178]; exact (x_strcat rfl rfl rfl (by have h1_ := htz; have h2_ := (show ByteArray.size ⟨#[32, 61, 32]⟩ ≤ 3 from by decide); omega))) ?_
        refine Lq (ptr b79 1) rfl rfl rfl (by kernel_rfl) ?_
        refine Lq (int x71.nd.ali) rfl rfl rfl (x_load rfl rfl (run_loadVar_one ti_3 (hst145.b 0) rfl)) ?_
        have hd179 := dec_size (n := x71.nd.ali) (by omega) (by omega)
        refine L_callG hst145 (v := (.string (dec x71.nd.ali))) rfl rfl rfl (x_call (vs := #[(int x71.nd.ali)]) rfl rfl (by kernel_rfl) ent_45) (Dec_spec (n := x71.nd.ali) (by omega) (by omega) (Le.refl _)) (fun w180 hst181 => ?_)
        obtain ⟨t182, ht183⟩ : ∃ t_ : ByteArray, t_ = t177 ++ (dec x71.nd.ali) := ⟨_, rfl⟩
        have ht183z := size_app_le ht178z hd179
        rw [← ht183] at ht183z
        simp only [Nat.reduceAdd] at ht183z
        refine Lq (.string t182) rfl rfl rfl (by rw [ht183]; exact (x_strcat rfl rfl rfl (by have h1_ := ht178z; have h2_ := hd179; omega))) ?_
        obtain ⟨t184, ht185⟩ : ∃ t_ : ByteArray, t_ = t182 ++ ⟨#[10]⟩ := ⟨_, rfl⟩
        have ht185z := size_app_le ht183z (show ByteArray.size ⟨#[10]⟩ ≤ 1 from by decide)
        rw [← ht185] at ht185z
        simp only [Nat.reduceAdd] at ht185z
        refine Lq (.string t184) rfl rfl rfl (by rw [ht185]; exact (x_strcat rfl rfl rfl (by have h1_ := ht183z; have h2_ := (show ByteArray.size ⟨#[10]⟩ ≤ 1 from by decide); omega))) ?_
        refine Lq (.string t184) rfl rfl rfl rfl ?_
        refine L_nil ?_
        refine W_exit ?_
        refine W_region_lit ?_
        refine Lq (int (k_49 : Int)) rfl rfl rfl rfl ?_
        refine Lq (int ((k_49 + 1 : Nat) : Int)) rfl rfl rfl (x_add_nat rfl rfl rfl (by omega)) ?_
        refine Lq (int ((k_49 + 1 : Nat) : Int)) rfl rfl rfl rfl ?_
        refine L_nil ?_
        refine ⟨(shs s).length - (k_49 + 1), by first | omega | (simp only [List.length_append, List.length_cons, List.length_nil]; omega), ?_⟩
        exact ⟨_, (k_49 + 1), t184, (upd_of (upd_of (upd_of (upd_of (upd_of (upd_of (upd_of (upd_of (upd_of (upd_of (upd_of (upd_of (upd_of (upd_of rfl rfl) rfl) rfl) rfl) rfl) rfl) rfl) rfl) rfl) rfl) rfl) rfl) rfl) rfl), hmk144, (hst181.keepN 0 rfl), (by omega), (by rw [ht185, ht183, ht178]; simp only [bts_append]; rw [hf149]; rw [line_yes (by omega) hx72 (of_decide_eq_true c175) (j := j_151) (by omega)]; simp [bts]), rfl⟩
       ·
        have q186 := of_decide_eq_false c175
        refine W_cond_false (by show Value.bool _ = _; exact congrArg Value.bool c175) ?_
        refine W_skip ?_
        refine W_seq ?_
        refine W_region_lit ?_
        refine Lq (.string t_152) rfl rfl rfl rfl ?_
        obtain ⟨t187, ht188⟩ : ∃ t_ : ByteArray, t_ = t_152 ++ ⟨#[32, 62]⟩ := ⟨_, rfl⟩
        have ht188z := size_app_le htz (show ByteArray.size ⟨#[32, 62]⟩ ≤ 2 from by decide)
        rw [← ht188] at ht188z
        simp only [Nat.reduceAdd] at ht188z
        refine Lq (.string t187) rfl rfl rfl (by rw [ht188]; exact (x_strcat rfl rfl rfl (by have h1_ := htz; have h2_ := (show ByteArray.size ⟨#[32, 62]⟩ ≤ 2 from by decide); omega))) ?_
        refine Lq (.string t187) rfl rfl rfl rfl ?_
        refine L_nil ?_
        refine W_seq ?_
        refine W_seq ?_
        refine W_region_lit ?_
        refine Lq (int 0) rfl rfl rfl rfl ?_
        refine L_nil ?_
        refine W_block ?_
        refine W_loop (I := fun σ w_ m_ => ∃ (σ0 : Fr) (i_ : Nat) (t_ : Str), σ = upd (upd (upd (upd (upd (upd (upd (upd (upd (upd (upd (upd (upd (upd (upd (upd (upd (upd (upd (upd (upd (upd (upd (upd (upd (upd (upd (upd (upd (upd (upd (upd (upd (upd (upd (upd (upd (upd (upd (upd (upd (upd (upd (upd (upd (upd (upd (upd (upd (upd σ0 0 (ptr p 0)) 2 (.string ⟨#[]⟩)) 3 (.string t_)) 4 (int (k_8 : Int))) 5 (int (k_49 : Int))) 6 (ptr b79 0)) 7 (int (j_151 : Int))) 8 (int (i_ : Int))) 9 (int (k_8 : Int))) 10 (ptr p 0)) 11 (ptr p 0)) 12 (ptr p 1)) 13 (.slice a11 s.roots.length cap12)) 14 (int (s.roots.length : Int))) 15 (.bool (decide ((k_8 : Int) < (s.roots.length : Int))))) 29 (.string t_9)) 30 (.string t39)) 31 (int (k_49 : Int))) 32 (ptr p 0)) 33 (ptr p 0)) 34 (ptr p 0)) 35 (.slice (some ⟨b58, off59, none⟩) ((shs s).length) cap53)) 36 (int (((shs s).length : Nat) : Int))) 37 (.bool (decide ((k_49 : Int) < (((shs s).length : Nat) : Int))))) 40 (ptr p 0)) 41 (ptr p 0)) 42 (ptr p 0)) 43 (.slice (some ⟨b58, off59, none⟩) ((shs s).length) cap53)) 44 (int (k_49 : Int))) 45 (ptr b58 (off59 + k_49 * 4))) 46 (.agg #[(int x71.nd.cls), (int x71.nd.ali), (.slice a82 x71.nd.names.length cap83), (.slice a86 x71.lks.length cap87)])) 47 (.string t_50)) 48 (int (k_49 : Int))) 49 (.string (dec (k_49 : Int)))) 50 (.string t121)) 51 (.string t126)) 52 (ptr b79 0)) 53 (int x71.nd.cls)) 54 (.string (dec x71.nd.cls))) 55 (.string t139)) 56 (int (j_151 : Int))) 57 (ptr b79 2)) 58 (.slice a82 x71.nd.names.length cap83)) 59 (int (x71.nd.names.length : Int))) 60 (.bool (decide ((j_151 : Int) < (x71.nd.names.length : Int))))) 71 (ptr b79 1)) 72 (int x71.nd.ali)) 73 (.bool (decide (x71.nd.ali ≥ 0)))) 81 (.string t_152)) 82 (.string t187) ∧ mks (σ0 0) = [] ∧ Step w R [] w_ R [one b79 (.cells #[(int x71.nd.cls), (int x71.nd.ali), (.slice a82 x71.nd.names.length cap83), (.slice a86 x71.lks.length cap87)] 75 (0, 0))] ∧ i_ ≤ x71.lks.length ∧ bts t_ = linesT s k_49 ++ jn ((wd0 k_49 x71.nd ++ x71.nd.names) ++ [sGt] ++ (x71.lks.take i_).map stepW) ∧ m_ = x71.lks.length - i_) (m := x71.lks.length - 0) ?_ ?_
        ·
         exact ⟨_, 0, t187, (upd_of (upd_of (upd_of (upd_of (upd_of (upd_of (upd_of (upd_of (upd_of (upd_of (upd_of (upd_of (upd_of (upd_of (upd_of (upd_of (upd_of (upd_of (upd_of (upd_of (upd_of (upd_of (upd_of (upd_of (upd_of (upd_of (upd_of (upd_of (upd_of (upd_of (upd_of (upd_of (upd_of (upd_of (upd_of (upd_of (upd_of (upd_of (upd_of (upd_of (upd_of (upd_of (upd_of (upd_of (upd_of (upd_of (upd_of (upd_of (upd_of (upd_of rfl rfl) rfl) rfl) rfl) rfl) rfl) rfl) rfl) rfl) rfl) rfl) rfl) rfl) rfl) rfl) rfl) rfl) rfl) rfl) rfl) rfl) rfl) rfl) rfl) rfl) rfl) rfl) rfl) rfl) rfl) rfl) rfl) rfl) rfl) rfl) rfl) rfl) rfl) rfl) rfl) rfl) rfl) rfl) rfl) rfl) rfl) rfl) rfl) rfl) rfl), hmk144, hst145, (by omega), (by rw [ht188]; simp only [bts_append]; rw [hf149]; rw [gt_start (j := j_151) (by omega)]; simp [bts]), rfl⟩
        ·
         rintro m198 σ_ w191 ⟨s195, i_196, t_197, rfl, hmk189, hst190, hf193, hf194, rfl⟩
         have htz : t_197.size ≤ 4000000 := by rw [← bts_len, hf194]; rw [List.length_append]; have := hb5 i_196; omega
         refine W_seq ?_
         refine W_seq ?_
         refine W_region_lit ?_
         refine Lq (int (i_196 : Int)) rfl rfl rfl rfl ?_
         refine Lq (ptr b79 3) rfl rfl rfl (by kernel_rfl) ?_
         refine Lq (.slice a86 x71.lks.length cap87) rfl rfl rfl (x_load rfl rfl (run_loadVar_one ti_73 (hst190.b 0) rfl)) ?_
         refine Lq (int (x71.lks.length : Int)) rfl rfl rfl (x_len_slice rfl sl_73 rfl) ?_
         refine Lq (.bool (decide ((i_196 : Int) < (x71.lks.length : Int)))) rfl rfl rfl (by kernel_rfl) ?_
         refine L_nil ?_
         rcases Bool.eq_false_or_eq_true (decide ((i_196 : Int) < (x71.lks.length : Int))) with c199 | c199
         ·
          have q200 := of_decide_eq_true c199
          refine W_cond_true (by show Value.bool _ = _; exact congrArg Value.bool c199) ?_
          refine W_skip ?_
          refine W_seq ?_
          refine W_block ?_
          obtain ⟨hz1, hz2, hz3⟩ := hb7 (x71.lks[i_196]'(by omega)) (List.getElem_mem _)
          refine W_region_draw [] (fun w => Le R (hp w) ∧ Le (one b79 (.cells #[(int x71.nd.cls), (int x71.nd.ali), (.slice a82 x71.nd.names.length cap83), (.slice a86 x71.lks.length cap87)] 75 (0, 0))) (hp w)) hmix (by decide +kernel) (fun _ _ h => h) ?_
          have hst202 := hst190.draws (w191.drawn + 1)
          generalize draws w191 (w191.drawn + 1) = w201 at hst202 ⊢
          refine LP (.string t_197) 0 rfl rfl rfl (fun u204 => rfl) hst202.a1 ?_
          obtain ⟨t209, ht210⟩ : ∃ t_ : ByteArray, t_ = t_197 ++ ⟨#[32]⟩ := ⟨_, rfl⟩
          have ht210z := size_app_le htz (show ByteArray.size ⟨#[32]⟩ ≤ 1 from by decide)
          rw [← ht210] at ht210z
          simp only [Nat.reduceAdd] at ht210z
          refine LP (.string t209) 1 rfl rfl rfl (fun u207 => (by rw [ht210]; exact (x_strcat rfl rfl rfl (by have h1_ := htz; have h2_ := (show ByteArray.size ⟨#[32]⟩ ≤ 1 from by decide); omega)))) hst202.a1 ?_
          refine LP (ptr b79 3) 2 rfl rfl rfl (fun u212 => (by kernel_rfl)) hst202.a1 ?_
          refine LT (.slice a86 x71.lks.length cap87) 3 rfl rfl rfl (fun u215 hF216 => (x_load rfl rfl (run_loadVar_one ti_73 (hF216.2 _ _ (one_self _ _)) rfl))) hst202.a1 ?_
          refine LP (int (i_196 : Int)) 4 rfl rfl rfl (fun u218 => rfl) hst202.a1 ?_
          obtain ⟨b223, off224, cap225, cs226, T227, fz228, e229, hc230, hb231, he232⟩ := hvl78.open (by omega)
          cases e229
          obtain ⟨cl233, hs234, hr235⟩ := he232.at i_196 (by omega)
          have hx236 := tyLk_open hr235
          subst hx236
          refine LP (ptr b223 (off224 + i_196 * 2)) 5 rfl rfl rfl (fun u221 => (x_indexAddr' rfl sl_73 ti_91 rfl rfl (by omega))) hst202.a1 ?_
          refine LP (ptr b223 (off224 + i_196 * 2)) 6 rfl rfl rfl (fun u238 => (by kernel_rfl)) hst202.a1 ?_
          refine LT (.string ((x71.lks[i_196]'(by omega)).1)) 7 rfl rfl rfl (fun u241 hF242 => (x_load rfl rfl (run_loadVar_one ti_9 (hF242.1 _ _ hb231) (seg_get (j := 0) hs234 rfl)))) hst202.a1 ?_
          obtain ⟨t246, ht247⟩ : ∃ t_ : ByteArray, t_ = t209 ++ ((x71.lks[i_196]'(by omega)).1) := ⟨_, rfl⟩
          have ht247z := size_app_le ht210z hz1
          rw [← ht247] at ht247z
          simp only [Nat.reduceAdd] at ht247z
          refine LP (.string t246) 8 rfl rfl rfl (fun u244 => (by rw [ht247]; exact (x_strcat rfl rfl rfl (by have h1_ := ht210z; have h2_ := hz1; omega)))) hst202.a1 ?_
          obtain ⟨t251, ht252⟩ : ∃ t_ : ByteArray, t_ = t246 ++ ⟨#[58]⟩ := ⟨_, rfl⟩
          have ht252z := size_app_le ht247z (show ByteArray.size ⟨#[58]⟩ ≤ 1 from by decide)
          rw [← ht252] at ht252z
          simp only [Nat.reduceAdd] at ht252z
          refine LP (.string t251) 9 rfl rfl rfl (fun u249 => (by rw [ht252]; exact (x_strcat rfl rfl rfl (by have h1_ := ht247z; have h2_ := (show ByteArray.size ⟨#[58]⟩ ≤ 1 from by decide); omega)))) hst202.a1 ?_
          refine LP (ptr b79 3) 10 rfl rfl rfl (fun u254 => (by kernel_rfl)) hst202.a1 ?_
          refine LT (.slice (some ⟨b223, off224, none⟩) x71.lks.length cap87) 11 rfl rfl rfl (fun u257 hF258 => (x_load rfl rfl (run_loadVar_one ti_73 (hF258.2 _ _ (one_self _ _)) rfl))) hst202.a1 ?_
          refine LP (int (i_196 : Int)) 12 rfl rfl rfl (fun u260 => rfl) hst202.a1 ?_
          obtain ⟨cl265, hs266, hr267⟩ := he232.at i_196 (by omega)
          have hx268 := tyLk_open hr267
          subst hx268
          refine LP (ptr b223 (off224 + i_196 * 2)) 13 rfl rfl rfl (fun u263 => (x_indexAddr' rfl sl_73 ti_91 rfl rfl (by omega))) hst202.a1 ?_
          refine LP (ptr b223 (off224 + i_196 * 2 + 1)) 14 rfl rfl rfl (fun u270 => (by kernel_rfl)) hst202.a1 ?_
          refine LT (int ((x71.lks[i_196]'(by omega)).2)) 15 rfl rfl rfl (fun u273 hF274 => (x_load rfl rfl (run_loadVar_one ti_3 (hF274.1 _ _ hb231) (seg_get (j := 1) hs266 rfl)))) hst202.a1 ?_
          refine LA_all [16] (by decide +kernel) (by simp) ?_
          intro i_ hi_
          simp only [List.mem_cons, List.not_mem_nil, or_false] at hi_
          subst hi_
          have hd278 := dec_size (n := (x71.lks[i_196]'(by omega)).2) (by omega) (by omega)
          refine One_call (i := 16) rfl rfl rfl (Want.plain rfl) (x_call (vs := #[(int ((x71.lks[i_196]'(by omega)).2))]) rfl rfl (by kernel_rfl) ent_45) (Dec_spec (n := (x71.lks[i_196]'(by omega)).2) (by omega) (by omega) (Le.refl _)) ?_
          rintro e281 w279 ⟨rfl, hw282⟩
          have hst280 := hst202.grown hw282
          refine ⟨_, rfl, (fun _ => hst280.a1), ?_⟩
          obtain ⟨t286, ht287⟩ : ∃ t_ : ByteArray, t_ = t251 ++ (dec ((x71.lks[i_196]'(by omega)).2)) := ⟨_, rfl⟩
          have ht287z := size_app_le ht252z hd278
          rw [← ht287] at ht287z
          simp only [Nat.reduceAdd] at ht287z
          refine LP (.string t286) 17 rfl rfl rfl (fun u284 => (by rw [ht287]; exact (x_strcat rfl rfl rfl (by have h1_ := ht252z; have h2_ := hd278; omega)))) hst280.a1 ?_
          refine LP (.string t286) 18 rfl rfl rfl (fun u289 => rfl) hst280.a1 ?_
          refine LA_done (by decide +kernel) ?_
          refine W_region_lit ?_
          refine Lq (int (i_196 : Int)) rfl rfl rfl rfl ?_
          refine Lq (int ((i_196 + 1 : Nat) : Int)) rfl rfl rfl (x_add_nat rfl rfl rfl (by omega)) ?_
          refine Lq (int ((i_196 + 1 : Nat) : Int)) rfl rfl rfl rfl ?_
          refine L_nil ?_
          refine ⟨x71.lks.length - (i_196 + 1), by first | omega | (simp only [List.length_append, List.length_cons, List.length_nil]; omega), ?_⟩
          exact ⟨_, (i_196 + 1), t286, (upd_of (upd_of (upd_of (upd_of (upd_of (upd_of (upd_of (upd_of (upd_of (upd_of (upd_of (upd_of (upd_of (upd_of (upd_of (upd_of (upd_of (upd_of (upd_of (upd_of (upd_of (upd_of (upd_of (upd_of (upd_of (upd_of (upd_of (upd_of (upd_of (upd_of (upd_of (upd_of (upd_of (upd_of (upd_of (upd_of (upd_of (upd_of (upd_of (upd_of (upd_of (upd_of (upd_of (upd_of (upd_of (upd_of (upd_of (upd_of (upd_of (upd_of rfl rfl) rfl) rfl) rfl) rfl) rfl) rfl) rfl) rfl) rfl) rfl) rfl) rfl) rfl) rfl) rfl) rfl) rfl) rfl) rfl) rfl) rfl) rfl) rfl) rfl) rfl) rfl) rfl) rfl) rfl) rfl) rfl) rfl) rfl) rfl) rfl) rfl) rfl) rfl) rfl) rfl) rfl) rfl) rfl) rfl) rfl) rfl) rfl) rfl) rfl), hmk189, hst280, (by omega), (by rw [ht287, ht252, ht247, ht210]; simp only [bts_append]; rw [hf194]; rw [links_succ (by omega)]; simp [bts]), rfl⟩
         ·
          have q291 := of_decide_eq_false c199
          refine W_cond_false (by show Value.bool _ = _; exact congrArg Value.bool c199) ?_
          refine W_exit ?_
          refine W_region_lit ?_
          refine Lq (.string t_197) rfl rfl rfl rfl ?_
          obtain ⟨t292, ht293⟩ : ∃ t_ : ByteArray, t_ = t_197 ++ ⟨#[10]⟩ := ⟨_, rfl⟩
          have ht293z := size_app_le htz (show ByteArray.size ⟨#[10]⟩ ≤ 1 from by decide)
          rw [← ht293] at ht293z
          simp only [Nat.reduceAdd] at ht293z
          refine Lq (.string t292) rfl rfl rfl (by rw [ht293]; exact (x_strcat rfl rfl rfl (by have h1_ := htz; have h2_ := (show ByteArray.size ⟨#[10]⟩ ≤ 1 from by decide); omega))) ?_
          refine Lq (.string t292) rfl rfl rfl rfl ?_
          refine L_nil ?_
          refine W_region_lit ?_
          refine Lq (int (k_49 : Int)) rfl rfl rfl rfl ?_
          refine Lq (int ((k_49 + 1 : Nat) : Int)) rfl rfl rfl (x_add_nat rfl rfl rfl (by omega)) ?_
          refine Lq (int ((k_49 + 1 : Nat) : Int)) rfl rfl rfl rfl ?_
          refine L_nil ?_
          refine ⟨(shs s).length - (k_49 + 1), by first | omega | (simp only [List.length_append, List.length_cons, List.length_nil]; omega), ?_⟩
          exact ⟨_, (k_49 + 1), t292, (upd_of (upd_of (upd_of (upd_of (upd_of (upd_of (upd_of (upd_of (upd_of (upd_of (upd_of (upd_of (upd_of (upd_of rfl rfl) rfl) rfl) rfl) rfl) rfl) rfl) rfl) rfl) rfl) rfl) rfl) rfl) rfl), hmk189, (hst190.keepN 0 rfl), (by omega), (by rw [ht293]; simp only [bts_append]; rw [hf194]; rw [line_no (by omega) hx72 (of_decide_eq_false c175) (j := i_196) (by omega)]; simp [bts]), rfl⟩
    ·
     have q294 := of_decide_eq_false c56
     refine W_cond_false (by show Value.bool _ = _; exact congrArg Value.bool c56) ?_
     refine W_exit ?_
     refine W_seq ?_
     refine W_region_lit ?_
     refine Lq (.string t_50) rfl rfl rfl rfl ?_
     refine Lq (.string t_50) rfl rfl rfl rfl ?_
     refine L_nil ?_
     refine W_ret ?_
     refine ⟨_, _, res_run (rs := [.tmp 2]) (vs := [(.string t_50)]) Tryz.results15 (.cons (.tmp rfl) .nil) hmk42, ?_⟩
     have hke : k_49 = s.nodes.length := by omega
     exact ⟨ret_str (txt_of (by rw [hf47, hke]; rfl)), hst43.grow⟩
end Go.Fx.YtjpdhfhiimbpgaaGreatDoor
set_option linter.unusedSimpArgs false
set_option linter.unusedVariables false
set_option linter.unusedSectionVars false
namespace Go.Fx.YtjpdhfhiimbpgaaGreatDoor
open Go Go.Fx Go.Proofs
set_option maxRecDepth 20000
variable {s : TS} {xs : List Sn}
theorem tySn_ali {R : Hp} {x : Sn} {c1 : List Value} (a : Int) (h : tySn.rel R x c1) : tySn.rel R ⟨{ x.nd with ali := a }, x.lks, x.v⟩ (c1.take 1 ++ [.int .i64 a] ++ c1.drop (1 + 1)) := by
  obtain ⟨v, rfl, hv, h7⟩ := tySn_open h
  exact tySn_mk (x := ⟨{ x.nd with ali := a }, x.lks, x.v⟩) hv h7
theorem nds_xs {l : List Nd} (h : xs.map Sn.nd = l) : nds (xs.map Sn.sh) = l := by
  rw [← h]
  simp [nds, Sn.sh, Function.comp_def]
theorem AgrT.at (h : AgrT xs s) {k : Nat} {x : Sn} (hk : k < xs.length) (e : x = xs[k]) : s.nodes[k]'(by rw [← h.len]; exact hk) = x.nd := by
  have h3 : (xs.map Sn.nd)[k]? = s.nodes[k]? := by rw [h.1]
  rw [List.getElem?_map, List.getElem?_eq_getElem hk, List.getElem?_eq_getElem (by rw [← h.len]; exact hk)] at h3
  rw [e]
  exact (Option.some.inj h3).symm
theorem AgrT.setAli (h : AgrT xs s) {b : Nat} (hb : b < xs.length) (a : Int) {y : Sn} (hy : y = ⟨{ (xs[b]).nd with ali := a }, (xs[b]).lks, (xs[b]).v⟩) : AgrT (xs.set b y) { s with nodes := s.nodes.set b { (s.nodes[b]'(by rw [← h.len]; exact hb)) with ali := a } } := by
  refine ⟨?_, fun k hk => ?_⟩
  · rw [List.map_set, h.1, hy]
    congr 1
    simp only
    rw [h.at hb rfl]
  · rw [List.getElem_set]
    split
    · rename_i e; subst e; rw [hy]; exact h.2 b hb
    · exact h.2 k (by simpa using hk)
theorem lks_none {m : List (Stp × Int)} {k : Int} (h : ∀ e ∈ m, e.1.1 ≠ k) : lks m k = [] := by
  apply List.eq_nil_iff_forall_not_mem.2
  intro e he
  exact h _ (lks_of he) rfl
theorem AgrT.addN (h : AgrT xs s) (hw : WF s) (cls : Int) (names : List Str) : AgrT (xs ++ [⟨⟨cls, -1, names⟩, [], .slice none 0 0⟩]) (s.addN cls names) := by
  have hl := h.len
  refine ⟨by simp [TS.addN, h.1], fun k hk => ?_⟩
  by_cases e : k < xs.length
  · rw [List.getElem_append_left e]; exact h.2 k e
  · have e2 : k = xs.length := by simp at hk; omega
    subst e2
    rw [List.getElem_append_right (Nat.le_refl _)]
    simp only [Nat.sub_self, List.getElem_cons_zero]
    refine (lks_none fun q hq => ?_).symm
    obtain ⟨j, h1, h2⟩ := hw.key q hq
    omega
theorem sn_mk {R : Hp} {a b : Int} {ns : List Str} {v : Value} (h : RdS Ty.str R v ns) : Encs tySn R [⟨⟨a, b, ns⟩, [], .slice none 0 0⟩] [.int .i64 a, .int .i64 b, v, .slice none 0 0] := Encs.one (tySn_mk (x := ⟨⟨a, b, ns⟩, [], .slice none 0 0⟩) h ⟨_, _, _, rfl⟩)
def snsOf (cs : List Cls) (k : Nat) : List Sn := (List.range k).map fun (j : Nat) => ⟨⟨(j : Int), -1, (cs.getD j ⟨eStr, []⟩).fields⟩, [], .slice none 0 0⟩
theorem snsOf_len (cs : List Cls) (k : Nat) : (snsOf cs k).length = k := by simp [snsOf]
theorem snsOf_succ {cs : List Cls} {k : Nat} (h : k < cs.length) : snsOf cs (k + 1) = snsOf cs k ++ [⟨⟨(k : Int), -1, cs[k].fields⟩, [], .slice none 0 0⟩] := by
  unfold snsOf
  rw [List.range_succ, List.map_append, List.map_singleton, List.getD_eq_getElem?_getD, List.getElem?_eq_getElem h]
  rfl
theorem LnX.nils (R : Hp) : ∀ (xs : List Sn), (∀ x ∈ xs, x.v = .slice none 0 0 ∧ x.lks = []) → LnX R xs non
  | [], _ => .nil
  | x :: xs, h => by
    have h1 := h x (List.mem_cons_self ..)
    have := LnX.cons (R := R) (x := x) (c1 := non) (by rw [h1.1, h1.2]; exact OwnL.empty _ _ _) (LnX.nils R xs fun y hy => h y (List.mem_cons_of_mem _ hy)) (Dj.non_r non)
    rw [non_uni] at this
    exact this
theorem snsOf_nil (R : Hp) (cs : List Cls) (k : Nat) : LnX R (snsOf cs k) non := LnX.nils R _ fun x hx => by
  obtain ⟨j, _, rfl⟩ := List.mem_map.1 hx
  exact ⟨rfl, rfl⟩
theorem snsOf_agr (cs : List Cls) : AgrT (snsOf cs cs.length) (newTS cs) := by
  refine ⟨?_, fun k hk => ?_⟩
  · simp only [snsOf, List.map_map]
    rfl
  · simp only [snsOf, List.getElem_map]
    exact (lks_none fun e he => by cases he).symm
theorem newTS_small {cs : List Cls} (hcs : cs.length ≤ 12) (hfs : ∀ x ∈ cs, x.fields.length ≤ 64) : Small (newTS cs).nodes := nodesOf_small (Nat.le_refl _) (by omega) (fun x hx => Nat.le_trans (hfs x hx) (by decide))
theorem dup_arg {names : List Str} {i j : Nat} (hj : j < i) (hi : i < names.length) (e : names[j] = names[i]) : ¬ names.Nodup := fun h =>
  List.pairwise_iff_getElem.1 h j i (by omega) hi hj e
theorem dupS {ns : List Str} {t : Str} {j : Nat} {hj : j < ns.length} (h : ∀ i (hi : i < ns.length), i < j → ¬ ns[i] = t) (e : ¬ ns[j] = t) : ∀ i (hi : i < ns.length), i < j + 1 → ¬ ns[i] = t := fun i hi hij => by
  by_cases q : i = j
  · subst q; exact e
  · exact h i hi (by omega)
theorem okP_next {names : List Str} {k j : Nat} (hk : k < names.length) (h : okP names k = true) (hj : k ≤ j) (hall : ∀ i (hi : i < names.length), i < j → ¬ i = k → i < k → ¬ names[i] = names[k]) (hne : ¬ names[k] = eStr) : okP names (k + 1) = true := by
  refine (okP_t hk h hne fun hm => ?_).symm
  obtain ⟨i, hi, e⟩ := List.getElem_of_mem hm
  rw [List.getElem_take] at e
  have hi2 : i < k := by simp at hi; omega
  exact hall i (by omega) (by omega) (by omega) hi2 e
theorem okP_start {names : List Str} (h : ¬ names.length > 64) : okP names 0 = true := by
  rw [← okP_zero]; exact decide_eq_true (by omega)
end Go.Fx.YtjpdhfhiimbpgaaGreatDoor
