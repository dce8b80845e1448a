/-
  Chapter 27: the reference registry: Holds, Modules, Remove, printed by genbr.py.
-/
import Derived.Test.YtlfabjfajcbdcaaBd
set_option linter.unusedSimpArgs false
set_option linter.unusedVariables false
namespace Go.Fx.Ytlfabjfajcbdcaa
open Go Go.Fx Go.Proofs
set_option maxRecDepth 20000

theorem ent_48 : Ent Try.prog 48 := fun _ _ => by kernel_rfl
theorem ent_49 : Ent Try.prog 49 := fun _ _ => by kernel_rfl

theorem HoldsR_spec {w : World} {R c : Hp} {m : Nat} {s : RS} (k : Int) (hreg : RegR R m s c) (hcw : Le c (hp w)) (hR : Le R (hp w)) (hlen : s.mods.length ≤ 1000000) :
    Calls Try.prog 36 #[ptr m 0, int k] w fun e w' => e = .returned (.bool (holds s.vers s.mods k)) ∧ Grow w w' := by
 obtain ⟨F, C, xs, vF, vC, vL, cF, cC, rfl, hd1, hd2, hFo, hCo, hL, hsr, hag, hav, hf, hc, hok, hkn⟩ := hreg
 have h1 := (tri_1 _ _ _).trans hcw
 have hF := OwnL.freeze hFo hR ((tri_2 hd1).trans hcw)
 have hC := OwnL.freeze hCo hR ((tri_3 hd1 hd2).trans hcw)
 replace hL := RdS.mono hL hR
 have hst := Step.ro (Le.refl (hp w))
 have hx : xs.length ≤ 1000000 := by rw [mods_len hsr hag hok.mods]; exact hlen
 have hbig : ∀ {i : Nat} (hi : i < xs.length), (xs[i]).2.length ≤ 1099511627776 := fun hi => hok.big _ _ (by rw [← hag]; exact getM_at hsr (List.getElem_mem hi))
 refine calls_of_W (n := 26) Try.func36 rfl Try.ntmps36 (Nat.le_of_ble_eq_true rfl) ?_
 refine W_seq ?_
 refine W_region_lit ?_
 refine Lq (.bool false) rfl rfl rfl rfl ?_
 refine L_nil ?_
 refine W_seq ?_
 refine W_region_lit ?_
 refine Lq (ptr m 0) rfl rfl rfl rfl ?_
 refine Lq (int k) rfl rfl rfl rfl ?_
 refine L_callG hst (v := (.tuple #[(int (((posM xs k) : Nat) : Int)), (.bool (thrM xs k))])) rfl rfl rfl (x_call (vs := #[(ptr m 0), (int k)]) rfl rfl (by kernel_rfl) ent_48) (findR_spec (xs := xs) k (Le.trans h1 hst.rle') (RdS.mono hF hst.rle') (RdS.mono hC hst.rle') (RdS.mono hL hst.rle') (Le.refl _) hf hc hx) (fun w1 hst2 => ?_)
 refine Lq (.tuple #[(int (((posM xs k) : Nat) : Int)), (.bool (thrM xs k))]) rfl rfl rfl rfl ?_
 refine Lq (int (((posM xs k) : Nat) : Int)) rfl rfl rfl (by kernel_rfl) ?_
 refine Lq (.bool (thrM xs k)) rfl rfl rfl (by kernel_rfl) ?_
 refine Lq (int (((posM xs k) : Nat) : Int)) rfl rfl rfl rfl ?_
 refine Lq (.bool (thrM xs k)) rfl rfl rfl rfl ?_
 refine L_nil ?_
 refine W_seq ?_
 rcases Bool.eq_false_or_eq_true (thrM xs k) with hth | hth
 ·
  obtain ⟨hj, hgx, hkx⟩ := thrM_yes hsr hth
  refine W_region_lit ?_
  refine Lq (.bool (thrM xs k)) rfl rfl rfl rfl ?_
  refine Lq (.bool (thrM xs k)) rfl rfl rfl rfl ?_
  refine L_guard rfl rfl rfl rfl hth ?_
  refine Lq (ptr m 0) rfl rfl rfl rfl ?_
  refine L_guard rfl rfl rfl rfl hth ?_
  refine Lq (ptr m 0) rfl rfl rfl rfl ?_
  refine L_guard rfl rfl rfl rfl hth ?_
  refine Lq (ptr m 0) rfl rfl rfl rfl ?_
  refine L_guard rfl rfl rfl rfl hth ?_
  refine Lq (ptr m 2) rfl rfl rfl (by kernel_rfl) ?_
  refine L_guard rfl rfl rfl rfl hth ?_
  refine Lq vL rfl rfl rfl (x_load rfl rfl (run_loadVar_one ti_85 (hst2.rle' _ _ (h1 _ _ (one_self _ _))) rfl)) ?_
  refine L_guard rfl rfl rfl rfl hth ?_
  refine Lq (int (((posM xs k) : Nat) : Int)) rfl rfl rfl rfl ?_
  refine L_guard rfl rfl rfl rfl hth ?_
  obtain ⟨a3, cap4, e5, hc6⟩ := hL.shape
  subst e5
  obtain ⟨b7, off8, cap9, cs10, T11, fz12, e13, hc14, hb15, he16⟩ := hL.open (by omega)
  cases e13
  obtain ⟨cl17, hs18, hr19⟩ := he16.at (posM xs k) (by omega)
  obtain ⟨x20, hx21⟩ : ∃ x_, x_ = (xs[(posM xs k)]'(by omega)) := ⟨_, rfl⟩
  rw [← hx21] at hr19
  obtain ⟨u22, e23, hu24⟩ := tyMo_open hr19
  subst e23
  refine Lq (ptr b7 (off8 + (posM xs k) * 2)) rfl rfl rfl (x_indexAddr' rfl sl_85 ti_103 rfl rfl (by omega)) ?_
  refine L_guard rfl rfl rfl rfl hth ?_
  refine Lq (ptr b7 (off8 + (posM xs k) * 2 + 1)) rfl rfl rfl (by kernel_rfl) ?_
  refine L_guard rfl rfl rfl rfl hth ?_
  refine Lq u22 rfl rfl rfl (x_load rfl rfl (run_loadVar_one ti_29 (hst2.rle' _ _ hb15) (seg_get (j := 1) hs18 rfl))) ?_
  refine L_guard rfl rfl rfl rfl hth ?_
  refine L_callG hst2 (v := (.bool (curR F C x20.2))) rfl rfl rfl (x_call (vs := #[(ptr m 0), u22]) rfl rfl (by kernel_rfl) ent_49) (currentR_spec (F := F) (C := C) (xs := xs) (Le.trans h1 hst2.rle') (RdS.mono hF hst2.rle') (RdS.mono hC hst2.rle') (RdS.mono hL hst2.rle') (Le.refl _) hf hc hx (RdS.mono hu24 hst2.rle') (by rw [hx21]; exact hbig hj)) (fun w25 hst26 => ?_)
  refine Lq (.bool (curR F C x20.2)) rfl rfl rfl (x_pick rfl rfl (by rw [hth]; rfl)) ?_
  refine Lq (.bool (curR F C x20.2)) rfl rfl rfl rfl ?_
  refine L_nil ?_
  refine W_ret ?_
  refine ⟨_, _, res_run (rs := [.tmp 4]) (vs := [(.bool (curR F C x20.2))]) Try.results36 (.cons (.tmp rfl) .nil) rfl, ?_⟩
  exact ⟨retB (holds_yes hsr hag hav hkn hth hj hx21).symm, hst26.grow⟩
 ·
  have hpl := posM_le xs k
  refine W_region_lit ?_
  refine Lq (.bool (thrM xs k)) rfl rfl rfl rfl ?_
  refine Lq (.bool (thrM xs k)) rfl rfl rfl rfl ?_
  refine L_unwanted rfl rfl rfl rfl (by rw [hth]; try rfl) rfl rfl ?_
  refine L_unwanted rfl rfl rfl rfl (by rw [hth]; try rfl) rfl rfl ?_
  refine L_unwanted rfl rfl rfl rfl (by rw [hth]; try rfl) rfl rfl ?_
  refine L_unwanted rfl rfl rfl rfl (by rw [hth]; try rfl) rfl rfl ?_
  refine L_unwanted rfl rfl rfl rfl (by rw [hth]; try rfl) rfl rfl ?_
  refine L_unwanted rfl rfl rfl rfl (by rw [hth]; try rfl) rfl rfl ?_
  refine L_unwanted rfl rfl rfl rfl (by rw [hth]; try rfl) rfl rfl ?_
  refine L_unwanted rfl rfl rfl rfl (by rw [hth]; try rfl) rfl rfl ?_
  refine L_unwanted rfl rfl rfl rfl (by rw [hth]; try rfl) rfl rfl ?_
  refine L_unwanted rfl rfl rfl rfl (by rw [hth]; try rfl) rfl rfl ?_
  refine Lq (.bool false) rfl rfl rfl (x_pick rfl rfl (by rw [hth]; rfl)) ?_
  refine Lq (.bool false) rfl rfl rfl rfl ?_
  refine L_nil ?_
  refine W_ret ?_
  refine ⟨_, _, res_run (rs := [.tmp 4]) (vs := [(.bool false)]) Try.results36 (.cons (.tmp rfl) .nil) rfl, ?_⟩
  exact ⟨retB (holds_no hsr hag hth).symm, hst2.grow⟩

theorem VersionR_reg {w : World} {R c : Hp} {m : Nat} {s : RS} (kind n : Int) (hreg : RegR R m s c) (hcw : Le c (hp w)) (hR : Le R (hp w)) (hlen : s.mods.length ≤ 1000000) : Calls Try.prog 35 #[ptr m 0, int kind, int n] w fun e w' => e = .returned (int (ver s.vers (kind, n))) ∧ Grow w w' := by
  obtain ⟨F, C, xs, vF, vC, vL, cF, cC, rfl, hd1, hd2, hFo, hCo, hL, hsr, hag, hav, hf, hc, hok, hkn⟩ := hreg
  rw [hav]
  exact VersionR_spec (F := F) (C := C) (xs := xs) kind n ((tri_1 _ _ _).trans hcw) (OwnL.freeze hFo hR ((tri_2 hd1).trans hcw)) (OwnL.freeze hCo hR ((tri_3 hd1 hd2).trans hcw)) (RdS.mono hL hR) (Le.refl _) hf hc (by rw [mods_len hsr hag hok.mods]; exact hlen)

theorem ModulesR_spec {w : World} {R c : Hp} {m : Nat} {s : RS} (hs : Sats w R [c]) (hreg : RegR R m s c) (hlen : s.mods.length ≤ 1000000) :
    Calls Try.prog 37 #[ptr m 0] w (Comes' w R [c] fun v' R' L' => ∃ co c', L' = [co, c'] ∧ OwnL Ty.int 3 R' v' s.modules co ∧ RegR R' m s c') := by
 obtain ⟨F, C, xs, vF, vC, vL, cF, cC, hce, hd1, hd2, hF, hC, hL, hsr, hag, hav, hf, hc, hok, hkn⟩ := hreg
 have hst1 : Step w R [c] w R [tri (refK m vF vC vL) cF cC] := by have h0 := Step.refl hs; rw [hce] at h0 ⊢; exact h0
 have hst := hst1.split3 hd1 hd2
 clear hst1 hce hd1 hd2
 have hx : xs.length ≤ 1000000 := by rw [mods_len hsr hag hok.mods]; exact hlen
 refine calls_of_W (n := 26) Try.func37 rfl Try.ntmps37 (Nat.le_of_ble_eq_true rfl) ?_
 refine W_seq ?_
 refine W_region_lit ?_
 refine Lq (.slice none 0 0) rfl rfl rfl rfl ?_
 refine L_nil ?_
 refine W_seq ?_
 refine W_region_lit ?_
 refine Lq (.slice none 0 0) rfl rfl rfl rfl ?_
 refine L_nil ?_
 refine W_seq ?_
 refine W_seq ?_
 have ho2 := OwnL.empty Ty.int 3 R
 have hst3 := hst.nothing
 refine W_region_lit ?_
 refine Lq (int 0) rfl rfl rfl rfl ?_
 refine L_nil ?_
 refine W_block ?_
 refine W_loop (I := fun σ w_ m_ => ∃ (σ0 : Fr) (k_ : Nat) (vo : Value) (co : Hp), σ = upd (upd (upd (upd σ0 0 (ptr m 0)) 2 (.slice none 0 0)) 3 vo) 4 (int (k_ : Int)) ∧ mks (σ0 0) = [] ∧ Step w R [c] w_ R [one m (.cells #[vF, vC, vL] 87 (0, 0)), cF, cC, co] ∧ OwnL Ty.int 3 R vo (List.map (fun x => x.1) (List.take k_ xs)) co ∧ k_ ≤ xs.length ∧ m_ = xs.length - k_) (m := xs.length - 0) ?_ ?_
 ·
  exact ⟨_, 0, (.slice none 0 0), non, (upd_of (upd_of (upd_of (upd_of rfl rfl) rfl) rfl) rfl), rfl, (((hst3.front 3 rfl rfl).front 3 rfl rfl).front 3 rfl rfl), ho2, (by omega), rfl⟩
 ·
  rintro m14 σ_ w6 ⟨s10, k_11, vo12, co13, rfl, hmk4, hst5, hi8, hf9, rfl⟩
  refine W_seq ?_
  refine W_seq ?_
  refine W_region_lit ?_
  refine Lq (int (k_11 : Int)) rfl rfl rfl rfl ?_
  refine Lq (ptr m 0) rfl rfl rfl rfl ?_
  refine Lq (ptr m 0) rfl rfl rfl rfl ?_
  refine Lq (ptr m 2) rfl rfl rfl (by kernel_rfl) ?_
  refine Lq vL rfl rfl rfl (x_load rfl rfl (run_loadVar_one ti_85 (hst5.b 0) rfl)) ?_
  obtain ⟨a15, cap16, e17, hc18⟩ := hL.shape
  subst e17
  refine Lq (int (xs.length : Int)) rfl rfl rfl (x_len_slice rfl sl_85 rfl) ?_
  refine Lq (.bool (decide ((k_11 : Int) < (xs.length : Int)))) rfl rfl rfl (by kernel_rfl) ?_
  refine L_nil ?_
  rcases Bool.eq_false_or_eq_true (decide ((k_11 : Int) < (xs.length : Int))) with c19 | c19
  ·
   have q20 := of_decide_eq_true c19
   refine W_cond_true (by show Value.bool _ = _; exact congrArg Value.bool c19) ?_
   refine W_skip ?_
   refine W_seq ?_
   refine W_block ?_
   have hml_ : (List.map (fun x => x.1) (List.take k_11 xs)).length ≤ 1000000 := by rw [List.length_map, List.length_take]; omega
   refine W_region_lit ?_
   refine Lq vo12 rfl rfl rfl rfl ?_
   refine Lq (ptr m 0) rfl rfl rfl rfl ?_
   refine Lq (ptr m 0) rfl rfl rfl rfl ?_
   refine Lq (ptr m 2) rfl rfl rfl (by kernel_rfl) ?_
   refine Lq (.slice a15 xs.length cap16) rfl rfl rfl (x_load rfl rfl (run_loadVar_one ti_85 (hst5.b 0) rfl)) ?_
   refine Lq (int (k_11 : Int)) rfl rfl rfl rfl ?_
   obtain ⟨b21, off22, cap23, cs24, T25, fz26, e27, hc28, hb29, he30⟩ := hL.open (by omega)
   cases e27
   obtain ⟨cl31, hs32, hr33⟩ := he30.at k_11 (by omega)
   obtain ⟨x34, hx35⟩ : ∃ x_, x_ = (xs[k_11]'(by omega)) := ⟨_, rfl⟩
   rw [← hx35] at hr33
   obtain ⟨u36, e37, hu38⟩ := tyMo_open hr33
   subst e37
   refine Lq (ptr b21 (off22 + k_11 * 2)) rfl rfl rfl (x_indexAddr' rfl sl_85 ti_103 rfl rfl (by omega)) ?_
   refine Lq (ptr b21 (off22 + k_11 * 2)) rfl rfl rfl (by kernel_rfl) ?_
   refine Lq (int x34.1) rfl rfl rfl (x_load rfl rfl (run_loadVar_one ti_3 (hst5.rle' _ _ hb29) (seg_get (j := 0) hs32 rfl))) ?_
   refine L_new hst5 (v := fun b => .slice (some ⟨b, 0, none⟩) 1 1) (ob := .cells #[(int x34.1)] 3 (0, 0)) rfl rfl rfl (by kernel_rfl) (fun b39 w40 hst41 => ?_)
   refine L_append hst41 (t := 31) (e := 3) (ys := [x34.1]) (src := [(int x34.1)]) 4 rfl rfl rfl rfl rfl rfl sl_31 ti_3 rfl rfl rfl hi8 (src_own (hst41.b 0)) (Encs.one (t := Ty.int) (c := [_]) rfl) rfl (by first | omega | (simp only [List.length_append, List.length_cons, List.length_nil]; omega)) (by first | (simp only [maxLen]; omega) | (simp only [List.length_append, List.length_cons, List.length_nil, maxLen]; omega)) (fun v42 c43 w44 ho45 hst46 => ?_)
   refine Lq v42 rfl rfl rfl rfl ?_
   refine L_nil ?_
   refine W_region_lit ?_
   refine Lq (int (k_11 : Int)) rfl rfl rfl rfl ?_
   refine Lq (int ((k_11 + 1 : Nat) : Int)) rfl rfl rfl (x_add_nat rfl rfl rfl (by omega)) ?_
   refine Lq (int ((k_11 + 1 : Nat) : Int)) rfl rfl rfl rfl ?_
   refine L_nil ?_
   refine ⟨xs.length - (k_11 + 1), by first | omega | (simp only [List.length_append, List.length_cons, List.length_nil]; omega), ?_⟩
   exact ⟨_, (k_11 + 1), v42, c43, (upd_of (upd_of (upd_of (upd_of rfl rfl) rfl) rfl) rfl), hmk4, ((((hst46.front 4 rfl rfl).front 4 rfl rfl).front 4 rfl rfl).keepN 4 rfl), (by rw [take_map1 (by omega) hx35]; exact ho45), (by omega), rfl⟩
  ·
   have q47 := of_decide_eq_false c19
   refine W_cond_false (by show Value.bool _ = _; exact congrArg Value.bool c19) ?_
   refine W_exit ?_
   refine W_seq ?_
   refine W_region_lit ?_
   refine Lq vo12 rfl rfl rfl rfl ?_
   refine Lq vo12 rfl rfl rfl rfl ?_
   refine L_nil ?_
   refine W_ret ?_
   refine ⟨_, _, res_run (rs := [.tmp 2]) (vs := [vo12]) Try.results37 (.cons (.tmp rfl) .nil) hmk4, ?_⟩
   have hk_ : k_11 = xs.length := by omega
   have e_ : (List.map (fun x => x.1) (List.take k_11 xs)) = s.modules := by rw [show k_11 = xs.length by omega, List.take_length]; exact mods_sorted hsr hag hok.mods
   have ho_ := Eq.mp (congrArg (fun l_ => OwnL Ty.int 3 R vo12 l_ co13) e_) hi8
   obtain ⟨c', hst', hreg'⟩ := RegR.close (s := s) (F := F) (C := C) (xs := xs) ((((hst5.front 3 rfl rfl).front 3 rfl rfl).front 3 rfl rfl).front 3 rfl rfl) hF hC hL hsr hag hav hf hc hok hkn
   exact ⟨_, _, _, rfl, (hst'.front 1 rfl rfl).keepN 2 rfl, _, c', rfl, ho_, hreg'⟩

set_option maxHeartbeats 2000000 in
theorem RemoveR_spec {w : World} {R c : Hp} {m : Nat} {s : RS} (k : Int) (hs : Sats w R [c]) (hreg : RegR R m s c) (hlen : s.mods.length ≤ 1000000) :
    Calls Try.prog 32 #[ptr m 0, int k] w (Comes' w R [c] fun v' R' L' => ∃ c', v' = .bool (AL.get s.mods k).isSome ∧ L' = [c'] ∧ RegR R' m (s.remove k) c') := by
 obtain ⟨F, C, xs, vF, vC, vL, cF, cC, hce, hd1, hd2, hF, hC, hL, hsr, hag, hav, hf, hc, hok, hkn⟩ := hreg
 have hst1 : Step w R [c] w R [tri (refK m vF vC vL) cF cC] := by have h0 := Step.refl hs; rw [hce] at h0 ⊢; exact h0
 have hst := hst1.split3 hd1 hd2
 clear hst1 hce hd1 hd2
 have hx : xs.length ≤ 1000000 := by rw [mods_len hsr hag hok.mods]; exact hlen
 refine calls_of_W (n := 34) Try.func32 rfl Try.ntmps32 (Nat.le_of_ble_eq_true rfl) ?_
 refine W_seq ?_
 refine W_region_lit ?_
 refine Lq (.bool false) rfl rfl rfl rfl ?_
 refine L_nil ?_
 refine W_seq ?_
 refine W_region_lit ?_
 refine Lq (ptr m 0) rfl rfl rfl rfl ?_
 refine Lq (int k) rfl rfl rfl rfl ?_
 refine L_callG hst (v := (.tuple #[(int (((posM xs k) : Nat) : Int)), (.bool (thrM xs k))])) rfl rfl rfl (x_call (vs := #[(ptr m 0), (int k)]) rfl rfl (by kernel_rfl) ent_48) (findR_spec (xs := xs) k (hst.g 0) (OwnL.freeze hF hst.rle' (hst.g 1)) (OwnL.freeze hC hst.rle' (hst.g 2)) (RdS.mono hL hst.rle') (Le.refl _) (by omega) (by omega) hx) (fun w1 hst2 => ?_)
 refine Lq (.tuple #[(int (((posM xs k) : Nat) : Int)), (.bool (thrM xs k))]) rfl rfl rfl rfl ?_
 refine Lq (int (((posM xs k) : Nat) : Int)) rfl rfl rfl (by kernel_rfl) ?_
 refine Lq (.bool (thrM xs k)) rfl rfl rfl (by kernel_rfl) ?_
 refine Lq (int (((posM xs k) : Nat) : Int)) rfl rfl rfl rfl ?_
 refine Lq (.bool (thrM xs k)) rfl rfl rfl rfl ?_
 refine L_nil ?_
 refine W_seq ?_
 refine W_seq ?_
 rcases Bool.eq_false_or_eq_true (thrM xs k) with hth | hth
 ·
  obtain ⟨hj, hgx, hkx⟩ := thrM_yes hsr hth
  refine W_region_lit ?_
  refine Lq (.bool (thrM xs k)) rfl rfl rfl rfl ?_
  refine Lq (.bool (!(thrM xs k))) rfl rfl rfl rfl ?_
  refine L_nil ?_
  refine W_cond_false (by show Value.bool _ = _; exact congrArg Value.bool (by rw [hth]; rfl)) ?_
  refine W_skip ?_
  refine W_seq ?_
  refine W_region_draw [19] (fun w => Le R (hp w) ∧ Le (one m (.cells #[vF, vC, vL] 87 (0, 0))) (hp w)) hmix (by decide +kernel) (fun _ _ h => h) ?_
  have hst4 := hst2.draws (w1.drawn + 1)
  generalize draws w1 (w1.drawn + 1) = w3 at hst4 ⊢
  refine LP (ptr m 0) 0 rfl rfl rfl (fun u6 => rfl) ⟨hst4.rle', hst4.g 0⟩ ?_
  refine LP (ptr m 0) 2 rfl rfl rfl (fun u11 => rfl) ⟨hst4.rle', hst4.g 0⟩ ?_
  refine LP (ptr m 0) 3 rfl rfl rfl (fun u16 => rfl) ⟨hst4.rle', hst4.g 0⟩ ?_
  refine LP (ptr m 2) 4 rfl rfl rfl (fun u21 => (by kernel_rfl)) ⟨hst4.rle', hst4.g 0⟩ ?_
  refine LT vL 5 rfl rfl rfl (fun u26 hF27 => (x_load rfl rfl (run_loadVar_one ti_85 (hF27.2 _ _ (one_self _ _)) rfl))) ⟨hst4.rle', hst4.g 0⟩ ?_
  refine LP (int (((posM xs k) : Nat) : Int)) 6 rfl rfl rfl (fun u31 => rfl) ⟨hst4.rle', hst4.g 0⟩ ?_
  obtain ⟨a38, cap39, e40, hc41⟩ := hL.shape
  subst e40
  refine LT (.slice a38 (posM xs k) cap39) 7 rfl rfl rfl (fun u36 hF37 => (x_slice sl_85 rfl rfl (run_sliceHi sl_85 ti_103 (by omega)))) ⟨hst4.rle', hst4.g 0⟩ ?_
  refine LP (ptr m 0) 9 rfl rfl rfl (fun u45 => rfl) ⟨hst4.rle', hst4.g 0⟩ ?_
  refine LP (ptr m 0) 10 rfl rfl rfl (fun u50 => rfl) ⟨hst4.rle', hst4.g 0⟩ ?_
  refine LP (ptr m 2) 11 rfl rfl rfl (fun u55 => (by kernel_rfl)) ⟨hst4.rle', hst4.g 0⟩ ?_
  refine LT (.slice a38 xs.length cap39) 12 rfl rfl rfl (fun u60 hF61 => (x_load rfl rfl (run_loadVar_one ti_85 (hF61.2 _ _ (one_self _ _)) rfl))) ⟨hst4.rle', hst4.g 0⟩ ?_
  refine LP (int (((posM xs k) : Nat) : Int)) 13 rfl rfl rfl (fun u65 => rfl) ⟨hst4.rle', hst4.g 0⟩ ?_
  refine LP (int (((posM xs k) + 1 : Nat) : Int)) 14 rfl rfl rfl (fun u70 => (x_add_nat rfl rfl rfl (by omega))) ⟨hst4.rle', hst4.g 0⟩ ?_
  refine LT (.slice (if cap39 = ((posM xs k) + 1) then a38 else Option.map (·.add (((posM xs k) + 1) * 2)) a38) (xs.length - ((posM xs k) + 1)) (cap39 - ((posM xs k) + 1))) 15 rfl rfl rfl (fun u75 hF76 => (x_sliceLo rfl rfl rfl sl_85 (run_sliceLo sl_85 ti_103 (by omega) (by omega)))) ⟨hst4.rle', hst4.g 0⟩ ?_
  refine LA_all [1] (by decide +kernel) (by simp) ?_
  intro i_ hi_
  simp only [List.mem_cons, List.not_mem_nil, or_false] at hi_
  subst hi_
  refine One_new hst4 (i := 1) (v := fun b => .slice (some ⟨b, 0, none⟩) 0 0) (ob := .cells #[] 103 (0, 0)) rfl rfl rfl (Want.plain rfl) (by kernel_rfl) (fun b80 w81 hst82 => ?_)
  refine ⟨(fun _ => ⟨hst82.rle', hst82.g 1⟩), ?_⟩
  refine LA_all [8] (by decide +kernel) (by simp) ?_
  intro i_ hi_
  simp only [List.mem_cons, List.not_mem_nil, or_false] at hi_
  subst hi_
  have ho86 : OwnL tyMo 103 R (.slice (some ⟨b80, 0, none⟩) 0 0) ([] : List Mo) (one b80 (.cells #[] 103 (0, 0))) := OwnL.lit (cs := []) Encs.nil rfl (by decide)
  obtain ⟨v87, c88, w89, hr90, ho91, hst92⟩ := run_appendM (P := Try.prog) (tt := 85) sl_85 ti_103 rfl ho86 hst82 (RdS.takeK (k := (posM xs k)) (RdS.mono hL (Le.refl _)) (by omega)) hst82.rle' (by simp only [List.length_append, List.length_take, List.length_drop, List.length_cons, List.length_nil]; omega) (by simp only [List.length_append, List.length_take, List.length_drop, List.length_cons, List.length_nil, maxLen]; omega)
  refine One_val (i := 8) (v := v87) rfl rfl rfl (Want.plain rfl) (x_append rfl rfl rfl hr90) (fun _ => ⟨hst92.rle', hst92.g 1⟩) ?_
  refine LA_all [16] (by decide +kernel) (by simp) ?_
  intro i_ hi_
  simp only [List.mem_cons, List.not_mem_nil, or_false] at hi_
  subst hi_
  obtain ⟨v97, c98, w99, hr100, ho101, hst102⟩ := run_appendM (P := Try.prog) (tt := 85) sl_85 ti_103 rfl ho91 hst92 (RdS.dropK (k := ((posM xs k) + 1)) (RdS.mono hL (Le.refl _)) (by omega)) hst92.rle' (by simp only [List.length_append, List.length_take, List.length_drop, List.length_cons, List.length_nil]; omega) (by simp only [List.length_append, List.length_take, List.length_drop, List.length_cons, List.length_nil, maxLen]; omega)
  refine One_val (i := 16) (v := v97) rfl rfl rfl (Want.plain rfl) (x_append rfl rfl rfl hr100) (fun _ => ⟨hst102.rle', hst102.g 1⟩) ?_
  refine LP (ptr m 0) 17 rfl rfl rfl (fun u104 => rfl) ⟨hst102.rle', hst102.g 1⟩ ?_
  refine LP (ptr m 2) 18 rfl rfl rfl (fun u107 => (by kernel_rfl)) ⟨hst102.rle', hst102.g 1⟩ ?_
  refine LA_all [19] (by decide +kernel) (by simp) ?_
  intro i_ hi_
  simp only [List.mem_cons, List.not_mem_nil, or_false] at hi_
  subst hi_
  obtain ⟨a110, cap111, e112, hc113⟩ := ho101.value
  subst e112
  obtain ⟨w114, hr116, hst115⟩ := run_storeW (P := Try.prog) (b := m) (off := 2) (v := (.slice a110 (((([] : List Mo) ++ (List.take (posM xs k) xs)) ++ (List.drop ((posM xs k) + 1) xs)).length) cap111)) hst102 1 ti_85 rfl rfl rfl rfl rfl rfl
  change Step _ _ _ _ _ [c98, one m (.cells #[vF, vC, (.slice a110 (((([] : List Mo) ++ (List.take (posM xs k) xs)) ++ (List.drop ((posM xs k) + 1) xs)).length) cap111)] 87 (0, 0)), cF, cC] at hst115
  refine One_skip (i := 19) rfl rfl (Want.plain rfl) (x_store rfl rfl rfl hr116) (fun h => absurd h (by decide +kernel)) ?_
  refine LA_done (by decide +kernel) ?_
  refine W_seq ?_
  refine W_region_lit ?_
  refine Lq (.bool true) rfl rfl rfl rfl ?_
  refine L_nil ?_
  refine W_ret ?_
  refine ⟨_, _, res_run (rs := [.tmp 4]) (vs := [(.bool true)]) Try.results32 (.cons (.tmp rfl) .nil) rfl, ?_⟩
  have hg1 : (AL.get s.mods k).isSome = true := by rw [← thrM_mods hsr hag]; exact hth
  obtain ⟨R117, hst118, hle119, hc120⟩ := Step.frz hst115
  have hm121 := OwnL.mono hF hle119
  have hm122 := OwnL.mono hC hle119
  have hrd123 := OwnL.freeze ho101 hle119 hc120
  obtain ⟨c', hst', hreg'⟩ := RegR.close (s := s.remove k) (F := F) (C := C) (xs := delM xs k) (((hst118.front 2 rfl rfl).front 2 rfl rfl).front 2 rfl rfl) hm121 hm122 hrd123 (delM_get hsr hth).1 (AgrM.remove hsr hag hok hth) hav hf hc (hok.remove k) (hkn.remove hok k)
  exact ⟨_, _, _, rfl, hst'.keepN 1 rfl, c', (by rw [hg1]; rfl), rfl, hreg'⟩
 ·
  have hpl := posM_le xs k
  refine W_region_lit ?_
  refine Lq (.bool (thrM xs k)) rfl rfl rfl rfl ?_
  refine Lq (.bool (!(thrM xs k))) rfl rfl rfl rfl ?_
  refine L_nil ?_
  refine W_cond_true (by show Value.bool _ = _; exact congrArg Value.bool (by rw [hth]; rfl)) ?_
  refine W_seq ?_
  refine W_region_lit ?_
  refine Lq (.bool false) rfl rfl rfl rfl ?_
  refine L_nil ?_
  refine W_ret ?_
  refine ⟨_, _, res_run (rs := [.tmp 4]) (vs := [(.bool false)]) Try.results32 (.cons (.tmp rfl) .nil) rfl, ?_⟩
  have hg0 : (AL.get s.mods k).isSome = false := by rw [← thrM_mods hsr hag]; exact hth
  rw [remove_none hg0]
  obtain ⟨c', hst', hreg'⟩ := RegR.close (s := s) (F := F) (C := C) (xs := xs) (((hst2.front 2 rfl rfl).front 2 rfl rfl).front 2 rfl rfl) hF hC hL hsr hag hav hf hc hok hkn
  exact ⟨_, _, _, rfl, hst'.keepN 1 rfl, c', (by rw [hg0]; rfl), rfl, hreg'⟩

end Go.Fx.Ytlfabjfajcbdcaa
