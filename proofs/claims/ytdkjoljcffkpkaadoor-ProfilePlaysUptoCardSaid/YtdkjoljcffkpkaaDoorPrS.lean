/-
  Chapter 14: the sorting of places, printed by genq.py
-/
import Derived.Test.YtdkjoljcffkpkaaDoorPrK
set_option linter.unusedSimpArgs false
set_option linter.unusedVariables false
namespace Go.Fx.YtdkjoljcffkpkaaDoor
open Go Go.Fx Go.Proofs
set_option maxRecDepth 20000

theorem ent_37 : Ent Tryd.prog 37 := fun _ _ => by kernel_rfl
theorem ent_38 : Ent Tryd.prog 38 := fun _ _ => by kernel_rfl
theorem ent_62 : Ent Tryd.prog 62 := fun _ _ => by kernel_rfl
theorem ent_63 : Ent Tryd.prog 63 := fun _ _ => by kernel_rfl
theorem ent_67 : Ent Tryd.prog 67 := fun _ _ => by kernel_rfl
theorem sl_76 : SL Tryd.prog 76 43 := Tryd.underlying76
theorem sl_97 : SL Tryd.prog 97 3 := Tryd.underlying97

theorem Or_spec {w : World} {R : Hp} {v : Value} {xs : List Int} (hR : Le R (hp w)) (hv : RdS Ty.int R v xs) (hx : xs.length ≤ 4611686018427387904) :
    Calls Tryd.prog 37 #[v] w fun e w' => e = .returned (int (orF xs)) ∧ Grow w w' := by
 have hst := Step.ro hR
 refine calls_of_W (n := 18) Tryd.func37 rfl Tryd.ntmps37 (Nat.le_of_ble_eq_true rfl) ?_
 refine W_seq ?_
 refine W_region_lit ?_
 refine Lq (int 0) rfl rfl rfl rfl ?_
 refine L_nil ?_
 refine W_seq ?_
 refine W_region_lit ?_
 refine Lq (int 0) rfl rfl rfl rfl ?_
 refine L_nil ?_
 refine W_seq ?_
 refine W_seq ?_
 refine W_region_lit ?_
 refine Lq v rfl rfl rfl rfl ?_
 obtain ⟨a1, cap2, e3, hc4⟩ := hv.shape
 subst e3
 refine Lq (int (xs.length : Int)) rfl rfl rfl (x_len_slice rfl sl_97 rfl) ?_
 refine Lq (int 0) rfl rfl rfl rfl ?_
 refine L_nil ?_
 refine W_block ?_
 refine W_loop (I := fun σ w_ m_ => ∃ (σ0 : Fr) (k_ : Nat), σ = upd (upd (upd (upd (upd σ0 0 (.slice a1 xs.length cap2)) 3 (int 0)) 6 (.slice a1 xs.length cap2)) 7 (int (xs.length : Int))) 8 (int (k_ : Int)) ∧ mks (σ0 0) = [] ∧ Step w R [] w_ R [] ∧ k_ ≤ xs.length ∧ orF (xs.drop k_) = orF xs ∧ m_ = xs.length - k_) (m := xs.length - 0) ?_ ?_
 ·
  exact ⟨_, 0, (upd_of (upd_of (upd_of (upd_of (upd_of rfl rfl) rfl) rfl) rfl) rfl), rfl, hst, (by omega), rfl, rfl⟩
 ·
  rintro m13 σ_ w7 ⟨s11, k_12, rfl, hmk5, hst6, hf9, hf10, rfl⟩
  refine W_seq ?_
  refine W_region_lit ?_
  refine Lq (.bool (decide ((k_12 : Int) < (xs.length : Int)))) rfl rfl rfl (by kernel_rfl) ?_
  refine L_nil ?_
  refine W_seq ?_
  rcases Bool.eq_false_or_eq_true (decide ((k_12 : Int) < (xs.length : Int))) with c14 | c14
  ·
   have q15 := of_decide_eq_true c14
   refine W_cond_true (by show Value.bool _ = _; exact congrArg Value.bool c14) ?_
   refine W_skip ?_
   refine W_seq ?_
   refine W_block ?_
   refine W_seq ?_
   refine W_region_lit ?_
   obtain ⟨b16, off17, cap18, cs19, T20, fz21, e22, hc23, hb24, he25⟩ := hv.open (by omega)
   cases e22
   obtain ⟨cl26, hs27, hr28⟩ := he25.at k_12 (by omega)
   have hx29 : cl26 = [.int .i64 (xs[k_12]'(by omega))] := hr28
   subst hx29
   refine Lq (ptr b16 (off17 + k_12 * 1)) rfl rfl rfl (x_indexAddr' rfl sl_97 ti_3 rfl rfl (by omega)) ?_
   refine Lq (int (xs[k_12]'(by omega))) rfl rfl rfl (x_load rfl rfl (run_loadVar_one ti_3 (hst6.rle' _ _ hb24) (seg_get (j := 0) hs27 rfl))) ?_
   refine Lq (int (xs[k_12]'(by omega))) rfl rfl rfl rfl ?_
   refine L_nil ?_
   refine W_seq ?_
   refine W_region_lit ?_
   refine Lq (int (xs[k_12]'(by omega))) rfl rfl rfl rfl ?_
   refine Lq (int 0) rfl rfl rfl rfl ?_
   refine Lq (.bool ((xs[k_12]'(by omega)) != 0)) rfl rfl rfl (by kernel_rfl) ?_
   refine L_nil ?_
   rcases Bool.eq_false_or_eq_true ((xs[k_12]'(by omega)) != 0) with c30 | c30
   ·
    have q31 : ¬ (xs[k_12]'(by omega)) = 0 := by simpa using c30
    refine W_cond_true (by show Value.bool _ = _; exact congrArg Value.bool c30) ?_
    refine W_seq ?_
    refine W_region_lit ?_
    refine Lq (int (xs[k_12]'(by omega))) rfl rfl rfl rfl ?_
    refine Lq (int (xs[k_12]'(by omega))) rfl rfl rfl rfl ?_
    refine L_nil ?_
    refine W_ret ?_
    refine ⟨_, _, res_run (rs := [.tmp 2]) (vs := [(int (xs[k_12]'(by omega)))]) Tryd.results37 (.cons (.tmp rfl) .nil) hmk5, ?_⟩
    exact ⟨ret_int (orF_yes (by omega) hf10 (by simpa using c30)), hst6.grow⟩
   ·
    have q32 : (xs[k_12]'(by omega)) = 0 := by simpa using c30
    refine W_cond_false (by show Value.bool _ = _; exact congrArg Value.bool c30) ?_
    refine W_skip ?_
    refine W_region_lit ?_
    refine Lq (int ((k_12 + 1 : Nat) : Int)) rfl rfl rfl (x_add_nat rfl rfl rfl (by omega)) ?_
    refine Lq (int ((k_12 + 1 : Nat) : Int)) rfl rfl rfl rfl ?_
    refine L_nil ?_
    refine ⟨xs.length - (k_12 + 1), by first | omega | (simp only [List.length_append, List.length_cons, List.length_nil]; omega), ?_⟩
    exact ⟨_, (k_12 + 1), (upd_of (upd_of (upd_of (upd_of (upd_of rfl rfl) rfl) rfl) rfl) rfl), hmk5, hst6, (by omega), (orF_no (by omega) hf10 (by simpa using c30)), rfl⟩
  ·
   have q33 := of_decide_eq_false c14
   refine W_cond_false (by show Value.bool _ = _; exact congrArg Value.bool c14) ?_
   refine W_exit ?_
   refine W_seq ?_
   refine W_region_lit ?_
   refine Lq (int 0) rfl rfl rfl rfl ?_
   refine Lq (int 0) rfl rfl rfl rfl ?_
   refine L_nil ?_
   refine W_ret ?_
   refine ⟨_, _, res_run (rs := [.tmp 2]) (vs := [(int 0)]) Tryd.results37 (.cons (.tmp rfl) .nil) hmk5, ?_⟩
   exact ⟨ret_int (orF_end (by omega) hf10), hst6.grow⟩

theorem Text1_spec {w : World} {R : Hp} (a b : Pl) (hR : Le R (hp w)) :
    Calls Tryd.prog 36 (#[kk a, kk b] ++ #[]) w fun e w' => e = .returned (int (cmpP a b)) ∧ Grow w w' := by
 have hst := Step.ro hR
 refine calls_of_W (n := 17) Tryd.func36 rfl Tryd.ntmps36 (Nat.le_of_ble_eq_true rfl) ?_
 refine W_seq ?_
 refine W_region_lit ?_
 refine L_new hst (v := fun b => ptr b 0) (ob := .cells #[(int a.1), (int a.2)] 43 (0, 0)) rfl rfl rfl (by kernel_rfl) (fun b1 w2 hst3 => ?_)
 refine L_new hst3 (v := fun b => ptr b 0) (ob := .cells #[(int b.1), (int b.2)] 43 (0, 0)) rfl rfl rfl (by kernel_rfl) (fun b4 w5 hst6 => ?_)
 refine Lq (int 0) rfl rfl rfl rfl ?_
 refine L_nil ?_
 refine W_seq ?_
 refine W_region_draw [] (fun w => Le R (hp w) ∧ Le (one b4 (.cells #[(int b.1), (int b.2)] 43 (0, 0))) (hp w) ∧ Le (one b1 (.cells #[(int a.1), (int a.2)] 43 (0, 0))) (hp w)) hmix (by decide +kernel) (fun _ _ h => h) ?_
 have hst8 := hst6.draws (w5.drawn + 1)
 generalize draws w5 (w5.drawn + 1) = w7 at hst8 ⊢
 refine LP (ptr b1 0) 0 rfl rfl rfl (fun u10 => (by kernel_rfl)) hst8.a2 ?_
 refine LT (int a.1) 1 rfl rfl rfl (fun u13 hF14 => (x_load rfl rfl (run_loadVar_one ti_3 (hF14.2.2 _ _ (one_self _ _)) rfl))) hst8.a2 ?_
 refine LP (ptr b4 0) 2 rfl rfl rfl (fun u16 => (by kernel_rfl)) hst8.a2 ?_
 refine LT (int b.1) 3 rfl rfl rfl (fun u19 hF20 => (x_load rfl rfl (run_loadVar_one ti_3 (hF20.2.1 _ _ (one_self _ _)) rfl))) hst8.a2 ?_
 refine LP (ptr b1 1) 5 rfl rfl rfl (fun u24 => (by kernel_rfl)) hst8.a2 ?_
 refine LT (int a.2) 6 rfl rfl rfl (fun u29 hF30 => (x_load rfl rfl (run_loadVar_one ti_3 (hF30.2.2 _ _ (one_self _ _)) rfl))) hst8.a2 ?_
 refine LP (ptr b4 1) 7 rfl rfl rfl (fun u34 => (by kernel_rfl)) hst8.a2 ?_
 refine LT (int b.2) 8 rfl rfl rfl (fun u39 hF40 => (x_load rfl rfl (run_loadVar_one ti_3 (hF40.2.1 _ _ (one_self _ _)) rfl))) hst8.a2 ?_
 refine LA_all [4] (by decide +kernel) (by simp) ?_
 intro i_ hi_
 simp only [List.mem_cons, List.not_mem_nil, or_false] at hi_
 subst hi_
 refine One_call (i := 4) rfl rfl rfl (Want.plain rfl) (x_call (vs := #[(int a.1), (int b.1)]) rfl rfl (by kernel_rfl) ent_38) (Compare_G a.1 b.1) ?_
 rintro e46 w44 ⟨rfl, hw47⟩
 have hst45 := hst8.grown hw47
 refine ⟨_, rfl, (fun _ => hst45.a2), ?_⟩
 refine LA_all [9] (by decide +kernel) (by simp) ?_
 intro i_ hi_
 simp only [List.mem_cons, List.not_mem_nil, or_false] at hi_
 subst hi_
 refine One_call (i := 9) rfl rfl rfl (Want.plain rfl) (x_call (vs := #[(int a.2), (int b.2)]) rfl rfl (by kernel_rfl) ent_38) (Compare_G a.2 b.2) ?_
 rintro e53 w51 ⟨rfl, hw54⟩
 have hst52 := hst45.grown hw54
 refine ⟨_, rfl, (fun _ => hst52.a2), ?_⟩
 refine LA_all [10] (by decide +kernel) (by simp) ?_
 intro i_ hi_
 simp only [List.mem_cons, List.not_mem_nil, or_false] at hi_
 subst hi_
 refine One_new hst52 (i := 10) (v := fun b => .slice (some ⟨b, 0, none⟩) 2 2) (ob := .cells #[(int (Lib.compareInt a.1 b.1)), (int (Lib.compareInt a.2 b.2))] 3 (0, 0)) rfl rfl rfl (Want.plain rfl) (by kernel_rfl) (fun b58 w59 hst60 => ?_)
 refine ⟨(fun _ => ⟨hst60.rle', hst60.g 1, hst60.g 2⟩), ?_⟩
 refine LA_all [11] (by decide +kernel) (by simp) ?_
 intro i_ hi_
 simp only [List.mem_cons, List.not_mem_nil, or_false] at hi_
 subst hi_
 have hrd64 : RdS Ty.int (hp w59) (.slice (some ⟨b58, 0, none⟩) 2 2) [Lib.compareInt a.1 b.1, Lib.compareInt a.2 b.2] := OwnL.freeze (OwnL.lit (T := 3) (cs := [(int (Lib.compareInt a.1 b.1)), (int (Lib.compareInt a.2 b.2))]) (Encs.cons (t := Ty.int) (c := [_]) rfl (Encs.cons (t := Ty.int) (c := [_]) rfl Encs.nil)) rfl (Nat.le_of_ble_eq_true rfl)) hst60.rle' (hst60.g 0)
 refine One_call (i := 11) rfl rfl rfl (Want.plain rfl) (x_call (vs := #[(.slice (some ⟨b58, 0, none⟩) 2 2)]) rfl rfl (by kernel_rfl) ent_37) (Or_spec (Le.refl _) hrd64 (by simp)) ?_
 rintro e67 w65 ⟨rfl, hw68⟩
 have hst66 := hst60.grown hw68
 refine ⟨_, rfl, (fun _ => ⟨hst66.rle', hst66.g 1, hst66.g 2⟩), ?_⟩
 refine LP (int (orF [Lib.compareInt a.1 b.1, Lib.compareInt a.2 b.2])) 12 rfl rfl rfl (fun u70 => rfl) ⟨hst66.rle', hst66.g 1, hst66.g 2⟩ ?_
 refine LA_done (by decide +kernel) ?_
 refine W_ret ?_
 refine ⟨_, _, res_run (rs := [.tmp 4]) (vs := [(int (orF [Lib.compareInt a.1 b.1, Lib.compareInt a.2 b.2]))]) Tryd.results36 (.cons (.tmp rfl) .nil) rfl, ?_⟩
 exact ⟨rfl, hst66.grow⟩

theorem insertionSortP_spec {w : World} {R c : Hp} {b cap N : Nat} {xs : List Pl} (hs : Sats w R [c]) (hlen : xs.length ≤ 12) (hrow : Row tyPl 43 b N R xs c) {g : Nat} {cb : Array Value} (eg : Ent Tryd.prog g) (hcmp : ∀ w1 x y, Le R (hp w1) → Calls Tryd.prog g (#[kk x, kk y] ++ cb) w1 fun e w' => e = .returned (int (cmpP x y)) ∧ Grow w1 w') :
    Calls Tryd.prog 67 #[.slice (some ⟨b, 0, none⟩) xs.length cap, int 0, int (xs.length : Int), .func (.func g) #[] cb] w (Comes' w R [c] fun v' R' L' => v' = .tuple #[] ∧ ∃ c' ys, L' = [c'] ∧ ys.Perm xs ∧ Row tyPl 43 b N R' ys c' ∧ SortedTo leP ys ys.length) := by
 have hst := Step.refl hs
 refine calls_of_W (n := 53) Tryd.func67 rfl Tryd.ntmps67 (Nat.le_of_ble_eq_true rfl) ?_
 refine W_seq ?_
 refine W_region_lit ?_
 refine Lq (int 0) rfl rfl rfl rfl ?_
 refine Lq (int 1) rfl rfl rfl (by kernel_rfl) ?_
 refine Lq (int 1) rfl rfl rfl rfl ?_
 refine L_nil ?_
 refine W_block ?_
 refine W_loop (I := fun σ w_ m_ => ∃ (σ0 : Fr) (i_ : Nat) (ys : List Pl) (cr : Hp), σ = upd (upd (upd (upd (upd (upd (upd σ0 0 (.slice (some ⟨b, 0, none⟩) xs.length cap)) 1 (int 0)) 2 (int (xs.length : Int))) 3 (.func (.func g) #[] cb)) 8 (int (i_ : Int))) 10 (int 0)) 11 (int 1) ∧ mks (σ0 0) = [] ∧ Step w R [c] w_ R [cr] ∧ Row tyPl 43 b N R ys cr ∧ 1 ≤ i_ ∧ ys.length = xs.length ∧ ys.Perm xs ∧ SortedTo leP ys i_ ∧ (i_ ≤ xs.length ∨ i_ = 1) ∧ m_ = xs.length + 1 - i_) (m := xs.length + 1 - 1) ?_ ?_
 ·
  exact ⟨_, 1, xs, c, (upd_of (upd_of (upd_of (upd_of (upd_of (upd_of (upd_of rfl rfl) rfl) rfl) rfl) rfl) rfl) rfl), rfl, hst, hrow, (by omega), rfl, (List.Perm.refl _), (SortedTo.one _ _), (by omega), rfl⟩
 ·
  rintro m15 σ_ w3 ⟨s11, i_12, ys13, cr14, rfl, hmk1, hst2, hi5, hf6, hf7, hf8, hf9, hf10, rfl⟩
  refine W_seq ?_
  refine W_seq ?_
  refine W_region_lit ?_
  refine Lq (int (i_12 : Int)) rfl rfl rfl rfl ?_
  refine Lq (int (xs.length : Int)) rfl rfl rfl rfl ?_
  refine Lq (.bool (decide ((i_12 : Int) < (xs.length : Int)))) rfl rfl rfl (by kernel_rfl) ?_
  refine L_nil ?_
  rcases Bool.eq_false_or_eq_true (decide ((i_12 : Int) < (xs.length : Int))) with c16 | c16
  ·
   have q17 := of_decide_eq_true c16
   refine W_cond_true (by show Value.bool _ = _; exact congrArg Value.bool c16) ?_
   refine W_skip ?_
   refine W_seq ?_
   refine W_block ?_
   refine W_seq ?_
   refine W_region_lit ?_
   refine Lq (int (i_12 : Int)) rfl rfl rfl rfl ?_
   refine Lq (int (i_12 : Int)) rfl rfl rfl rfl ?_
   refine L_nil ?_
   refine W_block ?_
   refine W_loop (I := fun σ w_ m_ => ∃ (σ0 : Fr) (j_ : Nat) (ys2 : List Pl) (cr : Hp), σ = upd (upd (upd (upd (upd (upd (upd (upd (upd (upd (upd (upd σ0 0 (.slice (some ⟨b, 0, none⟩) xs.length cap)) 1 (int 0)) 2 (int (xs.length : Int))) 3 (.func (.func g) #[] cb)) 8 (int (i_12 : Int))) 9 (int (j_ : Int))) 10 (int 0)) 11 (int 1)) 12 (int (i_12 : Int))) 13 (int (xs.length : Int))) 14 (.bool (decide ((i_12 : Int) < (xs.length : Int))))) 17 (int (i_12 : Int)) ∧ mks (σ0 0) = [] ∧ Step w R [c] w_ R [cr] ∧ Row tyPl 43 b N R ys2 cr ∧ j_ ≤ i_12 ∧ i_12 < xs.length ∧ ys2.length = xs.length ∧ ys2.Perm xs ∧ InsAt leP ys2 i_12 j_ ∧ m_ = 2 * j_) (m := 2 * i_12) ?_ ?_
   ·
    exact ⟨_, i_12, ys13, cr14, (upd_of (upd_of (upd_of (upd_of (upd_of (upd_of (upd_of (upd_of (upd_of (upd_of (upd_of (upd_of rfl rfl) rfl) rfl) rfl) rfl) rfl) rfl) rfl) rfl) rfl) rfl) rfl), hmk1, hst2, hi5, (by omega), (by omega), hf7, hf8, (InsAt.start hf9), rfl⟩
   ·
    rintro m32 σ_ w20 ⟨s28, j_29, ys230, cr31, rfl, hmk18, hst19, hi22, hf23, hf24, hf25, hf26, hf27, rfl⟩
    refine W_seq ?_
    refine W_seq ?_
    refine W_region_draw [] (fun w => Le R (hp w) ∧ Le cr31 (hp w)) hmix (by decide +kernel) (fun _ _ h => h) ?_
    have hst34 := hst19.draws (w20.drawn + 1)
    generalize draws w20 (w20.drawn + 1) = w33 at hst34 ⊢
    refine LP (int (j_29 : Int)) 0 rfl rfl rfl (fun u36 => rfl) hst34.a1 ?_
    refine LP (int 0) 1 rfl rfl rfl (fun u39 => rfl) hst34.a1 ?_
    refine LP (.bool (decide ((j_29 : Int) > 0))) 2 rfl rfl rfl (fun u42 => (by kernel_rfl)) hst34.a1 ?_
    refine LP (.bool (decide ((j_29 : Int) > 0))) 3 rfl rfl rfl (fun u45 => rfl) hst34.a1 ?_
    rcases Bool.eq_false_or_eq_true (decide ((j_29 : Int) > 0)) with c48 | c48
    ·
     have q49 := of_decide_eq_true c48
     refine LP (.func (.func g) #[] cb) 4 rfl rfl rfl (fun u51 => rfl) hst34.a1 ?_ (hw := (Want.of rfl rfl rfl rfl (by rw [c48]; rfl)))
     refine LP (.slice (some ⟨b, 0, none⟩) xs.length cap) 5 rfl rfl rfl (fun u54 => rfl) hst34.a1 ?_ (hw := (Want.of rfl rfl rfl rfl (by rw [c48]; rfl)))
     refine LP (int (j_29 : Int)) 6 rfl rfl rfl (fun u57 => rfl) hst34.a1 ?_ (hw := (Want.of rfl rfl rfl rfl (by rw [c48]; rfl)))
     obtain ⟨cl62, cs63, hr64, hcb65, hsg66⟩ := Row.at hi22 j_29 (by omega)
     obtain rfl := tyPl_open hr64
     refine LP (ptr b (0 + j_29 * 2)) 7 rfl rfl rfl (fun u60 => (x_indexAddr' rfl sl_76 ti_43 rfl rfl (by omega))) hst34.a1 ?_ (hw := (Want.of rfl rfl rfl rfl (by rw [c48]; rfl)))
     refine LT (.agg #[(int ((ys230[j_29]'(by omega)).1)), (int ((ys230[j_29]'(by omega)).2))]) 8 rfl rfl rfl (fun u68 hF69 => (x_load rfl rfl (run_loadVar_agg ti_43 (hF69.2 _ _ hcb65) hsg66 rfl))) hst34.a1 ?_ (hw := (Want.of rfl rfl rfl rfl (by rw [c48]; rfl)))
     refine LP (.slice (some ⟨b, 0, none⟩) xs.length cap) 9 rfl rfl rfl (fun u71 => rfl) hst34.a1 ?_ (hw := (Want.of rfl rfl rfl rfl (by rw [c48]; rfl)))
     refine LP (int (j_29 : Int)) 10 rfl rfl rfl (fun u74 => rfl) hst34.a1 ?_ (hw := (Want.of rfl rfl rfl rfl (by rw [c48]; rfl)))
     refine LP (int (((j_29 - 1) : Nat) : Int)) 11 rfl rfl rfl (fun u77 => (x_sub_nat rfl rfl rfl (by omega) (by omega))) hst34.a1 ?_ (hw := (Want.of rfl rfl rfl rfl (by rw [c48]; rfl)))
     obtain ⟨cl82, cs83, hr84, hcb85, hsg86⟩ := Row.at hi22 (j_29 - 1) (by omega)
     obtain rfl := tyPl_open hr84
     refine LP (ptr b (0 + (j_29 - 1) * 2)) 12 rfl rfl rfl (fun u80 => (x_indexAddr' rfl sl_76 ti_43 rfl rfl (by omega))) hst34.a1 ?_ (hw := (Want.of rfl rfl rfl rfl (by rw [c48]; rfl)))
     refine LT (.agg #[(int ((ys230[(j_29 - 1)]'(by omega)).1)), (int ((ys230[(j_29 - 1)]'(by omega)).2))]) 13 rfl rfl rfl (fun u88 hF89 => (x_load rfl rfl (run_loadVar_agg ti_43 (hF89.2 _ _ hcb85) hsg86 rfl))) hst34.a1 ?_ (hw := (Want.of rfl rfl rfl rfl (by rw [c48]; rfl)))
     refine LA_all [14] (by decide +kernel) (by simp) ?_
     intro i_ hi_
     simp only [List.mem_cons, List.not_mem_nil, or_false] at hi_
     subst hi_
     refine One_call (i := 14) rfl rfl rfl (Want.of rfl rfl rfl rfl (by rw [c48]; rfl)) (x_callv (vs := #[kk (ys230[j_29]'(by omega)), kk (ys230[(j_29 - 1)]'(by omega))] ++ cb) rfl rfl (by kernel_rfl) eg) (hcmp _ (ys230[j_29]'(by omega)) (ys230[(j_29 - 1)]'(by omega)) hst34.rle') ?_
     rintro e95 w93 ⟨rfl, hw96⟩
     have hst94 := hst34.grown hw96
     refine ⟨_, rfl, (fun _ => hst94.a1), ?_⟩
     refine LP (.bool (decide (cmpP (ys230[j_29]'(by omega)) (ys230[(j_29 - 1)]'(by omega)) < 0))) 15 rfl rfl rfl (fun u98 => (by kernel_rfl)) hst94.a1 ?_ (hw := (Want.of rfl rfl rfl rfl (by rw [c48]; rfl)))
     refine LP (.bool (decide (cmpP (ys230[j_29]'(by omega)) (ys230[(j_29 - 1)]'(by omega)) < 0))) 16 rfl rfl rfl (fun u101 => (x_pick rfl rfl (by rw [c48]; rfl))) hst94.a1 ?_
     refine LA_done (by decide +kernel) ?_
     rcases Bool.eq_false_or_eq_true (decide (cmpP (ys230[j_29]'(by omega)) (ys230[(j_29 - 1)]'(by omega)) < 0)) with c103 | c103
     ·
      have q104 := of_decide_eq_true c103
      refine W_cond_true (by show Value.bool _ = _; exact congrArg Value.bool c103) ?_
      refine W_skip ?_
      refine W_seq ?_
      refine W_block ?_
      refine W_region_draw [15, 17] (fun w => Le R (hp w) ∧ Le cr31 (hp w)) hmix (by decide +kernel) (fun _ _ h => h) ?_
      have hst106 := hst94.draws (w93.drawn + 1)
      generalize draws w93 (w93.drawn + 1) = w105 at hst106 ⊢
      refine LP (.slice (some ⟨b, 0, none⟩) xs.length cap) 0 rfl rfl rfl (fun u108 => rfl) hst106.a1 ?_
      refine LP (int (j_29 : Int)) 1 rfl rfl rfl (fun u111 => rfl) hst106.a1 ?_
      refine LP (.slice (some ⟨b, 0, none⟩) xs.length cap) 2 rfl rfl rfl (fun u114 => rfl) hst106.a1 ?_
      refine LP (int (j_29 : Int)) 3 rfl rfl rfl (fun u117 => rfl) hst106.a1 ?_
      refine LP (int (((j_29 - 1) : Nat) : Int)) 4 rfl rfl rfl (fun u120 => (x_sub_nat rfl rfl rfl (by omega) (by omega))) hst106.a1 ?_
      refine LP (.slice (some ⟨b, 0, none⟩) xs.length cap) 5 rfl rfl rfl (fun u123 => rfl) hst106.a1 ?_
      refine LP (int (j_29 : Int)) 6 rfl rfl rfl (fun u126 => rfl) hst106.a1 ?_
      refine LP (int (((j_29 - 1) : Nat) : Int)) 7 rfl rfl rfl (fun u129 => (x_sub_nat rfl rfl rfl (by omega) (by omega))) hst106.a1 ?_
      obtain ⟨cl134, cs135, hr136, hcb137, hsg138⟩ := Row.at hi22 (j_29 - 1) (by omega)
      obtain rfl := tyPl_open hr136
      refine LP (ptr b (0 + (j_29 - 1) * 2)) 8 rfl rfl rfl (fun u132 => (x_indexAddr' rfl sl_76 ti_43 rfl rfl (by omega))) hst106.a1 ?_
      refine LT (.agg #[(int ((ys230[(j_29 - 1)]'(by omega)).1)), (int ((ys230[(j_29 - 1)]'(by omega)).2))]) 9 rfl rfl rfl (fun u140 hF141 => (x_load rfl rfl (run_loadVar_agg ti_43 (hF141.2 _ _ hcb137) hsg138 rfl))) hst106.a1 ?_
      refine LP (.slice (some ⟨b, 0, none⟩) xs.length cap) 10 rfl rfl rfl (fun u143 => rfl) hst106.a1 ?_
      refine LP (int (j_29 : Int)) 11 rfl rfl rfl (fun u146 => rfl) hst106.a1 ?_
      obtain ⟨cl151, cs152, hr153, hcb154, hsg155⟩ := Row.at hi22 j_29 (by omega)
      obtain rfl := tyPl_open hr153
      refine LP (ptr b (0 + j_29 * 2)) 12 rfl rfl rfl (fun u149 => (x_indexAddr' rfl sl_76 ti_43 rfl rfl (by omega))) hst106.a1 ?_
      refine LT (.agg #[(int ((ys230[j_29]'(by omega)).1)), (int ((ys230[j_29]'(by omega)).2))]) 13 rfl rfl rfl (fun u157 hF158 => (x_load rfl rfl (run_loadVar_agg ti_43 (hF158.2 _ _ hcb154) hsg155 rfl))) hst106.a1 ?_
      obtain ⟨cl162, cs163, hr164, hcb165, hsg166⟩ := Row.at hi22 j_29 (by omega)
      obtain rfl := tyPl_open hr164
      refine LP (ptr b (0 + j_29 * 2)) 14 rfl rfl rfl (fun u160 => (x_indexAddr' rfl sl_76 ti_43 rfl rfl (by omega))) hst106.a1 ?_
      refine LA_all [15] (by decide +kernel) (by simp) ?_
      intro i_ hi_
      simp only [List.mem_cons, List.not_mem_nil, or_false] at hi_
      subst hi_
      obtain ⟨c168, w169, hr170, hrow171, hst172⟩ := Row.store (P := Tryd.prog) (v := (.agg #[(int ((ys230[(j_29 - 1)]'(by omega)).1)), (int ((ys230[(j_29 - 1)]'(by omega)).2))])) (y := (ys230[(j_29 - 1)]'(by omega))) hi22 hst106 ti_43 j_29 (by omega) (tyPl_mk' _ _)
      refine One_skip (i := 15) rfl rfl (Want.plain rfl) (x_store rfl rfl rfl hr170) (fun h => absurd h (by decide +kernel)) ?_
      obtain ⟨cl176, cs177, hr178, hcb179, hsg180⟩ := Row.at hrow171 (j_29 - 1) (by simp only [List.length_set]; omega)
      obtain rfl := tyPl_open hr178
      refine LA_takeP (v := (ptr b (0 + (j_29 - 1) * 2))) 16 rfl rfl rfl (by decide +kernel) (by decide +kernel) (by decide +kernel) (by decide +kernel) (fun _ _ _ h => h) (Want.plain rfl) (fun u174 => (x_indexAddr' rfl sl_76 ti_43 rfl rfl (by omega))) (fun h => absurd h (by decide +kernel)) ?_
      refine LA_all [17] (by decide +kernel) (by simp) ?_
      intro i_ hi_
      simp only [List.mem_cons, List.not_mem_nil, or_false] at hi_
      subst hi_
      obtain ⟨c182, w183, hr184, hrow185, hst186⟩ := Row.store (P := Tryd.prog) (v := (.agg #[(int ((ys230[j_29]'(by omega)).1)), (int ((ys230[j_29]'(by omega)).2))])) (y := (ys230[j_29]'(by omega))) hrow171 hst172 ti_43 (j_29 - 1) (by simp only [List.length_set]; omega) (tyPl_mk' _ _)
      refine One_skip (i := 17) rfl rfl (Want.plain rfl) (x_store rfl rfl rfl hr184) (fun h => absurd h (by decide +kernel)) ?_
      refine LA_done (by decide +kernel) ?_
      refine W_region_lit ?_
      refine Lq (int (j_29 : Int)) rfl rfl rfl rfl ?_
      refine Lq (int (((j_29 - 1) : Nat) : Int)) rfl rfl rfl (x_sub_nat rfl rfl rfl (by omega) (by omega)) ?_
      refine Lq (int (((j_29 - 1) : Nat) : Int)) rfl rfl rfl rfl ?_
      refine L_nil ?_
      refine ⟨2 * (j_29 - 1), by first | omega | (simp only [List.length_append, List.length_cons, List.length_nil]; omega), ?_⟩
      exact ⟨_, (j_29 - 1), ((ys230.set j_29 (ys230[(j_29 - 1)]'(by omega))).set (j_29 - 1) (ys230[j_29]'(by omega))), c182, (upd_of (upd_of (upd_of (upd_of (upd_of (upd_of (upd_of (upd_of (upd_of (upd_of (upd_of (upd_of rfl rfl) rfl) rfl) rfl) rfl) rfl) rfl) rfl) rfl) rfl) rfl) rfl), hmk18, hst186, hrow185, (by omega), (by omega), (by simp only [List.length_set]; omega), ((swap_perm (by omega) (by omega)).trans hf26), (InsAt.step hf27 (by omega) (by omega) (by omega) (le_of_lt (of_decide_eq_true c103))), rfl⟩
     ·
      have q187 := of_decide_eq_false c103
      refine W_cond_false (by show Value.bool _ = _; exact congrArg Value.bool c103) ?_
      refine W_exit ?_
      refine W_region_lit ?_
      refine Lq (int (i_12 : Int)) rfl rfl rfl rfl ?_
      refine Lq (int ((i_12 + 1 : Nat) : Int)) rfl rfl rfl (x_add_nat rfl rfl rfl (by omega)) ?_
      refine Lq (int ((i_12 + 1 : Nat) : Int)) rfl rfl rfl rfl ?_
      refine L_nil ?_
      refine ⟨xs.length + 1 - (i_12 + 1), by first | omega | (simp only [List.length_append, List.length_cons, List.length_nil]; omega), ?_⟩
      exact ⟨_, (i_12 + 1), ys230, cr31, (upd_of (upd_of (upd_of (upd_of (upd_of (upd_of (upd_of rfl rfl) rfl) rfl) rfl) rfl) rfl) rfl), hmk18, hst94, hi22, (by omega), hf25, hf26, (InsAt.stop hf27 (by omega) (by omega) leP_trans (le_of_nlt (of_decide_eq_false c103))), (by omega), rfl⟩
    ·
     have q188 := of_decide_eq_false c48
     refine LV 4 rfl rfl rfl hst34.a1 ?_ (hw := (Want.of rfl rfl rfl rfl (by rw [c48]; rfl)))
     refine LV 5 rfl rfl rfl hst34.a1 ?_ (hw := (Want.of rfl rfl rfl rfl (by rw [c48]; rfl)))
     refine LV 6 rfl rfl rfl hst34.a1 ?_ (hw := (Want.of rfl rfl rfl rfl (by rw [c48]; rfl)))
     refine LV 7 rfl rfl rfl hst34.a1 ?_ (hw := (Want.of rfl rfl rfl rfl (by rw [c48]; rfl)))
     refine LV 8 rfl rfl rfl hst34.a1 ?_ (hw := (Want.of rfl rfl rfl rfl (by rw [c48]; rfl)))
     refine LV 9 rfl rfl rfl hst34.a1 ?_ (hw := (Want.of rfl rfl rfl rfl (by rw [c48]; rfl)))
     refine LV 10 rfl rfl rfl hst34.a1 ?_ (hw := (Want.of rfl rfl rfl rfl (by rw [c48]; rfl)))
     refine LV 11 rfl rfl rfl hst34.a1 ?_ (hw := (Want.of rfl rfl rfl rfl (by rw [c48]; rfl)))
     refine LV 12 rfl rfl rfl hst34.a1 ?_ (hw := (Want.of rfl rfl rfl rfl (by rw [c48]; rfl)))
     refine LV 13 rfl rfl rfl hst34.a1 ?_ (hw := (Want.of rfl rfl rfl rfl (by rw [c48]; rfl)))
     refine LV 14 rfl rfl rfl hst34.a1 ?_ (hw := (Want.of rfl rfl rfl rfl (by rw [c48]; rfl)))
     refine LV 15 rfl rfl rfl hst34.a1 ?_ (hw := (Want.of rfl rfl rfl rfl (by rw [c48]; rfl)))
     refine LP (.bool false) 16 rfl rfl rfl (fun u202 => (x_pick rfl rfl (by rw [c48]; rfl))) hst34.a1 ?_
     refine LA_done (by decide +kernel) ?_
     refine W_cond_false (by show Value.bool _ = _; exact congrArg Value.bool rfl) ?_
     refine W_exit ?_
     refine W_region_lit ?_
     refine Lq (int (i_12 : Int)) rfl rfl rfl rfl ?_
     refine Lq (int ((i_12 + 1 : Nat) : Int)) rfl rfl rfl (x_add_nat rfl rfl rfl (by omega)) ?_
     refine Lq (int ((i_12 + 1 : Nat) : Int)) rfl rfl rfl rfl ?_
     refine L_nil ?_
     refine ⟨xs.length + 1 - (i_12 + 1), by first | omega | (simp only [List.length_append, List.length_cons, List.length_nil]; omega), ?_⟩
     exact ⟨_, (i_12 + 1), ys230, cr31, (upd_of (upd_of (upd_of (upd_of (upd_of (upd_of (upd_of rfl rfl) rfl) rfl) rfl) rfl) rfl) rfl), hmk18, hst34, hi22, (by omega), hf25, hf26, (InsAt.stopz hf27 (by omega)), (by omega), rfl⟩
  ·
   have q204 := of_decide_eq_false c16
   refine W_cond_false (by show Value.bool _ = _; exact congrArg Value.bool c16) ?_
   refine W_exit ?_
   refine ⟨_, _, res_run (rs := []) (vs := []) Tryd.results67 .nil hmk1, ?_⟩
   exact ⟨_, R, [cr14], rfl, hst2, rfl, cr14, _, rfl, hf8, hi5, SortedTo.all hf9 (by omega)⟩

theorem pdqsortP_spec {w : World} {R c : Hp} {b cap N : Nat} {xs : List Pl} (hs : Sats w R [c]) (hlen : xs.length ≤ 12) (hrow : Row tyPl 43 b N R xs c) {g : Nat} {cb : Array Value} (eg : Ent Tryd.prog g) (hcmp : ∀ w1 x y, Le R (hp w1) → Calls Tryd.prog g (#[kk x, kk y] ++ cb) w1 fun e w' => e = .returned (int (cmpP x y)) ∧ Grow w1 w') (lim : Int) :
    Calls Tryd.prog 62 #[.slice (some ⟨b, 0, none⟩) xs.length cap, int 0, int (xs.length : Int), int lim, .func (.func g) #[] cb] w (Comes' w R [c] fun v' R' L' => v' = .tuple #[] ∧ ∃ c' ys, L' = [c'] ∧ ys.Perm xs ∧ Row tyPl 43 b N R' ys c' ∧ SortedTo leP ys ys.length) := by
 have hst := Step.refl hs
 refine calls_of_W (n := 148) Tryd.func62 rfl Tryd.ntmps62 (Nat.le_of_ble_eq_true rfl) ?_
 refine W_seq ?_
 refine W_region_lit ?_
 refine Lq (.bool true) rfl rfl rfl rfl ?_
 refine L_nil ?_
 refine W_seq ?_
 refine W_region_lit ?_
 refine Lq (.bool true) rfl rfl rfl rfl ?_
 refine L_nil ?_
 refine W_block ?_
 refine W_loop_once ?_
 refine W_block ?_
 refine W_seq ?_
 refine W_region_lit ?_
 refine Lq (int (xs.length : Int)) rfl rfl rfl rfl ?_
 refine Lq (int 0) rfl rfl rfl rfl ?_
 refine Lq (int (((xs.length - 0) : Nat) : Int)) rfl rfl rfl (x_sub_nat rfl rfl rfl (by omega) (by omega)) ?_
 refine Lq (int (((xs.length - 0) : Nat) : Int)) rfl rfl rfl rfl ?_
 refine L_nil ?_
 refine W_seq ?_
 refine W_seq ?_
 refine W_region_lit ?_
 refine Lq (int (((xs.length - 0) : Nat) : Int)) rfl rfl rfl rfl ?_
 refine Lq (.bool (decide ((((xs.length - 0) : Nat) : Int) ≤ 12))) rfl rfl rfl (by kernel_rfl) ?_
 refine L_nil ?_
 have c1 : (decide ((((xs.length - 0) : Nat) : Int) ≤ 12)) = true := decide_eq_true (by omega)
 have q2 := of_decide_eq_true c1
 refine W_cond_true (by show Value.bool _ = _; exact congrArg Value.bool c1) ?_
 refine W_seq ?_
 refine W_region_lit ?_
 refine Lq (.slice (some ⟨b, 0, none⟩) xs.length cap) rfl rfl rfl rfl ?_
 refine Lq (int 0) rfl rfl rfl rfl ?_
 refine Lq (int (xs.length : Int)) rfl rfl rfl rfl ?_
 refine Lq (.func (.func g) #[] cb) rfl rfl rfl rfl ?_
 have hst3 := hst
 refine L_callS [c] [] hst3 rfl rfl rfl (x_call (vs := #[(.slice (some ⟨b, 0, none⟩) xs.length cap), (int 0), (int (xs.length : Int)), (.func (.func g) #[] cb)]) rfl rfl (by kernel_rfl) ent_67) (insertionSortP_spec (xs := xs) (hst3.sats.take 1 rfl) (by omega) hrow eg hcmp) (fun v4 w5 R6 L7 hp8 hle9 hst10 => ?_)
 obtain ⟨rfl, c11, ys12, rfl, hp13, hrow14, hsrt15⟩ := hp8
 refine L_nil ?_
 refine W_ret ?_
 refine ⟨_, _, res_run (rs := []) (vs := []) Tryd.results62 .nil rfl, ?_⟩
 exact ⟨_, _, [c11], rfl, hst10, rfl, c11, _, rfl, hp13, hrow14, hsrt15⟩

theorem SortFunc_spec {w : World} {R c : Hp} {b cap N : Nat} {xs : List Pl} (hs : Sats w R [c]) (hlen : xs.length ≤ 12) (hrow : Row tyPl 43 b N R xs c) {g : Nat} {cb : Array Value} (eg : Ent Tryd.prog g) (hcmp : ∀ w1 x y, Le R (hp w1) → Calls Tryd.prog g (#[kk x, kk y] ++ cb) w1 fun e w' => e = .returned (int (cmpP x y)) ∧ Grow w1 w') :
    Calls Tryd.prog 53 #[.slice (some ⟨b, 0, none⟩) xs.length cap, .func (.func g) #[] cb] w (Comes' w R [c] fun v' R' L' => v' = .tuple #[] ∧ ∃ c' ys, L' = [c'] ∧ ys.Perm xs ∧ Row tyPl 43 b N R' ys c' ∧ SortedTo leP ys ys.length) := by
 have hst := Step.refl hs
 refine calls_of_W (n := 14) Tryd.func53 rfl Tryd.ntmps53 (Nat.le_of_ble_eq_true rfl) ?_
 refine W_seq ?_
 refine W_region_lit ?_
 refine Lq (.slice (some ⟨b, 0, none⟩) xs.length cap) rfl rfl rfl rfl ?_
 refine Lq (int (xs.length : Int)) rfl rfl rfl (x_len_slice rfl sl_76 rfl) ?_
 refine Lq (int (xs.length : Int)) rfl rfl rfl rfl ?_
 refine L_nil ?_
 refine W_region_lit ?_
 refine Lq (.slice (some ⟨b, 0, none⟩) xs.length cap) rfl rfl rfl rfl ?_
 refine Lq (int (xs.length : Int)) rfl rfl rfl rfl ?_
 refine Lq (int (xs.length : Int)) rfl rfl rfl rfl ?_
 refine L_val (v := (.int .u64 (xs.length : Int))) (w' := w) rfl rfl rfl (x_conv12 rfl rfl hlen) ?_
 refine L_callG hst (v := (int (bl xs.length))) rfl rfl rfl (x_call (vs := #[(.int .u64 (xs.length : Int))]) rfl rfl (by kernel_rfl) ent_63) (Len_G (n := xs.length) (by omega)) (fun w1 hst2 => ?_)
 refine Lq (.func (.func g) #[] cb) rfl rfl rfl rfl ?_
 have hst3 := hst2
 refine L_callS [c] [] hst3 rfl rfl rfl (x_call (vs := #[(.slice (some ⟨b, 0, none⟩) xs.length cap), (int 0), (int (xs.length : Int)), (int (bl xs.length)), (.func (.func g) #[] cb)]) rfl rfl (by kernel_rfl) ent_62) (pdqsortP_spec (xs := xs) (hst3.sats.take 1 rfl) (by omega) hrow eg hcmp (bl xs.length)) (fun v4 w5 R6 L7 hp8 hle9 hst10 => ?_)
 obtain ⟨rfl, c11, ys12, rfl, hp13, hrow14, hsrt15⟩ := hp8
 refine L_nil ?_
 refine ⟨_, _, res_run (rs := []) (vs := []) Tryd.results53 .nil rfl, ?_⟩
 exact ⟨_, _, [c11], rfl, hst10, rfl, c11, _, rfl, hp13, hrow14, hsrt15⟩

end Go.Fx.YtdkjoljcffkpkaaDoor
