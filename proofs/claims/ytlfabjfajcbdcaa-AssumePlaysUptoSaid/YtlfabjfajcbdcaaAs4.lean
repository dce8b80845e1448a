/-
  Chapter 27: the sorting of ints, printed by gen4.py.
-/
import Derived.Test.YtlfabjfajcbdcaaAs3
import Derived.Test.YtlfabjfajcbdcaaFx14
set_option linter.unusedSimpArgs false
set_option linter.unusedVariables false
namespace Go.Fx.Ytlfabjfajcbdcaa
open Go Go.Fx Go.Proofs
set_option maxRecDepth 20000

theorem ent_51 : Ent Try.prog 51 := fun _ _ => by kernel_rfl
theorem ent_53 : Ent Try.prog 53 := fun _ _ => by kernel_rfl
theorem ent_63 : Ent Try.prog 63 := fun _ _ => by kernel_rfl
theorem ent_64 : Ent Try.prog 64 := fun _ _ => by kernel_rfl
theorem ent_70 : Ent Try.prog 70 := fun _ _ => by kernel_rfl
theorem ent_81 : Ent Try.prog 81 := fun _ _ => by kernel_rfl
theorem sl_31 : SL Try.prog 31 3 := Try.underlying31

theorem isNaN_spec {w : World} {R : Hp} (x : Int) (hR : Le R (hp w)) :
    Calls Try.prog 81 #[int x] w fun e w' => e = .returned (.bool false) ∧ Grow w w' := by
  have hst := Step.ro hR
  refine calls_of_W (n := 6) Try.func81 rfl Try.ntmps81 (Nat.le_of_ble_eq_true rfl) ?_
  refine W_seq ?_
  refine W_region_lit ?_
  refine L_val (v := (.bool false)) (w' := w) rfl rfl rfl rfl ?_
  refine L_nil ?_
  refine W_seq ?_
  refine W_region_lit ?_
  refine L_val (v := (.int .i64 x)) (w' := w) rfl rfl rfl rfl ?_
  refine L_val (v := (.int .i64 x)) (w' := w) rfl rfl rfl rfl ?_
  refine L_val (v := (.bool (x != x))) (w' := w) rfl rfl rfl (by kernel_rfl) ?_
  refine L_val (v := (.bool (x != x))) (w' := w) rfl rfl rfl rfl ?_
  refine L_nil ?_
  refine W_ret ?_
  refine ⟨_, _, res_run (rs := [.tmp 2]) (vs := [(.bool (x != x))]) Try.results81 (.cons (.tmp rfl) .nil) rfl, ?_⟩
  exact ⟨ret_bool (by simp), hst.grow⟩

theorem Less_spec {w : World} {R : Hp} (x y : Int) (hR : Le R (hp w)) :
    Calls Try.prog 70 #[int x, int y] w fun e w' => e = .returned (.bool (decide (x < y))) ∧ Grow w w' := by
  have hst := Step.ro hR
  refine calls_of_W (n := 17) Try.func70 rfl Try.ntmps70 (Nat.le_of_ble_eq_true rfl) ?_
  refine W_seq ?_
  refine W_region_lit ?_
  refine L_val (v := (.bool false)) (w' := w) rfl rfl rfl rfl ?_
  refine L_nil ?_
  refine W_seq ?_
  refine W_region_lit ?_
  refine L_val (v := (.int .i64 x)) (w' := w) rfl rfl rfl rfl ?_
  refine L_callG hst (v := (.bool false)) rfl rfl rfl (x_call (vs := #[(.int .i64 x)]) rfl rfl (by kernel_rfl) ent_81) (isNaN_spec x (Le.refl _)) (fun w1 hst2 => ?_)
  refine L_val (v := (.bool false)) (w' := w1) rfl rfl rfl rfl ?_
  refine L_unwanted rfl rfl rfl rfl rfl rfl rfl ?_
  refine L_unwanted rfl rfl rfl rfl rfl rfl rfl ?_
  refine L_unwanted rfl rfl rfl rfl rfl rfl rfl ?_
  refine L_val (v := (.bool false)) (w' := w1) rfl rfl rfl rfl ?_
  refine L_val (v := (.bool false)) (w' := w1) rfl rfl rfl rfl ?_
  refine L_guard rfl rfl rfl rfl rfl ?_
  refine L_val (v := (.int .i64 x)) (w' := w1) rfl rfl rfl rfl ?_
  refine L_guard rfl rfl rfl rfl rfl ?_
  refine L_val (v := (.int .i64 y)) (w' := w1) rfl rfl rfl rfl ?_
  refine L_guard rfl rfl rfl rfl rfl ?_
  refine L_val (v := (.bool (decide (x < y)))) (w' := w1) rfl rfl rfl (by kernel_rfl) ?_
  refine L_val (v := (.bool (decide (x < y)))) (w' := w1) rfl rfl rfl rfl ?_
  refine L_val (v := (.bool (decide (x < y)))) (w' := w1) rfl rfl rfl rfl ?_
  refine L_nil ?_
  refine W_ret ?_
  refine ⟨_, _, res_run (rs := [.tmp 4]) (vs := [(.bool (decide (x < y)))]) Try.results70 (.cons (.tmp rfl) .nil) rfl, ?_⟩
  exact ⟨ret_bool rfl, hst2.grow⟩

theorem insertionSort_spec {w : World} {R c : Hp} {b cap N : Nat} {xs : List Int} (hs : Sats w R [c]) (hlen : xs.length ≤ 4611686018427387904) (hrow : Row Ty.int 3 b N R xs c) :
    Calls Try.prog 64 #[.slice (some ⟨b, 0, none⟩) xs.length cap, int 0, int (xs.length : Int)] w (Comes' w R [c] fun v' R' L' => v' = .tuple #[] ∧ ∃ c' ys, L' = [c'] ∧ ys.Perm xs ∧ Row Ty.int 3 b N R' ys c' ∧ SortedTo leZ ys ys.length) := by
  have hst := Step.refl hs
  refine calls_of_W (n := 49) Try.func64 rfl Try.ntmps64 (Nat.le_of_ble_eq_true rfl) ?_
  refine W_seq ?_
  refine W_region_lit ?_
  refine L_val (v := (.int .i64 0)) (w' := w) rfl rfl rfl rfl ?_
  refine L_val (v := (.int .i64 1)) (w' := w) rfl rfl rfl (by kernel_rfl) ?_
  refine L_val (v := (.int .i64 1)) (w' := w) rfl rfl rfl rfl ?_
  refine L_nil ?_
  refine W_block ?_
  refine W_loop (I := fun σ w_ m_ => ∃ (σ0 : Fr) (i_ : Nat) (ys : List Int) (cr : Hp), σ = upd (upd (upd (upd (upd (upd σ0 0 (.slice (some ⟨b, 0, none⟩) xs.length cap)) 1 (.int .i64 0)) 2 (.int .i64 (xs.length : Int))) 6 (.int .i64 (i_ : Int))) 8 (.int .i64 0)) 9 (.int .i64 1) ∧ mks (σ0 0) = [] ∧ Step w R [c] w_ R [cr] ∧ Row Ty.int 3 b N R ys cr ∧ 1 ≤ i_ ∧ ys.length = xs.length ∧ ys.Perm xs ∧ SortedTo leZ ys i_ ∧ (i_ ≤ xs.length ∨ i_ = 1) ∧ m_ = xs.length + 1 - i_) (m := xs.length + 1 - 1) ?_ ?_
  · skip
    exact ⟨_, 1, xs, c, (upd_of (upd_of (upd_of (upd_of (upd_of (upd_of rfl rfl) rfl) rfl) rfl) rfl) rfl), rfl, hst, hrow, (by omega), rfl, (List.Perm.refl _), (SortedTo.one _ _), (by omega), rfl⟩
  · skip
    rintro m15 σ_ w3 ⟨s11, i_12, ys13, cr14, rfl, hmk1, hst2, hi5, hf6, hf7, hf8, hf9, hf10, rfl⟩
    refine W_seq ?_
    refine W_seq ?_
    refine W_region_lit ?_
    refine L_val (v := (.int .i64 (i_12 : Int))) (w' := w3) rfl rfl rfl rfl ?_
    refine L_val (v := (.int .i64 (xs.length : Int))) (w' := w3) rfl rfl rfl rfl ?_
    refine L_val (v := (.bool (decide ((i_12 : Int) < (xs.length : Int))))) (w' := w3) rfl rfl rfl (by kernel_rfl) ?_
    refine L_nil ?_
    rcases Bool.eq_false_or_eq_true (decide ((i_12 : Int) < (xs.length : Int))) with c16 | c16
    · skip
      have q17 := of_decide_eq_true c16
      refine W_cond_true (by show Value.bool _ = _; exact congrArg Value.bool c16) ?_
      refine W_skip ?_
      refine W_seq ?_
      refine W_block ?_
      refine W_seq ?_
      refine W_region_lit ?_
      refine L_val (v := (.int .i64 (i_12 : Int))) (w' := w3) rfl rfl rfl rfl ?_
      refine L_val (v := (.int .i64 (i_12 : Int))) (w' := w3) rfl rfl rfl rfl ?_
      refine L_nil ?_
      refine W_block ?_
      refine W_loop (I := fun σ w_ m_ => ∃ (σ0 : Fr) (j_ : Nat) (ys2 : List Int) (cr : Hp), σ = upd (upd (upd (upd (upd (upd (upd (upd (upd (upd (upd σ0 0 (.slice (some ⟨b, 0, none⟩) xs.length cap)) 1 (.int .i64 0)) 2 (.int .i64 (xs.length : Int))) 6 (.int .i64 (i_12 : Int))) 7 (.int .i64 (j_ : Int))) 8 (.int .i64 0)) 9 (.int .i64 1)) 10 (.int .i64 (i_12 : Int))) 11 (.int .i64 (xs.length : Int))) 12 (.bool (decide ((i_12 : Int) < (xs.length : Int))))) 15 (.int .i64 (i_12 : Int)) ∧ mks (σ0 0) = [] ∧ Step w R [c] w_ R [cr] ∧ Row Ty.int 3 b N R ys2 cr ∧ j_ ≤ i_12 ∧ i_12 < xs.length ∧ ys2.length = xs.length ∧ ys2.Perm xs ∧ InsAt leZ ys2 i_12 j_ ∧ m_ = 2 * j_) (m := 2 * i_12) ?_ ?_
      · skip
        exact ⟨_, i_12, ys13, cr14, (upd_of (upd_of (upd_of (upd_of (upd_of (upd_of (upd_of (upd_of (upd_of (upd_of (upd_of rfl rfl) rfl) rfl) rfl) rfl) rfl) rfl) rfl) rfl) rfl) rfl), hmk1, hst2, hi5, (by omega), (by omega), hf7, hf8, (InsAt.start hf9), rfl⟩
      · skip
        rintro m32 σ_ w20 ⟨s28, j_29, ys230, cr31, rfl, hmk18, hst19, hi22, hf23, hf24, hf25, hf26, hf27, rfl⟩
        refine W_seq ?_
        refine W_seq ?_
        refine W_region_draw [] (fun w => Le R (hp w) ∧ Le cr31 (hp w)) hmix (by decide +kernel) (fun _ _ h => h) ?_
        have hst34 := hst19.draws (w20.drawn + 1)
        generalize draws w20 (w20.drawn + 1) = w33 at hst34 ⊢
        refine LA_takeP (v := (.int .i64 (j_29 : Int))) 0 rfl rfl rfl (by decide +kernel) (by decide +kernel) (by decide +kernel) (by decide +kernel) (fun _ _ _ h => h) (Want.plain rfl) (fun u36 => rfl) (fun _ => ⟨hst34.rle', hst34.get (i := 0) rfl⟩) ?_
        refine LA_takeP (v := (.int .i64 0)) 1 rfl rfl rfl (by decide +kernel) (by decide +kernel) (by decide +kernel) (by decide +kernel) (fun _ _ _ h => h) (Want.plain rfl) (fun u39 => rfl) (fun _ => ⟨hst34.rle', hst34.get (i := 0) rfl⟩) ?_
        refine LA_takeP (v := (.bool (decide ((j_29 : Int) > 0)))) 2 rfl rfl rfl (by decide +kernel) (by decide +kernel) (by decide +kernel) (by decide +kernel) (fun _ _ _ h => h) (Want.plain rfl) (fun u42 => (by kernel_rfl)) (fun _ => ⟨hst34.rle', hst34.get (i := 0) rfl⟩) ?_
        refine LA_takeP (v := (.bool (decide ((j_29 : Int) > 0)))) 3 rfl rfl rfl (by decide +kernel) (by decide +kernel) (by decide +kernel) (by decide +kernel) (fun _ _ _ h => h) (Want.plain rfl) (fun u45 => rfl) (fun _ => ⟨hst34.rle', hst34.get (i := 0) rfl⟩) ?_
        rcases Bool.eq_false_or_eq_true (decide ((j_29 : Int) > 0)) with c48 | c48
        · skip
          have q49 := of_decide_eq_true c48
          refine LA_takeP (v := (.slice (some ⟨b, 0, none⟩) xs.length cap)) 4 rfl rfl rfl (by decide +kernel) (by decide +kernel) (by decide +kernel) (by decide +kernel) (fun _ _ _ h => h) (Want.of rfl rfl rfl rfl (by rw [c48]; rfl)) (fun u51 => rfl) (fun _ => ⟨hst34.rle', hst34.get (i := 0) rfl⟩) ?_
          refine LA_takeP (v := (.int .i64 (j_29 : Int))) 5 rfl rfl rfl (by decide +kernel) (by decide +kernel) (by decide +kernel) (by decide +kernel) (fun _ _ _ h => h) (Want.of rfl rfl rfl rfl (by rw [c48]; rfl)) (fun u54 => rfl) (fun _ => ⟨hst34.rle', hst34.get (i := 0) rfl⟩) ?_
          obtain ⟨cl59, cs60, hr61, hcb62, hsg63⟩ := Row.at hi22 j_29 (by omega)
          have hx64 : cl59 = [.int .i64 (ys230[j_29]'(by omega))] := hr61
          subst hx64
          refine LA_takeP (v := (ptr b (0 + j_29 * 1))) 6 rfl rfl rfl (by decide +kernel) (by decide +kernel) (by decide +kernel) (by decide +kernel) (fun _ _ _ h => h) (Want.of rfl rfl rfl rfl (by rw [c48]; rfl)) (fun u57 => (x_indexAddr' rfl sl_31 ti_3 rfl rfl (by omega))) (fun _ => ⟨hst34.rle', hst34.get (i := 0) rfl⟩) ?_
          refine LA_take (v := (.int .i64 (ys230[j_29]'(by omega)))) 7 rfl rfl rfl (by decide +kernel) (by decide +kernel) (by decide +kernel) (by decide +kernel) (by decide +kernel) (fun _ _ _ h => h) (Want.of rfl rfl rfl rfl (by rw [c48]; rfl)) (fun u66 hF67 => (x_load rfl rfl (run_loadVar_one ti_3 (hF67.2 _ _ hcb62) (seg_get (j := 0) hsg63 rfl)))) ⟨hst34.rle', hst34.get (i := 0) rfl⟩ ?_
          refine LA_takeP (v := (.slice (some ⟨b, 0, none⟩) xs.length cap)) 8 rfl rfl rfl (by decide +kernel) (by decide +kernel) (by decide +kernel) (by decide +kernel) (fun _ _ _ h => h) (Want.of rfl rfl rfl rfl (by rw [c48]; rfl)) (fun u69 => rfl) (fun _ => ⟨hst34.rle', hst34.get (i := 0) rfl⟩) ?_
          refine LA_takeP (v := (.int .i64 (j_29 : Int))) 9 rfl rfl rfl (by decide +kernel) (by decide +kernel) (by decide +kernel) (by decide +kernel) (fun _ _ _ h => h) (Want.of rfl rfl rfl rfl (by rw [c48]; rfl)) (fun u72 => rfl) (fun _ => ⟨hst34.rle', hst34.get (i := 0) rfl⟩) ?_
          refine LA_takeP (v := (.int .i64 (((j_29 - 1) : Nat) : Int))) 10 rfl rfl rfl (by decide +kernel) (by decide +kernel) (by decide +kernel) (by decide +kernel) (fun _ _ _ h => h) (Want.of rfl rfl rfl rfl (by rw [c48]; rfl)) (fun u75 => (x_sub_nat rfl rfl rfl (by omega) (by omega))) (fun _ => ⟨hst34.rle', hst34.get (i := 0) rfl⟩) ?_
          obtain ⟨cl80, cs81, hr82, hcb83, hsg84⟩ := Row.at hi22 (j_29 - 1) (by omega)
          have hx85 : cl80 = [.int .i64 (ys230[(j_29 - 1)]'(by omega))] := hr82
          subst hx85
          refine LA_takeP (v := (ptr b (0 + (j_29 - 1) * 1))) 11 rfl rfl rfl (by decide +kernel) (by decide +kernel) (by decide +kernel) (by decide +kernel) (fun _ _ _ h => h) (Want.of rfl rfl rfl rfl (by rw [c48]; rfl)) (fun u78 => (x_indexAddr' rfl sl_31 ti_3 rfl rfl (by omega))) (fun _ => ⟨hst34.rle', hst34.get (i := 0) rfl⟩) ?_
          refine LA_take (v := (.int .i64 (ys230[(j_29 - 1)]'(by omega)))) 12 rfl rfl rfl (by decide +kernel) (by decide +kernel) (by decide +kernel) (by decide +kernel) (by decide +kernel) (fun _ _ _ h => h) (Want.of rfl rfl rfl rfl (by rw [c48]; rfl)) (fun u87 hF88 => (x_load rfl rfl (run_loadVar_one ti_3 (hF88.2 _ _ hcb83) (seg_get (j := 0) hsg84 rfl)))) ⟨hst34.rle', hst34.get (i := 0) rfl⟩ ?_
          refine LA_all [13] (by decide +kernel) (by simp) ?_
          intro i_ hi_
          simp only [List.mem_cons, List.not_mem_nil, or_false] at hi_
          subst hi_
          refine One_call (i := 13) rfl rfl rfl (Want.of rfl rfl rfl rfl (by rw [c48]; rfl)) (x_call (vs := #[(.int .i64 (ys230[j_29]'(by omega))), (.int .i64 (ys230[(j_29 - 1)]'(by omega)))]) rfl rfl (by kernel_rfl) ent_70) (Less_spec (ys230[j_29]'(by omega)) (ys230[(j_29 - 1)]'(by omega)) (Le.refl _)) ?_
          rintro e94 w92 ⟨rfl, hw95⟩
          have hst93 := hst34.grown hw95
          refine ⟨_, rfl, (fun _ => ⟨hst93.rle', hst93.get (i := 0) rfl⟩), ?_⟩
          refine LA_takeP (v := (.bool (decide ((ys230[j_29]'(by omega)) < (ys230[(j_29 - 1)]'(by omega)))))) 14 rfl rfl rfl (by decide +kernel) (by decide +kernel) (by decide +kernel) (by decide +kernel) (fun _ _ _ h => h) (Want.plain rfl) (fun u97 => (x_pick rfl rfl (by rw [c48]; rfl))) (fun _ => ⟨hst93.rle', hst93.get (i := 0) rfl⟩) ?_
          refine LA_done (by decide +kernel) ?_
          rcases Bool.eq_false_or_eq_true (decide ((ys230[j_29]'(by omega)) < (ys230[(j_29 - 1)]'(by omega)))) with c99 | c99
          · skip
            have q100 := of_decide_eq_true c99
            refine W_cond_true (by show Value.bool _ = _; exact congrArg Value.bool c99) ?_
            refine W_skip ?_
            refine W_seq ?_
            refine W_block ?_
            refine W_region_draw [15, 17] (fun w => Le R (hp w) ∧ Le cr31 (hp w)) hmix (by decide +kernel) (fun _ _ h => h) ?_
            have hst102 := hst93.draws (w92.drawn + 1)
            generalize draws w92 (w92.drawn + 1) = w101 at hst102 ⊢
            refine LA_takeP (v := (.slice (some ⟨b, 0, none⟩) xs.length cap)) 0 rfl rfl rfl (by decide +kernel) (by decide +kernel) (by decide +kernel) (by decide +kernel) (fun _ _ _ h => h) (Want.plain rfl) (fun u104 => rfl) (fun _ => ⟨hst102.rle', hst102.get (i := 0) rfl⟩) ?_
            refine LA_takeP (v := (.int .i64 (j_29 : Int))) 1 rfl rfl rfl (by decide +kernel) (by decide +kernel) (by decide +kernel) (by decide +kernel) (fun _ _ _ h => h) (Want.plain rfl) (fun u107 => rfl) (fun _ => ⟨hst102.rle', hst102.get (i := 0) rfl⟩) ?_
            refine LA_takeP (v := (.slice (some ⟨b, 0, none⟩) xs.length cap)) 2 rfl rfl rfl (by decide +kernel) (by decide +kernel) (by decide +kernel) (by decide +kernel) (fun _ _ _ h => h) (Want.plain rfl) (fun u110 => rfl) (fun _ => ⟨hst102.rle', hst102.get (i := 0) rfl⟩) ?_
            refine LA_takeP (v := (.int .i64 (j_29 : Int))) 3 rfl rfl rfl (by decide +kernel) (by decide +kernel) (by decide +kernel) (by decide +kernel) (fun _ _ _ h => h) (Want.plain rfl) (fun u113 => rfl) (fun _ => ⟨hst102.rle', hst102.get (i := 0) rfl⟩) ?_
            refine LA_takeP (v := (.int .i64 (((j_29 - 1) : Nat) : Int))) 4 rfl rfl rfl (by decide +kernel) (by decide +kernel) (by decide +kernel) (by decide +kernel) (fun _ _ _ h => h) (Want.plain rfl) (fun u116 => (x_sub_nat rfl rfl rfl (by omega) (by omega))) (fun _ => ⟨hst102.rle', hst102.get (i := 0) rfl⟩) ?_
            refine LA_takeP (v := (.slice (some ⟨b, 0, none⟩) xs.length cap)) 5 rfl rfl rfl (by decide +kernel) (by decide +kernel) (by decide +kernel) (by decide +kernel) (fun _ _ _ h => h) (Want.plain rfl) (fun u119 => rfl) (fun _ => ⟨hst102.rle', hst102.get (i := 0) rfl⟩) ?_
            refine LA_takeP (v := (.int .i64 (j_29 : Int))) 6 rfl rfl rfl (by decide +kernel) (by decide +kernel) (by decide +kernel) (by decide +kernel) (fun _ _ _ h => h) (Want.plain rfl) (fun u122 => rfl) (fun _ => ⟨hst102.rle', hst102.get (i := 0) rfl⟩) ?_
            refine LA_takeP (v := (.int .i64 (((j_29 - 1) : Nat) : Int))) 7 rfl rfl rfl (by decide +kernel) (by decide +kernel) (by decide +kernel) (by decide +kernel) (fun _ _ _ h => h) (Want.plain rfl) (fun u125 => (x_sub_nat rfl rfl rfl (by omega) (by omega))) (fun _ => ⟨hst102.rle', hst102.get (i := 0) rfl⟩) ?_
            obtain ⟨cl130, cs131, hr132, hcb133, hsg134⟩ := Row.at hi22 (j_29 - 1) (by omega)
            have hx135 : cl130 = [.int .i64 (ys230[(j_29 - 1)]'(by omega))] := hr132
            subst hx135
            refine LA_takeP (v := (ptr b (0 + (j_29 - 1) * 1))) 8 rfl rfl rfl (by decide +kernel) (by decide +kernel) (by decide +kernel) (by decide +kernel) (fun _ _ _ h => h) (Want.plain rfl) (fun u128 => (x_indexAddr' rfl sl_31 ti_3 rfl rfl (by omega))) (fun _ => ⟨hst102.rle', hst102.get (i := 0) rfl⟩) ?_
            refine LA_take (v := (.int .i64 (ys230[(j_29 - 1)]'(by omega)))) 9 rfl rfl rfl (by decide +kernel) (by decide +kernel) (by decide +kernel) (by decide +kernel) (by decide +kernel) (fun _ _ _ h => h) (Want.plain rfl) (fun u137 hF138 => (x_load rfl rfl (run_loadVar_one ti_3 (hF138.2 _ _ hcb133) (seg_get (j := 0) hsg134 rfl)))) ⟨hst102.rle', hst102.get (i := 0) rfl⟩ ?_
            refine LA_takeP (v := (.slice (some ⟨b, 0, none⟩) xs.length cap)) 10 rfl rfl rfl (by decide +kernel) (by decide +kernel) (by decide +kernel) (by decide +kernel) (fun _ _ _ h => h) (Want.plain rfl) (fun u140 => rfl) (fun _ => ⟨hst102.rle', hst102.get (i := 0) rfl⟩) ?_
            refine LA_takeP (v := (.int .i64 (j_29 : Int))) 11 rfl rfl rfl (by decide +kernel) (by decide +kernel) (by decide +kernel) (by decide +kernel) (fun _ _ _ h => h) (Want.plain rfl) (fun u143 => rfl) (fun _ => ⟨hst102.rle', hst102.get (i := 0) rfl⟩) ?_
            obtain ⟨cl148, cs149, hr150, hcb151, hsg152⟩ := Row.at hi22 j_29 (by omega)
            have hx153 : cl148 = [.int .i64 (ys230[j_29]'(by omega))] := hr150
            subst hx153
            refine LA_takeP (v := (ptr b (0 + j_29 * 1))) 12 rfl rfl rfl (by decide +kernel) (by decide +kernel) (by decide +kernel) (by decide +kernel) (fun _ _ _ h => h) (Want.plain rfl) (fun u146 => (x_indexAddr' rfl sl_31 ti_3 rfl rfl (by omega))) (fun _ => ⟨hst102.rle', hst102.get (i := 0) rfl⟩) ?_
            refine LA_take (v := (.int .i64 (ys230[j_29]'(by omega)))) 13 rfl rfl rfl (by decide +kernel) (by decide +kernel) (by decide +kernel) (by decide +kernel) (by decide +kernel) (fun _ _ _ h => h) (Want.plain rfl) (fun u155 hF156 => (x_load rfl rfl (run_loadVar_one ti_3 (hF156.2 _ _ hcb151) (seg_get (j := 0) hsg152 rfl)))) ⟨hst102.rle', hst102.get (i := 0) rfl⟩ ?_
            obtain ⟨cl160, cs161, hr162, hcb163, hsg164⟩ := Row.at hi22 j_29 (by omega)
            have hx165 : cl160 = [.int .i64 (ys230[j_29]'(by omega))] := hr162
            subst hx165
            refine LA_takeP (v := (ptr b (0 + j_29 * 1))) 14 rfl rfl rfl (by decide +kernel) (by decide +kernel) (by decide +kernel) (by decide +kernel) (fun _ _ _ h => h) (Want.plain rfl) (fun u158 => (x_indexAddr' rfl sl_31 ti_3 rfl rfl (by omega))) (fun _ => ⟨hst102.rle', hst102.get (i := 0) rfl⟩) ?_
            refine LA_all [15] (by decide +kernel) (by simp) ?_
            intro i_ hi_
            simp only [List.mem_cons, List.not_mem_nil, or_false] at hi_
            subst hi_
            obtain ⟨c167, w168, hr169, hrow170, hst171⟩ := Row.store (P := Try.prog) (v := (.int .i64 (ys230[(j_29 - 1)]'(by omega)))) (y := (ys230[(j_29 - 1)]'(by omega))) hi22 hst102 ti_3 j_29 (by omega) rfl
            refine One_skip (i := 15) rfl rfl (Want.plain rfl) (x_store rfl rfl rfl hr169) (fun h => absurd h (by decide +kernel)) ?_
            obtain ⟨cl175, cs176, hr177, hcb178, hsg179⟩ := Row.at hrow170 (j_29 - 1) (by simp only [List.length_set]; omega)
            have hx180 : cl175 = [.int .i64 ((ys230.set j_29 (ys230[(j_29 - 1)]'(by omega)))[(j_29 - 1)]'(by simp only [List.length_set]; omega))] := hr177
            subst hx180
            refine LA_takeP (v := (ptr b (0 + (j_29 - 1) * 1))) 16 rfl rfl rfl (by decide +kernel) (by decide +kernel) (by decide +kernel) (by decide +kernel) (fun _ _ _ h => h) (Want.plain rfl) (fun u173 => (x_indexAddr' rfl sl_31 ti_3 rfl rfl (by omega))) (fun h => absurd h (by decide +kernel)) ?_
            refine LA_all [17] (by decide +kernel) (by simp) ?_
            intro i_ hi_
            simp only [List.mem_cons, List.not_mem_nil, or_false] at hi_
            subst hi_
            obtain ⟨c182, w183, hr184, hrow185, hst186⟩ := Row.store (P := Try.prog) (v := (.int .i64 (ys230[j_29]'(by omega)))) (y := (ys230[j_29]'(by omega))) hrow170 hst171 ti_3 (j_29 - 1) (by simp only [List.length_set]; omega) rfl
            refine One_skip (i := 17) rfl rfl (Want.plain rfl) (x_store rfl rfl rfl hr184) (fun h => absurd h (by decide +kernel)) ?_
            refine LA_done (by decide +kernel) ?_
            refine W_region_lit ?_
            refine L_val (v := (.int .i64 (j_29 : Int))) (w' := w183) rfl rfl rfl rfl ?_
            refine L_val (v := (.int .i64 (((j_29 - 1) : Nat) : Int))) (w' := w183) rfl rfl rfl (x_sub_nat rfl rfl rfl (by omega) (by omega)) ?_
            refine L_val (v := (.int .i64 (((j_29 - 1) : Nat) : Int))) (w' := w183) rfl rfl rfl rfl ?_
            refine L_nil ?_
            refine ⟨2 * (j_29 - 1), by first | omega | (simp only [List.length_append, List.length_cons, List.length_nil]; omega), ?_⟩
            exact ⟨_, (j_29 - 1), ((ys230.set j_29 (ys230[(j_29 - 1)]'(by omega))).set (j_29 - 1) (ys230[j_29]'(by omega))), c182, (upd_of (upd_of (upd_of (upd_of (upd_of (upd_of (upd_of (upd_of (upd_of (upd_of (upd_of rfl rfl) rfl) rfl) rfl) rfl) rfl) rfl) rfl) rfl) rfl) rfl), hmk18, hst186, hrow185, (by omega), (by omega), (by simp only [List.length_set]; omega), ((swap_perm (by omega) (by omega)).trans hf26), (InsAt.step hf27 (by omega) (by omega) (by omega) (by simp only [leZ, decide_eq_true_eq]; have := of_decide_eq_true c99; omega)), rfl⟩
          · skip
            have q187 := of_decide_eq_false c99
            refine W_cond_false (by show Value.bool _ = _; exact congrArg Value.bool c99) ?_
            refine W_exit ?_
            refine W_region_lit ?_
            refine L_val (v := (.int .i64 (i_12 : Int))) (w' := w92) rfl rfl rfl rfl ?_
            refine L_val (v := (.int .i64 ((i_12 + 1 : Nat) : Int))) (w' := w92) rfl rfl rfl (x_add_nat rfl rfl rfl (by omega)) ?_
            refine L_val (v := (.int .i64 ((i_12 + 1 : Nat) : Int))) (w' := w92) rfl rfl rfl rfl ?_
            refine L_nil ?_
            refine ⟨xs.length + 1 - (i_12 + 1), by first | omega | (simp only [List.length_append, List.length_cons, List.length_nil]; omega), ?_⟩
            exact ⟨_, (i_12 + 1), ys230, cr31, (upd_of (upd_of (upd_of (upd_of (upd_of (upd_of rfl rfl) rfl) rfl) rfl) rfl) rfl), hmk18, hst93, hi22, (by omega), hf25, hf26, (InsAt.stop hf27 (by omega) (by omega) leZ_trans (by simp only [leZ, decide_eq_true_eq]; have := of_decide_eq_false c99; omega)), (by omega), rfl⟩
        · skip
          have q188 := of_decide_eq_false c48
          refine LA_leaveP 4 rfl rfl rfl (by decide +kernel) (by decide +kernel) (by decide +kernel) (by decide +kernel) (fun _ _ _ h => h) (Want.of rfl rfl rfl rfl (by rw [c48]; rfl)) (fun _ => ⟨hst34.rle', hst34.get (i := 0) rfl⟩) ?_
          refine LA_leaveP 5 rfl rfl rfl (by decide +kernel) (by decide +kernel) (by decide +kernel) (by decide +kernel) (fun _ _ _ h => h) (Want.of rfl rfl rfl rfl (by rw [c48]; rfl)) (fun _ => ⟨hst34.rle', hst34.get (i := 0) rfl⟩) ?_
          refine LA_leaveP 6 rfl rfl rfl (by decide +kernel) (by decide +kernel) (by decide +kernel) (by decide +kernel) (fun _ _ _ h => h) (Want.of rfl rfl rfl rfl (by rw [c48]; rfl)) (fun _ => ⟨hst34.rle', hst34.get (i := 0) rfl⟩) ?_
          refine LA_leaveP 7 rfl rfl rfl (by decide +kernel) (by decide +kernel) (by decide +kernel) (by decide +kernel) (fun _ _ _ h => h) (Want.of rfl rfl rfl rfl (by rw [c48]; rfl)) (fun _ => ⟨hst34.rle', hst34.get (i := 0) rfl⟩) ?_
          refine LA_leaveP 8 rfl rfl rfl (by decide +kernel) (by decide +kernel) (by decide +kernel) (by decide +kernel) (fun _ _ _ h => h) (Want.of rfl rfl rfl rfl (by rw [c48]; rfl)) (fun _ => ⟨hst34.rle', hst34.get (i := 0) rfl⟩) ?_
          refine LA_leaveP 9 rfl rfl rfl (by decide +kernel) (by decide +kernel) (by decide +kernel) (by decide +kernel) (fun _ _ _ h => h) (Want.of rfl rfl rfl rfl (by rw [c48]; rfl)) (fun _ => ⟨hst34.rle', hst34.get (i := 0) rfl⟩) ?_
          refine LA_leaveP 10 rfl rfl rfl (by decide +kernel) (by decide +kernel) (by decide +kernel) (by decide +kernel) (fun _ _ _ h => h) (Want.of rfl rfl rfl rfl (by rw [c48]; rfl)) (fun _ => ⟨hst34.rle', hst34.get (i := 0) rfl⟩) ?_
          refine LA_leaveP 11 rfl rfl rfl (by decide +kernel) (by decide +kernel) (by decide +kernel) (by decide +kernel) (fun _ _ _ h => h) (Want.of rfl rfl rfl rfl (by rw [c48]; rfl)) (fun _ => ⟨hst34.rle', hst34.get (i := 0) rfl⟩) ?_
          refine LA_leaveP 12 rfl rfl rfl (by decide +kernel) (by decide +kernel) (by decide +kernel) (by decide +kernel) (fun _ _ _ h => h) (Want.of rfl rfl rfl rfl (by rw [c48]; rfl)) (fun _ => ⟨hst34.rle', hst34.get (i := 0) rfl⟩) ?_
          refine LA_leaveP 13 rfl rfl rfl (by decide +kernel) (by decide +kernel) (by decide +kernel) (by decide +kernel) (fun _ _ _ h => h) (Want.of rfl rfl rfl rfl (by rw [c48]; rfl)) (fun _ => ⟨hst34.rle', hst34.get (i := 0) rfl⟩) ?_
          refine LA_takeP (v := (.bool false)) 14 rfl rfl rfl (by decide +kernel) (by decide +kernel) (by decide +kernel) (by decide +kernel) (fun _ _ _ h => h) (Want.plain rfl) (fun u200 => (x_pick rfl rfl (by rw [c48]; rfl))) (fun _ => ⟨hst34.rle', hst34.get (i := 0) rfl⟩) ?_
          refine LA_done (by decide +kernel) ?_
          refine W_cond_false (by show Value.bool _ = _; exact congrArg Value.bool rfl) ?_
          refine W_exit ?_
          refine W_region_lit ?_
          refine L_val (v := (.int .i64 (i_12 : Int))) (w' := w33) rfl rfl rfl rfl ?_
          refine L_val (v := (.int .i64 ((i_12 + 1 : Nat) : Int))) (w' := w33) rfl rfl rfl (x_add_nat rfl rfl rfl (by omega)) ?_
          refine L_val (v := (.int .i64 ((i_12 + 1 : Nat) : Int))) (w' := w33) rfl rfl rfl rfl ?_
          refine L_nil ?_
          refine ⟨xs.length + 1 - (i_12 + 1), by first | omega | (simp only [List.length_append, List.length_cons, List.length_nil]; omega), ?_⟩
          exact ⟨_, (i_12 + 1), ys230, cr31, (upd_of (upd_of (upd_of (upd_of (upd_of (upd_of rfl rfl) rfl) rfl) rfl) rfl) rfl), hmk18, hst34, hi22, (by omega), hf25, hf26, (InsAt.stopz hf27 (by omega)), (by omega), rfl⟩
    · skip
      have q202 := of_decide_eq_false c16
      refine W_cond_false (by show Value.bool _ = _; exact congrArg Value.bool c16) ?_
      refine W_exit ?_
      refine ⟨_, _, res_run (rs := []) (vs := []) Try.results64 .nil hmk1, ?_⟩
      exact ⟨_, R, [cr14], rfl, hst2, rfl, cr14, _, rfl, hf8, hi5, SortedTo.all hf9 (by omega)⟩

theorem insertionSort_nil {w : World} {R : Hp} {v : Value} (hR : Le R (hp w)) :
    Calls Try.prog 64 #[v, int 0, int 0] w fun e w' => e = .returned (.tuple #[]) ∧ Grow w w' := by
  have hst := Step.ro hR
  refine calls_of_W (n := 49) Try.func64 rfl Try.ntmps64 (Nat.le_of_ble_eq_true rfl) ?_
  refine W_seq ?_
  refine W_region_lit ?_
  refine L_val (v := (.int .i64 0)) (w' := w) rfl rfl rfl rfl ?_
  refine L_val (v := (.int .i64 1)) (w' := w) rfl rfl rfl (by kernel_rfl) ?_
  refine L_val (v := (.int .i64 1)) (w' := w) rfl rfl rfl rfl ?_
  refine L_nil ?_
  refine W_block ?_
  refine W_loop_once ?_
  refine W_seq ?_
  refine W_seq ?_
  refine W_region_lit ?_
  refine L_val (v := (.int .i64 1)) (w' := w) rfl rfl rfl rfl ?_
  refine L_val (v := (.int .i64 0)) (w' := w) rfl rfl rfl rfl ?_
  refine L_val (v := (.bool false)) (w' := w) rfl rfl rfl (by kernel_rfl) ?_
  refine L_nil ?_
  refine W_cond_false (by show Value.bool _ = _; exact congrArg Value.bool rfl) ?_
  refine W_exit ?_
  refine ⟨_, _, res_run (rs := []) (vs := []) Try.results64 .nil rfl, ?_⟩
  exact ⟨rfl, hst.grow⟩

theorem pdqsort_spec {w : World} {R c : Hp} {b cap N : Nat} {xs : List Int} (hs : Sats w R [c]) (hlen : xs.length ≤ 12) (hrow : Row Ty.int 3 b N R xs c) (lim : Int) :
    Calls Try.prog 53 #[.slice (some ⟨b, 0, none⟩) xs.length cap, int 0, int (xs.length : Int), int lim] w (Comes' w R [c] fun v' R' L' => v' = .tuple #[] ∧ ∃ c' ys, L' = [c'] ∧ ys.Perm xs ∧ Row Ty.int 3 b N R' ys c' ∧ SortedTo leZ ys ys.length) := by
  have hst := Step.refl hs
  refine calls_of_W (n := 134) Try.func53 rfl Try.ntmps53 (Nat.le_of_ble_eq_true rfl) ?_
  refine W_seq ?_
  refine W_region_lit ?_
  refine L_val (v := (.bool true)) (w' := w) rfl rfl rfl rfl ?_
  refine L_nil ?_
  refine W_seq ?_
  refine W_region_lit ?_
  refine L_val (v := (.bool true)) (w' := w) rfl rfl rfl rfl ?_
  refine L_nil ?_
  refine W_block ?_
  refine W_loop_once ?_
  refine W_block ?_
  refine W_seq ?_
  refine W_region_lit ?_
  refine L_val (v := (.int .i64 (xs.length : Int))) (w' := w) rfl rfl rfl rfl ?_
  refine L_val (v := (.int .i64 0)) (w' := w) rfl rfl rfl rfl ?_
  refine L_val (v := (.int .i64 (((xs.length - 0) : Nat) : Int))) (w' := w) rfl rfl rfl (x_sub_nat rfl rfl rfl (by omega) (by omega)) ?_
  refine L_val (v := (.int .i64 (((xs.length - 0) : Nat) : Int))) (w' := w) rfl rfl rfl rfl ?_
  refine L_nil ?_
  refine W_seq ?_
  refine W_seq ?_
  refine W_region_lit ?_
  refine L_val (v := (.int .i64 (((xs.length - 0) : Nat) : Int))) (w' := w) rfl rfl rfl rfl ?_
  refine L_val (v := (.bool (decide ((((xs.length - 0) : Nat) : Int) ≤ 12)))) (w' := w) rfl rfl rfl (by kernel_rfl) ?_
  refine L_nil ?_
  have c1 : (decide ((((xs.length - 0) : Nat) : Int) ≤ 12)) = true := decide_eq_true (by omega)
  have q2 := of_decide_eq_true c1
  refine W_cond_true (by show Value.bool _ = _; exact congrArg Value.bool c1) ?_
  refine W_seq ?_
  refine W_region_lit ?_
  refine L_val (v := (.slice (some ⟨b, 0, none⟩) xs.length cap)) (w' := w) rfl rfl rfl rfl ?_
  refine L_val (v := (.int .i64 0)) (w' := w) rfl rfl rfl rfl ?_
  refine L_val (v := (.int .i64 (xs.length : Int))) (w' := w) rfl rfl rfl rfl ?_
  have hst3 := hst
  refine L_callS [c] [] hst3 rfl rfl rfl (x_call (vs := #[(.slice (some ⟨b, 0, none⟩) xs.length cap), (.int .i64 0), (.int .i64 (xs.length : Int))]) rfl rfl (by kernel_rfl) ent_64) (insertionSort_spec (xs := xs) (hst3.sats.take 1 rfl) (by omega) hrow) (fun v4 w5 R6 L7 hp8 hle9 hst10 => ?_)
  obtain ⟨rfl, c11, ys12, rfl, hp13, hrow14, hsrt15⟩ := hp8
  refine L_nil ?_
  refine W_ret ?_
  refine ⟨_, _, res_run (rs := []) (vs := []) Try.results53 .nil rfl, ?_⟩
  exact ⟨_, _, [c11], rfl, hst10, rfl, c11, _, rfl, hp13, hrow14, hsrt15⟩

theorem pdqsort_nil {w : World} {R : Hp} {v : Value} (hR : Le R (hp w)) (lim : Int) :
    Calls Try.prog 53 #[v, int 0, int 0, int lim] w fun e w' => e = .returned (.tuple #[]) ∧ Grow w w' := by
  have hst := Step.ro hR
  refine calls_of_W (n := 134) Try.func53 rfl Try.ntmps53 (Nat.le_of_ble_eq_true rfl) ?_
  refine W_seq ?_
  refine W_region_lit ?_
  refine L_val (v := (.bool true)) (w' := w) rfl rfl rfl rfl ?_
  refine L_nil ?_
  refine W_seq ?_
  refine W_region_lit ?_
  refine L_val (v := (.bool true)) (w' := w) rfl rfl rfl rfl ?_
  refine L_nil ?_
  refine W_block ?_
  refine W_loop_once ?_
  refine W_block ?_
  refine W_seq ?_
  refine W_region_lit ?_
  refine L_val (v := (.int .i64 0)) (w' := w) rfl rfl rfl rfl ?_
  refine L_val (v := (.int .i64 0)) (w' := w) rfl rfl rfl rfl ?_
  refine L_val (v := (.int .i64 0)) (w' := w) rfl rfl rfl (by kernel_rfl) ?_
  refine L_val (v := (.int .i64 0)) (w' := w) rfl rfl rfl rfl ?_
  refine L_nil ?_
  refine W_seq ?_
  refine W_seq ?_
  refine W_region_lit ?_
  refine L_val (v := (.int .i64 0)) (w' := w) rfl rfl rfl rfl ?_
  refine L_val (v := (.bool true)) (w' := w) rfl rfl rfl (by kernel_rfl) ?_
  refine L_nil ?_
  refine W_cond_true (by show Value.bool _ = _; exact congrArg Value.bool rfl) ?_
  refine W_seq ?_
  refine W_region_lit ?_
  refine L_val (v := v) (w' := w) rfl rfl rfl rfl ?_
  refine L_val (v := (.int .i64 0)) (w' := w) rfl rfl rfl rfl ?_
  refine L_val (v := (.int .i64 0)) (w' := w) rfl rfl rfl rfl ?_
  refine L_callG hst (v := (.tuple #[])) rfl rfl rfl (x_call (vs := #[v, (.int .i64 0), (.int .i64 0)]) rfl rfl (by kernel_rfl) ent_64) (insertionSort_nil (Le.refl _)) (fun w1 hst2 => ?_)
  refine L_nil ?_
  refine W_ret ?_
  refine ⟨_, _, res_run (rs := []) (vs := []) Try.results53 .nil rfl, ?_⟩
  exact ⟨rfl, hst2.grow⟩

/-- How many bits n takes, up to 12. -/
def bl (n : Nat) : Int := [0, 1, 2, 2, 3, 3, 3, 3, 4, 4, 4, 4, 4].getD n 0
theorem upto12 {n : Nat} (h : n ≤ 12) : n = 0 ∨ n = 1 ∨ n = 2 ∨ n = 3 ∨ n = 4 ∨ n = 5 ∨ n = 6 ∨ n = 7 ∨ n = 8 ∨ n = 9 ∨ n = 10 ∨ n = 11 ∨ n = 12 := by omega

theorem Len64_spec {w : World} {R : Hp} (n : Nat) (hn : n ≤ 12) (hR : Le R (hp w)) :
    Calls Try.prog 63 #[.int .u64 (n : Int)] w fun e w' => e = .returned (int (bl n)) ∧ Grow w w' := by
  have hst := Step.ro hR
  refine calls_of_W (n := 25) Try.func63 rfl Try.ntmps63 (Nat.le_of_ble_eq_true rfl) ?_
  refine W_seq ?_
  refine W_region_lit ?_
  refine L_val (v := (.int .i64 0)) (w' := w) rfl rfl rfl rfl ?_
  refine L_nil ?_
  refine W_seq ?_
  refine W_seq ?_
  refine W_region_lit ?_
  refine L_val (v := (.int .u64 (n : Int))) (w' := w) rfl rfl rfl rfl ?_
  refine L_val (v := (.bool (decide ((n : Int) ≥ 4294967296)))) (w' := w) rfl rfl rfl (by kernel_rfl) ?_
  refine L_nil ?_
  have c1 : (decide ((n : Int) ≥ 4294967296)) = false := decide_eq_false (by omega)
  have q2 := of_decide_eq_false c1
  refine W_cond_false (by show Value.bool _ = _; exact congrArg Value.bool c1) ?_
  refine W_skip ?_
  refine W_seq ?_
  refine W_seq ?_
  refine W_region_lit ?_
  refine L_val (v := (.int .u64 (n : Int))) (w' := w) rfl rfl rfl rfl ?_
  refine L_val (v := (.bool (decide ((n : Int) ≥ 65536)))) (w' := w) rfl rfl rfl (by kernel_rfl) ?_
  refine L_nil ?_
  have c3 : (decide ((n : Int) ≥ 65536)) = false := decide_eq_false (by omega)
  have q4 := of_decide_eq_false c3
  refine W_cond_false (by show Value.bool _ = _; exact congrArg Value.bool c3) ?_
  refine W_skip ?_
  refine W_seq ?_
  refine W_seq ?_
  refine W_region_lit ?_
  refine L_val (v := (.int .u64 (n : Int))) (w' := w) rfl rfl rfl rfl ?_
  refine L_val (v := (.bool (decide ((n : Int) ≥ 256)))) (w' := w) rfl rfl rfl (by kernel_rfl) ?_
  refine L_nil ?_
  have c5 : (decide ((n : Int) ≥ 256)) = false := decide_eq_false (by omega)
  have q6 := of_decide_eq_false c5
  refine W_cond_false (by show Value.bool _ = _; exact congrArg Value.bool c5) ?_
  refine W_skip ?_
  refine W_seq ?_
  refine W_region_lit ?_
  refine L_val (v := (.int .i64 0)) (w' := w) rfl rfl rfl rfl ?_
  refine L_val (v := (.int .u64 (n : Int))) (w' := w) rfl rfl rfl rfl ?_
  refine L_val (v := (.int .u8 (n : Int))) (w' := w) rfl rfl rfl (by rcases upto12 hn with rfl | rfl | rfl | rfl | rfl | rfl | rfl | rfl | rfl | rfl | rfl | rfl | rfl <;> kernel_rfl) ?_
  refine L_val (v := (.int .u8 (bl n))) (w' := w) rfl rfl rfl (by rcases upto12 hn with rfl | rfl | rfl | rfl | rfl | rfl | rfl | rfl | rfl | rfl | rfl | rfl | rfl <;> kernel_rfl) ?_
  refine L_val (v := (.int .i64 (bl n))) (w' := w) rfl rfl rfl (by rcases upto12 hn with rfl | rfl | rfl | rfl | rfl | rfl | rfl | rfl | rfl | rfl | rfl | rfl | rfl <;> kernel_rfl) ?_
  refine L_val (v := (.int .i64 (bl n))) (w' := w) rfl rfl rfl (by rcases upto12 hn with rfl | rfl | rfl | rfl | rfl | rfl | rfl | rfl | rfl | rfl | rfl | rfl | rfl <;> kernel_rfl) ?_
  refine L_val (v := (.int .i64 (bl n))) (w' := w) rfl rfl rfl rfl ?_
  refine L_nil ?_
  refine W_ret ?_
  refine ⟨_, _, res_run (rs := [.tmp 2]) (vs := [(.int .i64 (bl n))]) Try.results63 (.cons (.tmp rfl) .nil) rfl, ?_⟩
  exact ⟨rfl, hst.grow⟩

theorem Len_spec {w : World} {R : Hp} (n : Nat) (hn : n ≤ 12) (hR : Le R (hp w)) :
    Calls Try.prog 51 #[.int .u64 (n : Int)] w fun e w' => e = .returned (int (bl n)) ∧ Grow w w' := by
  have hst := Step.ro hR
  refine calls_of_W (n := 8) Try.func51 rfl Try.ntmps51 (Nat.le_of_ble_eq_true rfl) ?_
  refine W_seq ?_
  refine W_region_lit ?_
  refine L_val (v := (.int .i64 0)) (w' := w) rfl rfl rfl rfl ?_
  refine L_nil ?_
  refine W_seq ?_
  refine W_cond_false (by show Value.bool _ = _; exact congrArg Value.bool rfl) ?_
  refine W_skip ?_
  refine W_seq ?_
  refine W_region_lit ?_
  refine L_val (v := (.int .u64 (n : Int))) (w' := w) rfl rfl rfl rfl ?_
  refine L_callG hst (v := (.int .i64 (bl n))) rfl rfl rfl (x_call (vs := #[(.int .u64 (n : Int))]) rfl rfl (by kernel_rfl) ent_63) (Len64_spec n (by omega) (Le.refl _)) (fun w1 hst2 => ?_)
  refine L_val (v := (.int .i64 (bl n))) (w' := w1) rfl rfl rfl rfl ?_
  refine L_nil ?_
  refine W_ret ?_
  refine ⟨_, _, res_run (rs := [.tmp 2]) (vs := [(.int .i64 (bl n))]) Try.results51 (.cons (.tmp rfl) .nil) rfl, ?_⟩
  exact ⟨rfl, hst2.grow⟩

theorem conv12 {n : Nat} (hn : n ≤ 12) (w : World) : (convert 3 106 (int (n : Int))).run Try.prog w = .ok (.int .u64 (n : Int)) w := by
  rcases upto12 hn with rfl | rfl | rfl | rfl | rfl | rfl | rfl | rfl | rfl | rfl | rfl | rfl | rfl <;> kernel_rfl
theorem x_conv12 {w : World} {ρ : Operand → Value} {o : Oper} {x : Operand} {n : Nat} (ho : o.op = .convert 3 106 x) (hx : ρ x = int (n : Int)) (hn : n ≤ 12) : (execOp ρ o).run Try.prog w = .ok (.value (.int .u64 (n : Int))) w := by
  unfold execOp
  simp [ho, hx, conv12 hn]

theorem Sort_spec {w : World} {R c : Hp} {b cap N : Nat} {xs : List Int} (hs : Sats w R [c]) (hlen : xs.length ≤ 12) (hrow : Row Ty.int 3 b N R xs c) :
    Calls Try.prog 45 #[.slice (some ⟨b, 0, none⟩) xs.length cap] w (Comes' w R [c] fun v' R' L' => v' = .tuple #[] ∧ ∃ c' ys, L' = [c'] ∧ ys.Perm xs ∧ Row Ty.int 3 b N R' ys c' ∧ SortedTo leZ ys ys.length) := by
  have hst := Step.refl hs
  refine calls_of_W (n := 11) Try.func45 rfl Try.ntmps45 (Nat.le_of_ble_eq_true rfl) ?_
  refine W_seq ?_
  refine W_region_lit ?_
  refine L_val (v := (.slice (some ⟨b, 0, none⟩) xs.length cap)) (w' := w) rfl rfl rfl rfl ?_
  refine L_val (v := (.int .i64 (xs.length : Int))) (w' := w) rfl rfl rfl (x_len_slice rfl sl_31 rfl) ?_
  refine L_val (v := (.int .i64 (xs.length : Int))) (w' := w) rfl rfl rfl rfl ?_
  refine L_nil ?_
  refine W_region_lit ?_
  refine L_val (v := (.slice (some ⟨b, 0, none⟩) xs.length cap)) (w' := w) rfl rfl rfl rfl ?_
  refine L_val (v := (.int .i64 (xs.length : Int))) (w' := w) rfl rfl rfl rfl ?_
  refine L_val (v := (.int .i64 (xs.length : Int))) (w' := w) rfl rfl rfl rfl ?_
  refine L_val (v := (.int .u64 (xs.length : Int))) (w' := w) rfl rfl rfl (x_conv12 rfl rfl hlen) ?_
  refine L_callG hst (v := (.int .i64 (bl xs.length))) rfl rfl rfl (x_call (vs := #[(.int .u64 (xs.length : Int))]) rfl rfl (by kernel_rfl) ent_51) (Len_spec xs.length (by omega) (Le.refl _)) (fun w1 hst2 => ?_)
  have hst3 := hst2
  refine L_callS [c] [] hst3 rfl rfl rfl (x_call (vs := #[(.slice (some ⟨b, 0, none⟩) xs.length cap), (.int .i64 0), (.int .i64 (xs.length : Int)), (.int .i64 (bl xs.length))]) rfl rfl (by kernel_rfl) ent_53) (pdqsort_spec (xs := xs) (hst3.sats.take 1 rfl) (by omega) hrow (bl xs.length)) (fun v4 w5 R6 L7 hp8 hle9 hst10 => ?_)
  obtain ⟨rfl, c11, ys12, rfl, hp13, hrow14, hsrt15⟩ := hp8
  refine L_nil ?_
  refine ⟨_, _, res_run (rs := []) (vs := []) Try.results45 .nil rfl, ?_⟩
  exact ⟨_, _, [c11], rfl, hst10, rfl, c11, _, rfl, hp13, hrow14, hsrt15⟩

theorem Sort_nil {w : World} {R : Hp} {a : Option Addr} {cap : Nat} (hR : Le R (hp w)) :
    Calls Try.prog 45 #[.slice a 0 cap] w fun e w' => e = .returned (.tuple #[]) ∧ Grow w w' := by
  have hst := Step.ro hR
  refine calls_of_W (n := 11) Try.func45 rfl Try.ntmps45 (Nat.le_of_ble_eq_true rfl) ?_
  refine W_seq ?_
  refine W_region_lit ?_
  refine L_val (v := (.slice a 0 cap)) (w' := w) rfl rfl rfl rfl ?_
  refine L_val (v := (.int .i64 0)) (w' := w) rfl rfl rfl (x_len_slice rfl sl_31 rfl) ?_
  refine L_val (v := (.int .i64 0)) (w' := w) rfl rfl rfl rfl ?_
  refine L_nil ?_
  refine W_region_lit ?_
  refine L_val (v := (.slice a 0 cap)) (w' := w) rfl rfl rfl rfl ?_
  refine L_val (v := (.int .i64 0)) (w' := w) rfl rfl rfl rfl ?_
  refine L_val (v := (.int .i64 0)) (w' := w) rfl rfl rfl rfl ?_
  refine L_val (v := (.int .u64 0)) (w' := w) rfl rfl rfl (by kernel_rfl) ?_
  refine L_callG hst (v := (.int .i64 (bl 0))) rfl rfl rfl (x_call (vs := #[(.int .u64 0)]) rfl rfl (by kernel_rfl) ent_51) (Len_spec 0 (by omega) (Le.refl _)) (fun w1 hst2 => ?_)
  refine L_callG hst2 (v := (.tuple #[])) rfl rfl rfl (x_call (vs := #[(.slice a 0 cap), (.int .i64 0), (.int .i64 0), (.int .i64 (bl 0))]) rfl rfl (by kernel_rfl) ent_53) (pdqsort_nil (Le.refl _) (bl 0)) (fun w3 hst4 => ?_)
  refine L_nil ?_
  refine ⟨_, _, res_run (rs := []) (vs := []) Try.results45 .nil rfl, ?_⟩
  exact ⟨rfl, hst4.grow⟩

end Go.Fx.Ytlfabjfajcbdcaa
