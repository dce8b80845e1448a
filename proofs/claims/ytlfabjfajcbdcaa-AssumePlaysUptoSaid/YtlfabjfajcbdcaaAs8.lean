/-
  Chapter 27: the sorting of facts, printed by gen8.py.
-/
import Derived.Test.YtlfabjfajcbdcaaAs8a
set_option linter.unusedSimpArgs false
set_option linter.unusedVariables false
namespace Go.Fx.Ytlfabjfajcbdcaa
open Go Go.Fx Go.Proofs
set_option maxRecDepth 20000

theorem ent_41 : Ent Try.prog 41 := fun _ _ => by kernel_rfl
theorem ent_50 : Ent Try.prog 50 := fun _ _ => by kernel_rfl
theorem ent_54 : Ent Try.prog 54 := fun _ _ => by kernel_rfl

theorem Or_spec {w : World} {R : Hp} {v : Value} {xs : List Int} (hR : Le R (hp w)) (hv : RdS Ty.int R v xs) (hx : xs.length ≤ 4611686018427387904) :
    Calls Try.prog 41 #[v] w fun e w' => e = .returned (int (orF xs)) ∧ Grow w w' := by
  have hst := Step.ro hR
  refine calls_of_W (n := 18) Try.func41 rfl Try.ntmps41 (Nat.le_of_ble_eq_true rfl) ?_
  refine W_seq ?_
  refine W_region_lit ?_
  refine L_val (v := (.int .i64 0)) (w' := w) rfl rfl rfl rfl ?_
  refine L_nil ?_
  refine W_seq ?_
  refine W_region_lit ?_
  refine L_val (v := (.int .i64 0)) (w' := w) rfl rfl rfl rfl ?_
  refine L_nil ?_
  refine W_seq ?_
  refine W_seq ?_
  refine W_region_lit ?_
  refine L_val (v := v) (w' := w) rfl rfl rfl rfl ?_
  obtain ⟨a1, cap2, e3, hc4⟩ := hv.shape
  subst e3
  refine L_val (v := (.int .i64 (xs.length : Int))) (w' := w) rfl rfl rfl (x_len_slice rfl sl_31 rfl) ?_
  refine L_val (v := (.int .i64 0)) (w' := w) rfl rfl rfl rfl ?_
  refine L_nil ?_
  refine W_block ?_
  refine W_loop (I := fun σ w_ m_ => ∃ (σ0 : Fr) (k_ : Nat), σ = upd (upd (upd (upd (upd σ0 0 (.slice a1 xs.length cap2)) 3 (.int .i64 0)) 6 (.slice a1 xs.length cap2)) 7 (.int .i64 (xs.length : Int))) 8 (.int .i64 (k_ : Int)) ∧ mks (σ0 0) = [] ∧ Step w R [] w_ R [] ∧ k_ ≤ xs.length ∧ orF (xs.drop k_) = orF xs ∧ m_ = xs.length - k_) (m := xs.length - 0) ?_ ?_
  · skip
    exact ⟨_, 0, (upd_of (upd_of (upd_of (upd_of (upd_of rfl rfl) rfl) rfl) rfl) rfl), rfl, hst, (by omega), rfl, rfl⟩
  · skip
    rintro m13 σ_ w7 ⟨s11, k_12, rfl, hmk5, hst6, hf9, hf10, rfl⟩
    refine W_seq ?_
    refine W_region_lit ?_
    refine L_val (v := (.bool (decide ((k_12 : Int) < (xs.length : Int))))) (w' := w7) rfl rfl rfl (by kernel_rfl) ?_
    refine L_nil ?_
    refine W_seq ?_
    rcases Bool.eq_false_or_eq_true (decide ((k_12 : Int) < (xs.length : Int))) with c14 | c14
    · skip
      have q15 := of_decide_eq_true c14
      refine W_cond_true (by show Value.bool _ = _; exact congrArg Value.bool c14) ?_
      refine W_skip ?_
      refine W_seq ?_
      refine W_block ?_
      refine W_seq ?_
      refine W_region_lit ?_
      obtain ⟨b16, off17, cap18, cs19, T20, fz21, e22, hc23, hb24, he25⟩ := hv.open (by omega)
      cases e22
      obtain ⟨cl26, hs27, hr28⟩ := he25.at k_12 (by omega)
      have hx29 : cl26 = [.int .i64 (xs[k_12]'(by omega))] := hr28
      subst hx29
      refine L_val (v := (ptr b16 (off17 + k_12 * 1))) (w' := w7) rfl rfl rfl (x_indexAddr' rfl sl_31 ti_3 rfl rfl (by omega)) ?_
      refine L_val (v := (.int .i64 (xs[k_12]'(by omega)))) (w' := w7) rfl rfl rfl (x_load rfl rfl (run_loadVar_one ti_3 (hst6.rle' _ _ hb24) (seg_get (j := 0) hs27 rfl))) ?_
      refine L_val (v := (.int .i64 (xs[k_12]'(by omega)))) (w' := w7) rfl rfl rfl rfl ?_
      refine L_nil ?_
      refine W_seq ?_
      refine W_region_lit ?_
      refine L_val (v := (.int .i64 (xs[k_12]'(by omega)))) (w' := w7) rfl rfl rfl rfl ?_
      refine L_val (v := (.int .i64 0)) (w' := w7) rfl rfl rfl rfl ?_
      refine L_val (v := (.bool ((xs[k_12]'(by omega)) != 0))) (w' := w7) rfl rfl rfl (by kernel_rfl) ?_
      refine L_nil ?_
      rcases Bool.eq_false_or_eq_true ((xs[k_12]'(by omega)) != 0) with c30 | c30
      · skip
        have q31 : ¬ (xs[k_12]'(by omega)) = 0 := by simpa using c30
        refine W_cond_true (by show Value.bool _ = _; exact congrArg Value.bool c30) ?_
        refine W_seq ?_
        refine W_region_lit ?_
        refine L_val (v := (.int .i64 (xs[k_12]'(by omega)))) (w' := w7) rfl rfl rfl rfl ?_
        refine L_val (v := (.int .i64 (xs[k_12]'(by omega)))) (w' := w7) rfl rfl rfl rfl ?_
        refine L_nil ?_
        refine W_ret ?_
        refine ⟨_, _, res_run (rs := [.tmp 2]) (vs := [(.int .i64 (xs[k_12]'(by omega)))]) Try.results41 (.cons (.tmp rfl) .nil) hmk5, ?_⟩
        exact ⟨ret_int (orF_yes (by omega) hf10 (by simpa using c30)), hst6.grow⟩
      · skip
        have q32 : (xs[k_12]'(by omega)) = 0 := by simpa using c30
        refine W_cond_false (by show Value.bool _ = _; exact congrArg Value.bool c30) ?_
        refine W_skip ?_
        refine W_region_lit ?_
        refine L_val (v := (.int .i64 ((k_12 + 1 : Nat) : Int))) (w' := w7) rfl rfl rfl (x_add_nat rfl rfl rfl (by omega)) ?_
        refine L_val (v := (.int .i64 ((k_12 + 1 : Nat) : Int))) (w' := w7) rfl rfl rfl rfl ?_
        refine L_nil ?_
        refine ⟨xs.length - (k_12 + 1), by first | omega | (simp only [List.length_append, List.length_cons, List.length_nil]; omega), ?_⟩
        exact ⟨_, (k_12 + 1), (upd_of (upd_of (upd_of (upd_of (upd_of rfl rfl) rfl) rfl) rfl) rfl), hmk5, hst6, (by omega), (orF_no (by omega) hf10 (by simpa using c30)), rfl⟩
    · skip
      have q33 := of_decide_eq_false c14
      refine W_cond_false (by show Value.bool _ = _; exact congrArg Value.bool c14) ?_
      refine W_exit ?_
      refine W_seq ?_
      refine W_region_lit ?_
      refine L_val (v := (.int .i64 0)) (w' := w7) rfl rfl rfl rfl ?_
      refine L_val (v := (.int .i64 0)) (w' := w7) rfl rfl rfl rfl ?_
      refine L_nil ?_
      refine W_ret ?_
      refine ⟨_, _, res_run (rs := [.tmp 2]) (vs := [(.int .i64 0)]) Try.results41 (.cons (.tmp rfl) .nil) hmk5, ?_⟩
      exact ⟨ret_int (orF_end (by omega) hf10), hst6.grow⟩

theorem Facts2_spec {w : World} {R : Hp} (a b : Fact) (ha : smallF a) (hb : smallF b) (hR : Le R (hp w)) :
    Calls Try.prog 40 (#[encFact a, encFact b] ++ #[]) w fun e w' => e = .returned (int (cmpF a b)) ∧ Grow w w' := by
  have hst := Step.ro hR
  obtain ⟨ha1, ha2, ha3, ha4⟩ := ha
  obtain ⟨hb1, hb2, hb3, hb4⟩ := hb
  refine calls_of_W (n := 17) Try.func40 rfl Try.ntmps40 (Nat.le_of_ble_eq_true rfl) ?_
  refine W_seq ?_
  refine W_region_lit ?_
  refine L_new hst (v := fun b => ptr b 0) (ob := .cells #[(.int .i64 a.kind), (.int .i64 a.n), (.int .i64 a.version)] 38 (0, 0)) rfl rfl rfl (by kernel_rfl) (fun b1 w2 hst3 => ?_)
  refine L_new hst3 (v := fun b => ptr b 0) (ob := .cells #[(.int .i64 b.kind), (.int .i64 b.n), (.int .i64 b.version)] 38 (0, 0)) rfl rfl rfl (by kernel_rfl) (fun b4 w5 hst6 => ?_)
  refine L_val (v := (.int .i64 0)) (w' := w5) rfl rfl rfl rfl ?_
  refine L_nil ?_
  refine W_seq ?_
  refine W_region_lit ?_
  refine L_val (v := (ptr b1 0)) (w' := w5) rfl rfl rfl (by kernel_rfl) ?_
  refine L_val (v := (.int .i64 a.kind)) (w' := w5) rfl rfl rfl (x_load rfl rfl (run_loadVar_one ti_3 (hst6.blk (i := 1) rfl) rfl)) ?_
  refine L_val (v := (ptr b4 0)) (w' := w5) rfl rfl rfl (by kernel_rfl) ?_
  refine L_val (v := (.int .i64 b.kind)) (w' := w5) rfl rfl rfl (x_load rfl rfl (run_loadVar_one ti_3 (hst6.blk (i := 0) rfl) rfl)) ?_
  refine L_val (v := (.int .i64 (a.kind - b.kind))) (w' := w5) rfl rfl rfl (x_sub rfl rfl rfl (by constructor <;> omega)) ?_
  refine L_val (v := (ptr b1 1)) (w' := w5) rfl rfl rfl (by kernel_rfl) ?_
  refine L_val (v := (.int .i64 a.n)) (w' := w5) rfl rfl rfl (x_load rfl rfl (run_loadVar_one ti_3 (hst6.blk (i := 1) rfl) rfl)) ?_
  refine L_val (v := (ptr b4 1)) (w' := w5) rfl rfl rfl (by kernel_rfl) ?_
  refine L_val (v := (.int .i64 b.n)) (w' := w5) rfl rfl rfl (x_load rfl rfl (run_loadVar_one ti_3 (hst6.blk (i := 0) rfl) rfl)) ?_
  refine L_val (v := (.int .i64 (a.n - b.n))) (w' := w5) rfl rfl rfl (x_sub rfl rfl rfl (by constructor <;> omega)) ?_
  refine L_new hst6 (v := fun b => .slice (some ⟨b, 0, none⟩) 2 2) (ob := .cells #[(.int .i64 (a.kind - b.kind)), (.int .i64 (a.n - b.n))] 3 (0, 0)) rfl rfl rfl (by kernel_rfl) (fun b7 w8 hst9 => ?_)
  have hrd10 : RdS Ty.int (hp w8) (.slice (some ⟨b7, 0, none⟩) 2 2) [a.kind - b.kind, a.n - b.n] := OwnL.freeze (OwnL.lit (T := 3) (cs := [(.int .i64 (a.kind - b.kind)), (.int .i64 (a.n - b.n))]) (Encs.cons (t := Ty.int) (c := [_]) rfl (Encs.cons (t := Ty.int) (c := [_]) rfl Encs.nil)) rfl (by decide)) hst9.rle' (hst9.get (i := 0) rfl)
  refine L_callG hst9 (v := (.int .i64 (orF [a.kind - b.kind, a.n - b.n]))) rfl rfl rfl (x_call (vs := #[(.slice (some ⟨b7, 0, none⟩) 2 2)]) rfl rfl (by kernel_rfl) ent_41) (Or_spec (Le.refl _) hrd10 (by simp)) (fun w11 hst12 => ?_)
  refine L_val (v := (.int .i64 (orF [a.kind - b.kind, a.n - b.n]))) (w' := w11) rfl rfl rfl rfl ?_
  refine L_nil ?_
  refine W_ret ?_
  refine ⟨_, _, res_run (rs := [.tmp 4]) (vs := [(.int .i64 (orF [a.kind - b.kind, a.n - b.n]))]) Try.results40 (.cons (.tmp rfl) .nil) rfl, ?_⟩
  exact ⟨rfl, hst12.grow⟩

theorem insertionSortF_spec {w : World} {R c : Hp} {b cap N : Nat} {xs : List Fact} (hs : Sats w R [c]) (hlen : xs.length ≤ 12) (hrow : Row tyFact 38 b N R xs c) {g : Nat} {cb : Array Value} (eg : Ent Try.prog g) (hcmp : ∀ w1 x y, Le R (hp w1) → smallF x → smallF y → Calls Try.prog g (#[encFact x, encFact y] ++ cb) w1 fun e w' => e = .returned (int (cmpF x y)) ∧ Grow w1 w') (hsm : ∀ x, x ∈ xs → smallF x) :
    Calls Try.prog 54 #[.slice (some ⟨b, 0, none⟩) xs.length cap, int 0, int (xs.length : Int), .func (.func g) #[] cb] w (Comes' w R [c] fun v' R' L' => v' = .tuple #[] ∧ ∃ c' ys, L' = [c'] ∧ ys.Perm xs ∧ Row tyFact 38 b N R' ys c' ∧ SortedTo leF ys ys.length) := by
  have hst := Step.refl hs
  refine calls_of_W (n := 53) Try.func54 rfl Try.ntmps54 (Nat.le_of_ble_eq_true rfl) ?_
  refine W_seq ?_
  refine W_region_lit ?_
  refine L_val (v := (.int .i64 0)) (w' := w) rfl rfl rfl rfl ?_
  refine L_val (v := (.int .i64 1)) (w' := w) rfl rfl rfl (by kernel_rfl) ?_
  refine L_val (v := (.int .i64 1)) (w' := w) rfl rfl rfl rfl ?_
  refine L_nil ?_
  refine W_block ?_
  refine W_loop (I := fun σ w_ m_ => ∃ (σ0 : Fr) (i_ : Nat) (ys : List Fact) (cr : Hp), σ = upd (upd (upd (upd (upd (upd (upd σ0 0 (.slice (some ⟨b, 0, none⟩) xs.length cap)) 1 (.int .i64 0)) 2 (.int .i64 (xs.length : Int))) 3 (.func (.func g) #[] cb)) 8 (.int .i64 (i_ : Int))) 10 (.int .i64 0)) 11 (.int .i64 1) ∧ mks (σ0 0) = [] ∧ Step w R [c] w_ R [cr] ∧ Row tyFact 38 b N R ys cr ∧ 1 ≤ i_ ∧ ys.length = xs.length ∧ ys.Perm xs ∧ SortedTo leF ys i_ ∧ (i_ ≤ xs.length ∨ i_ = 1) ∧ m_ = xs.length + 1 - i_) (m := xs.length + 1 - 1) ?_ ?_
  · skip
    exact ⟨_, 1, xs, c, (upd_of (upd_of (upd_of (upd_of (upd_of (upd_of (upd_of rfl rfl) rfl) rfl) rfl) rfl) rfl) rfl), rfl, hst, hrow, (by omega), rfl, (List.Perm.refl _), (SortedTo.one _ _), (by omega), rfl⟩
  · skip
    rintro m15 σ_ w3 ⟨s11, i_12, ys13, cr14, rfl, hmk1, hst2, hi5, hf6, hf7, hf8, hf9, hf10, rfl⟩
    refine W_seq ?_
    refine W_seq ?_
    refine W_region_lit ?_
    refine L_val (v := (.int .i64 (i_12 : Int))) (w' := w3) rfl rfl rfl rfl ?_
    refine L_val (v := (.int .i64 (xs.length : Int))) (w' := w3) rfl rfl rfl rfl ?_
    refine L_val (v := (.bool (decide ((i_12 : Int) < (xs.length : Int))))) (w' := w3) rfl rfl rfl (by kernel_rfl) ?_
    refine L_nil ?_
    rcases Bool.eq_false_or_eq_true (decide ((i_12 : Int) < (xs.length : Int))) with c16 | c16
    · skip
      have q17 := of_decide_eq_true c16
      refine W_cond_true (by show Value.bool _ = _; exact congrArg Value.bool c16) ?_
      refine W_skip ?_
      refine W_seq ?_
      refine W_block ?_
      refine W_seq ?_
      refine W_region_lit ?_
      refine L_val (v := (.int .i64 (i_12 : Int))) (w' := w3) rfl rfl rfl rfl ?_
      refine L_val (v := (.int .i64 (i_12 : Int))) (w' := w3) rfl rfl rfl rfl ?_
      refine L_nil ?_
      refine W_block ?_
      refine W_loop (I := fun σ w_ m_ => ∃ (σ0 : Fr) (j_ : Nat) (ys2 : List Fact) (cr : Hp), σ = upd (upd (upd (upd (upd (upd (upd (upd (upd (upd (upd (upd σ0 0 (.slice (some ⟨b, 0, none⟩) xs.length cap)) 1 (.int .i64 0)) 2 (.int .i64 (xs.length : Int))) 3 (.func (.func g) #[] cb)) 8 (.int .i64 (i_12 : Int))) 9 (.int .i64 (j_ : Int))) 10 (.int .i64 0)) 11 (.int .i64 1)) 12 (.int .i64 (i_12 : Int))) 13 (.int .i64 (xs.length : Int))) 14 (.bool (decide ((i_12 : Int) < (xs.length : Int))))) 17 (.int .i64 (i_12 : Int)) ∧ mks (σ0 0) = [] ∧ Step w R [c] w_ R [cr] ∧ Row tyFact 38 b N R ys2 cr ∧ j_ ≤ i_12 ∧ i_12 < xs.length ∧ ys2.length = xs.length ∧ ys2.Perm xs ∧ InsAt leF ys2 i_12 j_ ∧ m_ = 2 * j_) (m := 2 * i_12) ?_ ?_
      · skip
        exact ⟨_, i_12, ys13, cr14, (upd_of (upd_of (upd_of (upd_of (upd_of (upd_of (upd_of (upd_of (upd_of (upd_of (upd_of (upd_of rfl rfl) rfl) rfl) rfl) rfl) rfl) rfl) rfl) rfl) rfl) rfl) rfl), hmk1, hst2, hi5, (by omega), (by omega), hf7, hf8, (InsAt.start hf9), rfl⟩
      · skip
        rintro m32 σ_ w20 ⟨s28, j_29, ys230, cr31, rfl, hmk18, hst19, hi22, hf23, hf24, hf25, hf26, hf27, rfl⟩
        refine W_seq ?_
        refine W_seq ?_
        refine W_region_draw [] (fun w => Le R (hp w) ∧ Le cr31 (hp w)) hmix (by decide +kernel) (fun _ _ h => h) ?_
        have hst34 := hst19.draws (w20.drawn + 1)
        generalize draws w20 (w20.drawn + 1) = w33 at hst34 ⊢
        refine LA_takeP (v := (.int .i64 (j_29 : Int))) 0 rfl rfl rfl (by decide +kernel) (by decide +kernel) (by decide +kernel) (by decide +kernel) (fun _ _ _ h => h) (Want.plain rfl) (fun u36 => rfl) (fun _ => ⟨hst34.rle', hst34.get (i := 0) rfl⟩) ?_
        refine LA_takeP (v := (.int .i64 0)) 1 rfl rfl rfl (by decide +kernel) (by decide +kernel) (by decide +kernel) (by decide +kernel) (fun _ _ _ h => h) (Want.plain rfl) (fun u39 => rfl) (fun _ => ⟨hst34.rle', hst34.get (i := 0) rfl⟩) ?_
        refine LA_takeP (v := (.bool (decide ((j_29 : Int) > 0)))) 2 rfl rfl rfl (by decide +kernel) (by decide +kernel) (by decide +kernel) (by decide +kernel) (fun _ _ _ h => h) (Want.plain rfl) (fun u42 => (by kernel_rfl)) (fun _ => ⟨hst34.rle', hst34.get (i := 0) rfl⟩) ?_
        refine LA_takeP (v := (.bool (decide ((j_29 : Int) > 0)))) 3 rfl rfl rfl (by decide +kernel) (by decide +kernel) (by decide +kernel) (by decide +kernel) (fun _ _ _ h => h) (Want.plain rfl) (fun u45 => rfl) (fun _ => ⟨hst34.rle', hst34.get (i := 0) rfl⟩) ?_
        rcases Bool.eq_false_or_eq_true (decide ((j_29 : Int) > 0)) with c48 | c48
        · skip
          have q49 := of_decide_eq_true c48
          refine LA_takeP (v := (.func (.func g) #[] cb)) 4 rfl rfl rfl (by decide +kernel) (by decide +kernel) (by decide +kernel) (by decide +kernel) (fun _ _ _ h => h) (Want.of rfl rfl rfl rfl (by rw [c48]; rfl)) (fun u51 => rfl) (fun _ => ⟨hst34.rle', hst34.get (i := 0) rfl⟩) ?_
          refine LA_takeP (v := (.slice (some ⟨b, 0, none⟩) xs.length cap)) 5 rfl rfl rfl (by decide +kernel) (by decide +kernel) (by decide +kernel) (by decide +kernel) (fun _ _ _ h => h) (Want.of rfl rfl rfl rfl (by rw [c48]; rfl)) (fun u54 => rfl) (fun _ => ⟨hst34.rle', hst34.get (i := 0) rfl⟩) ?_
          refine LA_takeP (v := (.int .i64 (j_29 : Int))) 6 rfl rfl rfl (by decide +kernel) (by decide +kernel) (by decide +kernel) (by decide +kernel) (fun _ _ _ h => h) (Want.of rfl rfl rfl rfl (by rw [c48]; rfl)) (fun u57 => rfl) (fun _ => ⟨hst34.rle', hst34.get (i := 0) rfl⟩) ?_
          obtain ⟨cl62, cs63, hr64, hcb65, hsg66⟩ := Row.at hi22 j_29 (by omega)
          obtain rfl := tyFact_open hr64
          refine LA_takeP (v := (ptr b (0 + j_29 * 3))) 7 rfl rfl rfl (by decide +kernel) (by decide +kernel) (by decide +kernel) (by decide +kernel) (fun _ _ _ h => h) (Want.of rfl rfl rfl rfl (by rw [c48]; rfl)) (fun u60 => (x_indexAddr' rfl sl_29 ti_38 rfl rfl (by omega))) (fun _ => ⟨hst34.rle', hst34.get (i := 0) rfl⟩) ?_
          refine LA_take (v := (.agg #[(.int .i64 ((ys230[j_29]'(by omega)).kind)), (.int .i64 ((ys230[j_29]'(by omega)).n)), (.int .i64 ((ys230[j_29]'(by omega)).version))])) 8 rfl rfl rfl (by decide +kernel) (by decide +kernel) (by decide +kernel) (by decide +kernel) (by decide +kernel) (fun _ _ _ h => h) (Want.of rfl rfl rfl rfl (by rw [c48]; rfl)) (fun u68 hF69 => (x_load rfl rfl (run_loadVar_agg ti_38 (hF69.2 _ _ hcb65) hsg66 rfl))) ⟨hst34.rle', hst34.get (i := 0) rfl⟩ ?_
          refine LA_takeP (v := (.slice (some ⟨b, 0, none⟩) xs.length cap)) 9 rfl rfl rfl (by decide +kernel) (by decide +kernel) (by decide +kernel) (by decide +kernel) (fun _ _ _ h => h) (Want.of rfl rfl rfl rfl (by rw [c48]; rfl)) (fun u71 => rfl) (fun _ => ⟨hst34.rle', hst34.get (i := 0) rfl⟩) ?_
          refine LA_takeP (v := (.int .i64 (j_29 : Int))) 10 rfl rfl rfl (by decide +kernel) (by decide +kernel) (by decide +kernel) (by decide +kernel) (fun _ _ _ h => h) (Want.of rfl rfl rfl rfl (by rw [c48]; rfl)) (fun u74 => rfl) (fun _ => ⟨hst34.rle', hst34.get (i := 0) rfl⟩) ?_
          refine LA_takeP (v := (.int .i64 (((j_29 - 1) : Nat) : Int))) 11 rfl rfl rfl (by decide +kernel) (by decide +kernel) (by decide +kernel) (by decide +kernel) (fun _ _ _ h => h) (Want.of rfl rfl rfl rfl (by rw [c48]; rfl)) (fun u77 => (x_sub_nat rfl rfl rfl (by omega) (by omega))) (fun _ => ⟨hst34.rle', hst34.get (i := 0) rfl⟩) ?_
          obtain ⟨cl82, cs83, hr84, hcb85, hsg86⟩ := Row.at hi22 (j_29 - 1) (by omega)
          obtain rfl := tyFact_open hr84
          refine LA_takeP (v := (ptr b (0 + (j_29 - 1) * 3))) 12 rfl rfl rfl (by decide +kernel) (by decide +kernel) (by decide +kernel) (by decide +kernel) (fun _ _ _ h => h) (Want.of rfl rfl rfl rfl (by rw [c48]; rfl)) (fun u80 => (x_indexAddr' rfl sl_29 ti_38 rfl rfl (by omega))) (fun _ => ⟨hst34.rle', hst34.get (i := 0) rfl⟩) ?_
          refine LA_take (v := (.agg #[(.int .i64 ((ys230[(j_29 - 1)]'(by omega)).kind)), (.int .i64 ((ys230[(j_29 - 1)]'(by omega)).n)), (.int .i64 ((ys230[(j_29 - 1)]'(by omega)).version))])) 13 rfl rfl rfl (by decide +kernel) (by decide +kernel) (by decide +kernel) (by decide +kernel) (by decide +kernel) (fun _ _ _ h => h) (Want.of rfl rfl rfl rfl (by rw [c48]; rfl)) (fun u88 hF89 => (x_load rfl rfl (run_loadVar_agg ti_38 (hF89.2 _ _ hcb85) hsg86 rfl))) ⟨hst34.rle', hst34.get (i := 0) rfl⟩ ?_
          refine LA_all [14] (by decide +kernel) (by simp) ?_
          intro i_ hi_
          simp only [List.mem_cons, List.not_mem_nil, or_false] at hi_
          subst hi_
          refine One_call (i := 14) rfl rfl rfl (Want.of rfl rfl rfl rfl (by rw [c48]; rfl)) (x_callv (vs := #[encFact (ys230[j_29]'(by omega)), encFact (ys230[(j_29 - 1)]'(by omega))] ++ cb) rfl rfl (by kernel_rfl) eg) (hcmp _ (ys230[j_29]'(by omega)) (ys230[(j_29 - 1)]'(by omega)) hst34.rle' (hsm _ (hf26.mem_iff.1 (List.getElem_mem _))) (hsm _ (hf26.mem_iff.1 (List.getElem_mem _)))) ?_
          rintro e95 w93 ⟨rfl, hw96⟩
          have hst94 := hst34.grown hw96
          refine ⟨_, rfl, (fun _ => ⟨hst94.rle', hst94.get (i := 0) rfl⟩), ?_⟩
          refine LA_takeP (v := (.bool (decide (cmpF (ys230[j_29]'(by omega)) (ys230[(j_29 - 1)]'(by omega)) < 0)))) 15 rfl rfl rfl (by decide +kernel) (by decide +kernel) (by decide +kernel) (by decide +kernel) (fun _ _ _ h => h) (Want.of rfl rfl rfl rfl (by rw [c48]; rfl)) (fun u98 => (by kernel_rfl)) (fun _ => ⟨hst94.rle', hst94.get (i := 0) rfl⟩) ?_
          refine LA_takeP (v := (.bool (decide (cmpF (ys230[j_29]'(by omega)) (ys230[(j_29 - 1)]'(by omega)) < 0)))) 16 rfl rfl rfl (by decide +kernel) (by decide +kernel) (by decide +kernel) (by decide +kernel) (fun _ _ _ h => h) (Want.plain rfl) (fun u101 => (x_pick rfl rfl (by rw [c48]; rfl))) (fun _ => ⟨hst94.rle', hst94.get (i := 0) rfl⟩) ?_
          refine LA_done (by decide +kernel) ?_
          rcases Bool.eq_false_or_eq_true (decide (cmpF (ys230[j_29]'(by omega)) (ys230[(j_29 - 1)]'(by omega)) < 0)) with c103 | c103
          · skip
            have q104 := of_decide_eq_true c103
            refine W_cond_true (by show Value.bool _ = _; exact congrArg Value.bool c103) ?_
            refine W_skip ?_
            refine W_seq ?_
            refine W_block ?_
            refine W_region_draw [15, 17] (fun w => Le R (hp w) ∧ Le cr31 (hp w)) hmix (by decide +kernel) (fun _ _ h => h) ?_
            have hst106 := hst94.draws (w93.drawn + 1)
            generalize draws w93 (w93.drawn + 1) = w105 at hst106 ⊢
            refine LA_takeP (v := (.slice (some ⟨b, 0, none⟩) xs.length cap)) 0 rfl rfl rfl (by decide +kernel) (by decide +kernel) (by decide +kernel) (by decide +kernel) (fun _ _ _ h => h) (Want.plain rfl) (fun u108 => rfl) (fun _ => ⟨hst106.rle', hst106.get (i := 0) rfl⟩) ?_
            refine LA_takeP (v := (.int .i64 (j_29 : Int))) 1 rfl rfl rfl (by decide +kernel) (by decide +kernel) (by decide +kernel) (by decide +kernel) (fun _ _ _ h => h) (Want.plain rfl) (fun u111 => rfl) (fun _ => ⟨hst106.rle', hst106.get (i := 0) rfl⟩) ?_
            refine LA_takeP (v := (.slice (some ⟨b, 0, none⟩) xs.length cap)) 2 rfl rfl rfl (by decide +kernel) (by decide +kernel) (by decide +kernel) (by decide +kernel) (fun _ _ _ h => h) (Want.plain rfl) (fun u114 => rfl) (fun _ => ⟨hst106.rle', hst106.get (i := 0) rfl⟩) ?_
            refine LA_takeP (v := (.int .i64 (j_29 : Int))) 3 rfl rfl rfl (by decide +kernel) (by decide +kernel) (by decide +kernel) (by decide +kernel) (fun _ _ _ h => h) (Want.plain rfl) (fun u117 => rfl) (fun _ => ⟨hst106.rle', hst106.get (i := 0) rfl⟩) ?_
            refine LA_takeP (v := (.int .i64 (((j_29 - 1) : Nat) : Int))) 4 rfl rfl rfl (by decide +kernel) (by decide +kernel) (by decide +kernel) (by decide +kernel) (fun _ _ _ h => h) (Want.plain rfl) (fun u120 => (x_sub_nat rfl rfl rfl (by omega) (by omega))) (fun _ => ⟨hst106.rle', hst106.get (i := 0) rfl⟩) ?_
            refine LA_takeP (v := (.slice (some ⟨b, 0, none⟩) xs.length cap)) 5 rfl rfl rfl (by decide +kernel) (by decide +kernel) (by decide +kernel) (by decide +kernel) (fun _ _ _ h => h) (Want.plain rfl) (fun u123 => rfl) (fun _ => ⟨hst106.rle', hst106.get (i := 0) rfl⟩) ?_
            refine LA_takeP (v := (.int .i64 (j_29 : Int))) 6 rfl rfl rfl (by decide +kernel) (by decide +kernel) (by decide +kernel) (by decide +kernel) (fun _ _ _ h => h) (Want.plain rfl) (fun u126 => rfl) (fun _ => ⟨hst106.rle', hst106.get (i := 0) rfl⟩) ?_
            refine LA_takeP (v := (.int .i64 (((j_29 - 1) : Nat) : Int))) 7 rfl rfl rfl (by decide +kernel) (by decide +kernel) (by decide +kernel) (by decide +kernel) (fun _ _ _ h => h) (Want.plain rfl) (fun u129 => (x_sub_nat rfl rfl rfl (by omega) (by omega))) (fun _ => ⟨hst106.rle', hst106.get (i := 0) rfl⟩) ?_
            obtain ⟨cl134, cs135, hr136, hcb137, hsg138⟩ := Row.at hi22 (j_29 - 1) (by omega)
            obtain rfl := tyFact_open hr136
            refine LA_takeP (v := (ptr b (0 + (j_29 - 1) * 3))) 8 rfl rfl rfl (by decide +kernel) (by decide +kernel) (by decide +kernel) (by decide +kernel) (fun _ _ _ h => h) (Want.plain rfl) (fun u132 => (x_indexAddr' rfl sl_29 ti_38 rfl rfl (by omega))) (fun _ => ⟨hst106.rle', hst106.get (i := 0) rfl⟩) ?_
            refine LA_take (v := (.agg #[(.int .i64 ((ys230[(j_29 - 1)]'(by omega)).kind)), (.int .i64 ((ys230[(j_29 - 1)]'(by omega)).n)), (.int .i64 ((ys230[(j_29 - 1)]'(by omega)).version))])) 9 rfl rfl rfl (by decide +kernel) (by decide +kernel) (by decide +kernel) (by decide +kernel) (by decide +kernel) (fun _ _ _ h => h) (Want.plain rfl) (fun u140 hF141 => (x_load rfl rfl (run_loadVar_agg ti_38 (hF141.2 _ _ hcb137) hsg138 rfl))) ⟨hst106.rle', hst106.get (i := 0) rfl⟩ ?_
            refine LA_takeP (v := (.slice (some ⟨b, 0, none⟩) xs.length cap)) 10 rfl rfl rfl (by decide +kernel) (by decide +kernel) (by decide +kernel) (by decide +kernel) (fun _ _ _ h => h) (Want.plain rfl) (fun u143 => rfl) (fun _ => ⟨hst106.rle', hst106.get (i := 0) rfl⟩) ?_
            refine LA_takeP (v := (.int .i64 (j_29 : Int))) 11 rfl rfl rfl (by decide +kernel) (by decide +kernel) (by decide +kernel) (by decide +kernel) (fun _ _ _ h => h) (Want.plain rfl) (fun u146 => rfl) (fun _ => ⟨hst106.rle', hst106.get (i := 0) rfl⟩) ?_
            obtain ⟨cl151, cs152, hr153, hcb154, hsg155⟩ := Row.at hi22 j_29 (by omega)
            obtain rfl := tyFact_open hr153
            refine LA_takeP (v := (ptr b (0 + j_29 * 3))) 12 rfl rfl rfl (by decide +kernel) (by decide +kernel) (by decide +kernel) (by decide +kernel) (fun _ _ _ h => h) (Want.plain rfl) (fun u149 => (x_indexAddr' rfl sl_29 ti_38 rfl rfl (by omega))) (fun _ => ⟨hst106.rle', hst106.get (i := 0) rfl⟩) ?_
            refine LA_take (v := (.agg #[(.int .i64 ((ys230[j_29]'(by omega)).kind)), (.int .i64 ((ys230[j_29]'(by omega)).n)), (.int .i64 ((ys230[j_29]'(by omega)).version))])) 13 rfl rfl rfl (by decide +kernel) (by decide +kernel) (by decide +kernel) (by decide +kernel) (by decide +kernel) (fun _ _ _ h => h) (Want.plain rfl) (fun u157 hF158 => (x_load rfl rfl (run_loadVar_agg ti_38 (hF158.2 _ _ hcb154) hsg155 rfl))) ⟨hst106.rle', hst106.get (i := 0) rfl⟩ ?_
            obtain ⟨cl162, cs163, hr164, hcb165, hsg166⟩ := Row.at hi22 j_29 (by omega)
            obtain rfl := tyFact_open hr164
            refine LA_takeP (v := (ptr b (0 + j_29 * 3))) 14 rfl rfl rfl (by decide +kernel) (by decide +kernel) (by decide +kernel) (by decide +kernel) (fun _ _ _ h => h) (Want.plain rfl) (fun u160 => (x_indexAddr' rfl sl_29 ti_38 rfl rfl (by omega))) (fun _ => ⟨hst106.rle', hst106.get (i := 0) rfl⟩) ?_
            refine LA_all [15] (by decide +kernel) (by simp) ?_
            intro i_ hi_
            simp only [List.mem_cons, List.not_mem_nil, or_false] at hi_
            subst hi_
            obtain ⟨c168, w169, hr170, hrow171, hst172⟩ := Row.store (P := Try.prog) (v := (.agg #[(.int .i64 ((ys230[(j_29 - 1)]'(by omega)).kind)), (.int .i64 ((ys230[(j_29 - 1)]'(by omega)).n)), (.int .i64 ((ys230[(j_29 - 1)]'(by omega)).version))])) (y := (ys230[(j_29 - 1)]'(by omega))) hi22 hst106 ti_38 j_29 (by omega) (tyFact_mk _ _ _ _)
            refine One_skip (i := 15) rfl rfl (Want.plain rfl) (x_store rfl rfl rfl hr170) (fun h => absurd h (by decide +kernel)) ?_
            obtain ⟨cl176, cs177, hr178, hcb179, hsg180⟩ := Row.at hrow171 (j_29 - 1) (by simp only [List.length_set]; omega)
            obtain rfl := tyFact_open hr178
            refine LA_takeP (v := (ptr b (0 + (j_29 - 1) * 3))) 16 rfl rfl rfl (by decide +kernel) (by decide +kernel) (by decide +kernel) (by decide +kernel) (fun _ _ _ h => h) (Want.plain rfl) (fun u174 => (x_indexAddr' rfl sl_29 ti_38 rfl rfl (by omega))) (fun h => absurd h (by decide +kernel)) ?_
            refine LA_all [17] (by decide +kernel) (by simp) ?_
            intro i_ hi_
            simp only [List.mem_cons, List.not_mem_nil, or_false] at hi_
            subst hi_
            obtain ⟨c182, w183, hr184, hrow185, hst186⟩ := Row.store (P := Try.prog) (v := (.agg #[(.int .i64 ((ys230[j_29]'(by omega)).kind)), (.int .i64 ((ys230[j_29]'(by omega)).n)), (.int .i64 ((ys230[j_29]'(by omega)).version))])) (y := (ys230[j_29]'(by omega))) hrow171 hst172 ti_38 (j_29 - 1) (by simp only [List.length_set]; omega) (tyFact_mk _ _ _ _)
            refine One_skip (i := 17) rfl rfl (Want.plain rfl) (x_store rfl rfl rfl hr184) (fun h => absurd h (by decide +kernel)) ?_
            refine LA_done (by decide +kernel) ?_
            refine W_region_lit ?_
            refine L_val (v := (.int .i64 (j_29 : Int))) (w' := w183) rfl rfl rfl rfl ?_
            refine L_val (v := (.int .i64 (((j_29 - 1) : Nat) : Int))) (w' := w183) rfl rfl rfl (x_sub_nat rfl rfl rfl (by omega) (by omega)) ?_
            refine L_val (v := (.int .i64 (((j_29 - 1) : Nat) : Int))) (w' := w183) rfl rfl rfl rfl ?_
            refine L_nil ?_
            refine ⟨2 * (j_29 - 1), by first | omega | (simp only [List.length_append, List.length_cons, List.length_nil]; omega), ?_⟩
            exact ⟨_, (j_29 - 1), ((ys230.set j_29 (ys230[(j_29 - 1)]'(by omega))).set (j_29 - 1) (ys230[j_29]'(by omega))), c182, (upd_of (upd_of (upd_of (upd_of (upd_of (upd_of (upd_of (upd_of (upd_of (upd_of (upd_of (upd_of rfl rfl) rfl) rfl) rfl) rfl) rfl) rfl) rfl) rfl) rfl) rfl) rfl), hmk18, hst186, hrow185, (by omega), (by omega), (by simp only [List.length_set]; omega), ((swap_perm (by omega) (by omega)).trans hf26), (InsAt.step hf27 (by omega) (by omega) (by omega) (le_of_lt (of_decide_eq_true c103))), rfl⟩
          · skip
            have q187 := of_decide_eq_false c103
            refine W_cond_false (by show Value.bool _ = _; exact congrArg Value.bool c103) ?_
            refine W_exit ?_
            refine W_region_lit ?_
            refine L_val (v := (.int .i64 (i_12 : Int))) (w' := w93) rfl rfl rfl rfl ?_
            refine L_val (v := (.int .i64 ((i_12 + 1 : Nat) : Int))) (w' := w93) rfl rfl rfl (x_add_nat rfl rfl rfl (by omega)) ?_
            refine L_val (v := (.int .i64 ((i_12 + 1 : Nat) : Int))) (w' := w93) rfl rfl rfl rfl ?_
            refine L_nil ?_
            refine ⟨xs.length + 1 - (i_12 + 1), by first | omega | (simp only [List.length_append, List.length_cons, List.length_nil]; omega), ?_⟩
            exact ⟨_, (i_12 + 1), ys230, cr31, (upd_of (upd_of (upd_of (upd_of (upd_of (upd_of (upd_of rfl rfl) rfl) rfl) rfl) rfl) rfl) rfl), hmk18, hst94, hi22, (by omega), hf25, hf26, (InsAt.stop hf27 (by omega) (by omega) leF_trans (le_of_nlt (of_decide_eq_false c103))), (by omega), rfl⟩
        · skip
          have q188 := of_decide_eq_false c48
          refine LA_leaveP 4 rfl rfl rfl (by decide +kernel) (by decide +kernel) (by decide +kernel) (by decide +kernel) (fun _ _ _ h => h) (Want.of rfl rfl rfl rfl (by rw [c48]; rfl)) (fun _ => ⟨hst34.rle', hst34.get (i := 0) rfl⟩) ?_
          refine LA_leaveP 5 rfl rfl rfl (by decide +kernel) (by decide +kernel) (by decide +kernel) (by decide +kernel) (fun _ _ _ h => h) (Want.of rfl rfl rfl rfl (by rw [c48]; rfl)) (fun _ => ⟨hst34.rle', hst34.get (i := 0) rfl⟩) ?_
          refine LA_leaveP 6 rfl rfl rfl (by decide +kernel) (by decide +kernel) (by decide +kernel) (by decide +kernel) (fun _ _ _ h => h) (Want.of rfl rfl rfl rfl (by rw [c48]; rfl)) (fun _ => ⟨hst34.rle', hst34.get (i := 0) rfl⟩) ?_
          refine LA_leaveP 7 rfl rfl rfl (by decide +kernel) (by decide +kernel) (by decide +kernel) (by decide +kernel) (fun _ _ _ h => h) (Want.of rfl rfl rfl rfl (by rw [c48]; rfl)) (fun _ => ⟨hst34.rle', hst34.get (i := 0) rfl⟩) ?_
          refine LA_leaveP 8 rfl rfl rfl (by decide +kernel) (by decide +kernel) (by decide +kernel) (by decide +kernel) (fun _ _ _ h => h) (Want.of rfl rfl rfl rfl (by rw [c48]; rfl)) (fun _ => ⟨hst34.rle', hst34.get (i := 0) rfl⟩) ?_
          refine LA_leaveP 9 rfl rfl rfl (by decide +kernel) (by decide +kernel) (by decide +kernel) (by decide +kernel) (fun _ _ _ h => h) (Want.of rfl rfl rfl rfl (by rw [c48]; rfl)) (fun _ => ⟨hst34.rle', hst34.get (i := 0) rfl⟩) ?_
          refine LA_leaveP 10 rfl rfl rfl (by decide +kernel) (by decide +kernel) (by decide +kernel) (by decide +kernel) (fun _ _ _ h => h) (Want.of rfl rfl rfl rfl (by rw [c48]; rfl)) (fun _ => ⟨hst34.rle', hst34.get (i := 0) rfl⟩) ?_
          refine LA_leaveP 11 rfl rfl rfl (by decide +kernel) (by decide +kernel) (by decide +kernel) (by decide +kernel) (fun _ _ _ h => h) (Want.of rfl rfl rfl rfl (by rw [c48]; rfl)) (fun _ => ⟨hst34.rle', hst34.get (i := 0) rfl⟩) ?_
          refine LA_leaveP 12 rfl rfl rfl (by decide +kernel) (by decide +kernel) (by decide +kernel) (by decide +kernel) (fun _ _ _ h => h) (Want.of rfl rfl rfl rfl (by rw [c48]; rfl)) (fun _ => ⟨hst34.rle', hst34.get (i := 0) rfl⟩) ?_
          refine LA_leaveP 13 rfl rfl rfl (by decide +kernel) (by decide +kernel) (by decide +kernel) (by decide +kernel) (fun _ _ _ h => h) (Want.of rfl rfl rfl rfl (by rw [c48]; rfl)) (fun _ => ⟨hst34.rle', hst34.get (i := 0) rfl⟩) ?_
          refine LA_leaveP 14 rfl rfl rfl (by decide +kernel) (by decide +kernel) (by decide +kernel) (by decide +kernel) (fun _ _ _ h => h) (Want.of rfl rfl rfl rfl (by rw [c48]; rfl)) (fun _ => ⟨hst34.rle', hst34.get (i := 0) rfl⟩) ?_
          refine LA_leaveP 15 rfl rfl rfl (by decide +kernel) (by decide +kernel) (by decide +kernel) (by decide +kernel) (fun _ _ _ h => h) (Want.of rfl rfl rfl rfl (by rw [c48]; rfl)) (fun _ => ⟨hst34.rle', hst34.get (i := 0) rfl⟩) ?_
          refine LA_takeP (v := (.bool false)) 16 rfl rfl rfl (by decide +kernel) (by decide +kernel) (by decide +kernel) (by decide +kernel) (fun _ _ _ h => h) (Want.plain rfl) (fun u202 => (x_pick rfl rfl (by rw [c48]; rfl))) (fun _ => ⟨hst34.rle', hst34.get (i := 0) rfl⟩) ?_
          refine LA_done (by decide +kernel) ?_
          refine W_cond_false (by show Value.bool _ = _; exact congrArg Value.bool rfl) ?_
          refine W_exit ?_
          refine W_region_lit ?_
          refine L_val (v := (.int .i64 (i_12 : Int))) (w' := w33) rfl rfl rfl rfl ?_
          refine L_val (v := (.int .i64 ((i_12 + 1 : Nat) : Int))) (w' := w33) rfl rfl rfl (x_add_nat rfl rfl rfl (by omega)) ?_
          refine L_val (v := (.int .i64 ((i_12 + 1 : Nat) : Int))) (w' := w33) rfl rfl rfl rfl ?_
          refine L_nil ?_
          refine ⟨xs.length + 1 - (i_12 + 1), by first | omega | (simp only [List.length_append, List.length_cons, List.length_nil]; omega), ?_⟩
          exact ⟨_, (i_12 + 1), ys230, cr31, (upd_of (upd_of (upd_of (upd_of (upd_of (upd_of (upd_of rfl rfl) rfl) rfl) rfl) rfl) rfl) rfl), hmk18, hst34, hi22, (by omega), hf25, hf26, (InsAt.stopz hf27 (by omega)), (by omega), rfl⟩
    · skip
      have q204 := of_decide_eq_false c16
      refine W_cond_false (by show Value.bool _ = _; exact congrArg Value.bool c16) ?_
      refine W_exit ?_
      refine ⟨_, _, res_run (rs := []) (vs := []) Try.results54 .nil hmk1, ?_⟩
      exact ⟨_, R, [cr14], rfl, hst2, rfl, cr14, _, rfl, hf8, hi5, SortedTo.all hf9 (by omega)⟩

theorem pdqsortF_spec {w : World} {R c : Hp} {b cap N : Nat} {xs : List Fact} (hs : Sats w R [c]) (hlen : xs.length ≤ 12) (hrow : Row tyFact 38 b N R xs c) {g : Nat} {cb : Array Value} (eg : Ent Try.prog g) (hcmp : ∀ w1 x y, Le R (hp w1) → smallF x → smallF y → Calls Try.prog g (#[encFact x, encFact y] ++ cb) w1 fun e w' => e = .returned (int (cmpF x y)) ∧ Grow w1 w') (hsm : ∀ x, x ∈ xs → smallF x) (lim : Int) :
    Calls Try.prog 50 #[.slice (some ⟨b, 0, none⟩) xs.length cap, int 0, int (xs.length : Int), int lim, .func (.func g) #[] cb] w (Comes' w R [c] fun v' R' L' => v' = .tuple #[] ∧ ∃ c' ys, L' = [c'] ∧ ys.Perm xs ∧ Row tyFact 38 b N R' ys c' ∧ SortedTo leF ys ys.length) := by
  have hst := Step.refl hs
  refine calls_of_W (n := 148) Try.func50 rfl Try.ntmps50 (Nat.le_of_ble_eq_true rfl) ?_
  refine W_seq ?_
  refine W_region_lit ?_
  refine L_val (v := (.bool true)) (w' := w) rfl rfl rfl rfl ?_
  refine L_nil ?_
  refine W_seq ?_
  refine W_region_lit ?_
  refine L_val (v := (.bool true)) (w' := w) rfl rfl rfl rfl ?_
  refine L_nil ?_
  refine W_block ?_
  refine W_loop_once ?_
  refine W_block ?_
  refine W_seq ?_
  refine W_region_lit ?_
  refine L_val (v := (.int .i64 (xs.length : Int))) (w' := w) rfl rfl rfl rfl ?_
  refine L_val (v := (.int .i64 0)) (w' := w) rfl rfl rfl rfl ?_
  refine L_val (v := (.int .i64 (((xs.length - 0) : Nat) : Int))) (w' := w) rfl rfl rfl (x_sub_nat rfl rfl rfl (by omega) (by omega)) ?_
  refine L_val (v := (.int .i64 (((xs.length - 0) : Nat) : Int))) (w' := w) rfl rfl rfl rfl ?_
  refine L_nil ?_
  refine W_seq ?_
  refine W_seq ?_
  refine W_region_lit ?_
  refine L_val (v := (.int .i64 (((xs.length - 0) : Nat) : Int))) (w' := w) rfl rfl rfl rfl ?_
  refine L_val (v := (.bool (decide ((((xs.length - 0) : Nat) : Int) ≤ 12)))) (w' := w) rfl rfl rfl (by kernel_rfl) ?_
  refine L_nil ?_
  have c1 : (decide ((((xs.length - 0) : Nat) : Int) ≤ 12)) = true := decide_eq_true (by omega)
  have q2 := of_decide_eq_true c1
  refine W_cond_true (by show Value.bool _ = _; exact congrArg Value.bool c1) ?_
  refine W_seq ?_
  refine W_region_lit ?_
  refine L_val (v := (.slice (some ⟨b, 0, none⟩) xs.length cap)) (w' := w) rfl rfl rfl rfl ?_
  refine L_val (v := (.int .i64 0)) (w' := w) rfl rfl rfl rfl ?_
  refine L_val (v := (.int .i64 (xs.length : Int))) (w' := w) rfl rfl rfl rfl ?_
  refine L_val (v := (.func (.func g) #[] cb)) (w' := w) rfl rfl rfl rfl ?_
  have hst3 := hst
  refine L_callS [c] [] hst3 rfl rfl rfl (x_call (vs := #[(.slice (some ⟨b, 0, none⟩) xs.length cap), (.int .i64 0), (.int .i64 (xs.length : Int)), (.func (.func g) #[] cb)]) rfl rfl (by kernel_rfl) ent_54) (insertionSortF_spec (xs := xs) (hst3.sats.take 1 rfl) (by omega) hrow eg hcmp hsm) (fun v4 w5 R6 L7 hp8 hle9 hst10 => ?_)
  obtain ⟨rfl, c11, ys12, rfl, hp13, hrow14, hsrt15⟩ := hp8
  refine L_nil ?_
  refine W_ret ?_
  refine ⟨_, _, res_run (rs := []) (vs := []) Try.results50 .nil rfl, ?_⟩
  exact ⟨_, _, [c11], rfl, hst10, rfl, c11, _, rfl, hp13, hrow14, hsrt15⟩

theorem SortFunc_spec {w : World} {R c : Hp} {b cap N : Nat} {xs : List Fact} (hs : Sats w R [c]) (hlen : xs.length ≤ 12) (hrow : Row tyFact 38 b N R xs c) {g : Nat} {cb : Array Value} (eg : Ent Try.prog g) (hcmp : ∀ w1 x y, Le R (hp w1) → smallF x → smallF y → Calls Try.prog g (#[encFact x, encFact y] ++ cb) w1 fun e w' => e = .returned (int (cmpF x y)) ∧ Grow w1 w') (hsm : ∀ x, x ∈ xs → smallF x) :
    Calls Try.prog 39 #[.slice (some ⟨b, 0, none⟩) xs.length cap, .func (.func g) #[] cb] w (Comes' w R [c] fun v' R' L' => v' = .tuple #[] ∧ ∃ c' ys, L' = [c'] ∧ ys.Perm xs ∧ Row tyFact 38 b N R' ys c' ∧ SortedTo leF ys ys.length) := by
  have hst := Step.refl hs
  refine calls_of_W (n := 14) Try.func39 rfl Try.ntmps39 (Nat.le_of_ble_eq_true rfl) ?_
  refine W_seq ?_
  refine W_region_lit ?_
  refine L_val (v := (.slice (some ⟨b, 0, none⟩) xs.length cap)) (w' := w) rfl rfl rfl rfl ?_
  refine L_val (v := (.int .i64 (xs.length : Int))) (w' := w) rfl rfl rfl (x_len_slice rfl sl_29 rfl) ?_
  refine L_val (v := (.int .i64 (xs.length : Int))) (w' := w) rfl rfl rfl rfl ?_
  refine L_nil ?_
  refine W_region_lit ?_
  refine L_val (v := (.slice (some ⟨b, 0, none⟩) xs.length cap)) (w' := w) rfl rfl rfl rfl ?_
  refine L_val (v := (.int .i64 (xs.length : Int))) (w' := w) rfl rfl rfl rfl ?_
  refine L_val (v := (.int .i64 (xs.length : Int))) (w' := w) rfl rfl rfl rfl ?_
  refine L_val (v := (.int .u64 (xs.length : Int))) (w' := w) rfl rfl rfl (x_conv12 rfl rfl hlen) ?_
  refine L_callG hst (v := (.int .i64 (bl xs.length))) rfl rfl rfl (x_call (vs := #[(.int .u64 (xs.length : Int))]) rfl rfl (by kernel_rfl) ent_51) (Len_spec xs.length (by omega) (Le.refl _)) (fun w1 hst2 => ?_)
  refine L_val (v := (.func (.func g) #[] cb)) (w' := w1) rfl rfl rfl rfl ?_
  have hst3 := hst2
  refine L_callS [c] [] hst3 rfl rfl rfl (x_call (vs := #[(.slice (some ⟨b, 0, none⟩) xs.length cap), (.int .i64 0), (.int .i64 (xs.length : Int)), (.int .i64 (bl xs.length)), (.func (.func g) #[] cb)]) rfl rfl (by kernel_rfl) ent_50) (pdqsortF_spec (xs := xs) (hst3.sats.take 1 rfl) (by omega) hrow eg hcmp hsm (bl xs.length)) (fun v4 w5 R6 L7 hp8 hle9 hst10 => ?_)
  obtain ⟨rfl, c11, ys12, rfl, hp13, hrow14, hsrt15⟩ := hp8
  refine L_nil ?_
  refine ⟨_, _, res_run (rs := []) (vs := []) Try.results39 .nil rfl, ?_⟩
  exact ⟨_, _, [c11], rfl, hst10, rfl, c11, _, rfl, hp13, hrow14, hsrt15⟩

end Go.Fx.Ytlfabjfajcbdcaa
