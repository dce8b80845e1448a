/-
  Chapter 27: the walks, printed by gen.py.
-/
import Derived.Test.YtlfabjfajcbdcaaAs1
set_option linter.unusedSimpArgs false
set_option linter.unusedVariables false
namespace Go.Fx.Ytlfabjfajcbdcaa
open Go Go.Fx Go.Proofs
set_option maxRecDepth 20000

theorem ent_16 : Ent Try.prog 16 := fun _ _ => by kernel_rfl
theorem ent_23 : Ent Try.prog 23 := fun _ _ => by kernel_rfl
theorem ent_27 : Ent Try.prog 27 := fun _ _ => by kernel_rfl
theorem ent_30 : Ent Try.prog 30 := fun _ _ => by kernel_rfl
theorem ent_43 : Ent Try.prog 43 := fun _ _ => by kernel_rfl
theorem ent_47 : Ent Try.prog 47 := fun _ _ => by kernel_rfl
theorem hmix : Try.prog.follows .mixedOrders = true := by kernel_rfl
theorem mt_57 : Try.prog.underlying 57 = some (.map 74 3) := by kernel_rfl
theorem mt_58 : Try.prog.underlying 58 = some (.map 3 29) := by kernel_rfl
theorem mt_75 : Try.prog.underlying 75 = some (.map 74 4) := by kernel_rfl
theorem sl_29 : SL Try.prog 29 38 := Try.underlying29
theorem ti_25 : TI Try.prog 25 false 1 8 (.pointer none) := ⟨by kernel_rfl, by kernel_rfl⟩
theorem ti_29 : TI Try.prog 29 false 1 24 (.slice none 0 0) := ⟨by kernel_rfl, by kernel_rfl⟩
theorem ti_3 : TI Try.prog 3 false 1 8 (.int .i64 0) := ⟨by kernel_rfl, by kernel_rfl⟩
theorem ti_38 : TI Try.prog 38 true 3 24 (.agg #[(.int .i64 0), (.int .i64 0), (.int .i64 0)]) := ⟨by kernel_rfl, by kernel_rfl⟩
theorem ti_4 : TI Try.prog 4 false 1 1 (.bool false) := ⟨by kernel_rfl, by kernel_rfl⟩
theorem ti_57 : TI Try.prog 57 false 1 8 (.map none) := ⟨by kernel_rfl, by kernel_rfl⟩
theorem ti_58 : TI Try.prog 58 false 1 8 (.map none) := ⟨by kernel_rfl, by kernel_rfl⟩
theorem ti_74 : TI Try.prog 74 true 2 16 (.agg #[(.int .i64 0), (.int .i64 0)]) := ⟨by kernel_rfl, by kernel_rfl⟩

theorem Version_spec {w : World} {R cV : Hp} {p : Nat} {bv bm : Option Nat} {m : List (Th × Int)} (kind n : Int) (hR : Le R (hp w)) (h1 : Le (one p (.cells #[.map bv, .map bm] 60 (0, 0))) R) (hm : MapC kk (vE (Value.int .i64)) bv m cV) (h2 : Le cV R) :
    Calls Try.prog 16 #[ptr p 0, int kind, int n] w fun e w' => e = .returned (int (ver m (kind, n))) ∧ Grow w w' := by
  have hst := Step.ro hR
  refine calls_of_W (n := 25) Try.func16 rfl Try.ntmps16 (Nat.le_of_ble_eq_true rfl) ?_
  refine W_seq ?_
  refine W_region_lit ?_
  refine L_val (v := (.int .i64 0)) (w' := w) rfl rfl rfl rfl ?_
  refine L_nil ?_
  refine W_seq ?_
  refine W_seq ?_
  refine W_region_lit ?_
  refine L_val (v := (ptr p 0)) (w' := w) rfl rfl rfl rfl ?_
  refine L_val (v := (.bool false)) (w' := w) rfl rfl rfl (by kernel_rfl) ?_
  refine L_nil ?_
  refine W_cond_false (by show Value.bool _ = _; exact congrArg Value.bool rfl) ?_
  refine W_skip ?_
  refine W_seq ?_
  refine W_region_lit ?_
  refine L_val (v := (ptr p 0)) (w' := w) rfl rfl rfl rfl ?_
  refine L_val (v := (ptr p 0)) (w' := w) rfl rfl rfl rfl ?_
  refine L_val (v := (ptr p 0)) (w' := w) rfl rfl rfl (by kernel_rfl) ?_
  refine L_val (v := (.map bv)) (w' := w) rfl rfl rfl (x_load rfl rfl (run_loadVar_one ti_57 (hst.rle' _ _ (h1 _ _ (one_self _ _))) rfl)) ?_
  refine L_val (v := (.int .i64 kind)) (w' := w) rfl rfl rfl rfl ?_
  refine L_val (v := (.int .i64 n)) (w' := w) rfl rfl rfl rfl ?_
  refine L_val (v := (.agg #[(.int .i64 kind), (.int .i64 n)])) (w' := w) rfl rfl rfl (by kernel_rfl) ?_
  obtain ⟨v1, hr2, hv3⟩ := MapC.lookupD (w := w) hm (Le.trans h2 hst.rle') law74 mt_57 ti_3 (kind, n) true 0 rfl
  have hv3' : v1 = .int .i64 ((AL.get m (kind, n)).getD 0) := hv3
  subst hv3'
  refine L_val (v := (.tuple #[(.int .i64 ((AL.get m (kind, n)).getD 0)), (.bool ((AL.get m (kind, n)).isSome))])) (w' := w) rfl rfl rfl (x_lookup rfl rfl rfl hr2) ?_
  refine L_val (v := (.tuple #[(.int .i64 ((AL.get m (kind, n)).getD 0)), (.bool ((AL.get m (kind, n)).isSome))])) (w' := w) rfl rfl rfl rfl ?_
  refine L_val (v := (.int .i64 ((AL.get m (kind, n)).getD 0))) (w' := w) rfl rfl rfl (by kernel_rfl) ?_
  refine L_val (v := (.bool ((AL.get m (kind, n)).isSome))) (w' := w) rfl rfl rfl (by kernel_rfl) ?_
  refine L_val (v := (.int .i64 ((AL.get m (kind, n)).getD 0))) (w' := w) rfl rfl rfl rfl ?_
  refine L_val (v := (.bool ((AL.get m (kind, n)).isSome))) (w' := w) rfl rfl rfl rfl ?_
  refine L_nil ?_
  refine W_seq ?_
  refine W_seq ?_
  refine W_region_lit ?_
  refine L_val (v := (.bool ((AL.get m (kind, n)).isSome))) (w' := w) rfl rfl rfl rfl ?_
  refine L_val (v := (.bool (!((AL.get m (kind, n)).isSome)))) (w' := w) rfl rfl rfl rfl ?_
  refine L_nil ?_
  rcases Bool.eq_false_or_eq_true ((AL.get m (kind, n)).isSome) with c4 | c4
  · skip
    refine W_cond_false (by show Value.bool _ = _; exact congrArg Value.bool (by rw [c4]; rfl)) ?_
    refine W_skip ?_
    refine W_seq ?_
    refine W_region_lit ?_
    refine L_val (v := (.int .i64 ((AL.get m (kind, n)).getD 0))) (w' := w) rfl rfl rfl rfl ?_
    refine L_val (v := (.int .i64 ((AL.get m (kind, n)).getD 0))) (w' := w) rfl rfl rfl rfl ?_
    refine L_nil ?_
    refine W_ret ?_
    refine ⟨_, _, res_run (rs := [.tmp 6]) (vs := [(.int .i64 ((AL.get m (kind, n)).getD 0))]) Try.results16 (.cons (.tmp rfl) .nil) rfl, ?_⟩
    exact ⟨ret_int (ver_some c4), hst.grow⟩
  · skip
    refine W_cond_true (by show Value.bool _ = _; exact congrArg Value.bool (by rw [c4]; rfl)) ?_
    refine W_seq ?_
    refine W_region_lit ?_
    refine L_val (v := (.int .i64 (-1))) (w' := w) rfl rfl rfl rfl ?_
    refine L_nil ?_
    refine W_ret ?_
    refine ⟨_, _, res_run (rs := [.tmp 6]) (vs := [(.int .i64 (-1))]) Try.results16 (.cons (.tmp rfl) .nil) rfl, ?_⟩
    exact ⟨ret_int (ver_none c4), hst.grow⟩

theorem IndexFunc_spec {w : World} {R : Hp} {v : Value} {xs : List Fact} {g : Nat} {cb : Array Value} (pr : Fact → Bool) (hR : Le R (hp w)) (hv : RdS tyFact R v xs) (hlen : xs.length ≤ 4611686018427387904) (eg : Ent Try.prog g) (hg : ∀ w1, Grow w w1 → ∀ x, x ∈ xs → Calls Try.prog g (#[encFact x] ++ cb) w1 fun e w' => e = .returned (.bool (pr x)) ∧ Grow w1 w') :
    Calls Try.prog 47 #[v, .func (.func g) #[] cb] w fun e w' => e = .returned (int (idxF pr xs)) ∧ Grow w w' := by
  have hst := Step.ro hR
  refine calls_of_W (n := 19) Try.func47 rfl Try.ntmps47 (Nat.le_of_ble_eq_true rfl) ?_
  refine W_seq ?_
  refine W_region_lit ?_
  refine L_val (v := (.int .i64 0)) (w' := w) rfl rfl rfl rfl ?_
  refine L_nil ?_
  refine W_seq ?_
  refine W_seq ?_
  refine W_region_lit ?_
  refine L_val (v := v) (w' := w) rfl rfl rfl rfl ?_
  obtain ⟨a1, cap2, e3, hc4⟩ := hv.shape
  subst e3
  refine L_val (v := (.int .i64 (xs.length : Int))) (w' := w) rfl rfl rfl (x_len_slice rfl sl_29 rfl) ?_
  refine L_val (v := (.int .i64 0)) (w' := w) rfl rfl rfl rfl ?_
  refine L_nil ?_
  refine W_block ?_
  refine W_loop (I := fun σ w_ m_ => ∃ (σ0 : Fr) (k : Nat), σ = upd (upd (upd (upd (upd σ0 0 (.slice a1 xs.length cap2)) 1 (.func (.func g) #[] cb)) 6 (.slice a1 xs.length cap2)) 7 (.int .i64 (xs.length : Int))) 8 (.int .i64 (k : Int)) ∧ mks (σ0 0) = [] ∧ Step w R [] w_ R [] ∧ k ≤ xs.length ∧ (∀ j (hj : j < xs.length), j < k → pr xs[j] = false) ∧ m_ = xs.length - k) (m := xs.length - 0) ?_ ?_
  · skip
    exact ⟨_, 0, (upd_of (upd_of (upd_of (upd_of (upd_of rfl rfl) rfl) rfl) rfl) rfl), rfl, hst, (by omega), (fun j hj h => absurd h (by omega)), rfl⟩
  · skip
    rintro m13 σ_ w7 ⟨s11, k12, rfl, hmk5, hst6, hf9, hf10, rfl⟩
    refine W_seq ?_
    refine W_region_lit ?_
    refine L_val (v := (.bool (decide ((k12 : Int) < (xs.length : Int))))) (w' := w7) rfl rfl rfl (by kernel_rfl) ?_
    refine L_nil ?_
    refine W_seq ?_
    rcases Bool.eq_false_or_eq_true (decide ((k12 : Int) < (xs.length : Int))) with c14 | c14
    · skip
      have q15 := of_decide_eq_true c14
      refine W_cond_true (by show Value.bool _ = _; exact congrArg Value.bool c14) ?_
      refine W_skip ?_
      refine W_seq ?_
      refine W_block ?_
      refine W_seq ?_
      refine W_region_lit ?_
      refine L_val (v := (.int .i64 (k12 : Int))) (w' := w7) rfl rfl rfl rfl ?_
      refine L_val (v := (.int .i64 (k12 : Int))) (w' := w7) rfl rfl rfl rfl ?_
      refine L_nil ?_
      refine W_seq ?_
      refine W_region_lit ?_
      refine L_val (v := (.func (.func g) #[] cb)) (w' := w7) rfl rfl rfl rfl ?_
      refine L_val (v := (.slice a1 xs.length cap2)) (w' := w7) rfl rfl rfl rfl ?_
      refine L_val (v := (.int .i64 (k12 : Int))) (w' := w7) rfl rfl rfl rfl ?_
      obtain ⟨b16, off17, cap18, cs19, T20, fz21, e22, hc23, hb24, he25⟩ := hv.open (by omega)
      cases e22
      obtain ⟨cl26, hs27, hr28⟩ := he25.at k12 (by omega)
      obtain rfl := tyFact_open hr28
      refine L_val (v := (ptr b16 (off17 + k12 * 3))) (w' := w7) rfl rfl rfl (x_indexAddr' rfl sl_29 ti_38 rfl rfl (by omega)) ?_
      refine L_val (v := (.agg #[(.int .i64 ((xs[k12]'(by omega)).kind)), (.int .i64 ((xs[k12]'(by omega)).n)), (.int .i64 ((xs[k12]'(by omega)).version))])) (w' := w7) rfl rfl rfl (x_load rfl rfl (run_loadVar_agg ti_38 (hst6.rle' _ _ hb24) hs27 rfl)) ?_
      have hk32 : k12 < xs.length := by omega
      have hc31 := hg w7 hst6.grow xs[k12] (List.getElem_mem hk32)
      refine L_callG hst6 (v := .bool (pr xs[k12])) rfl rfl rfl (x_callv (vs := #[encFact xs[k12]] ++ cb) rfl rfl (by simp [ev, upd, encFact]) eg) hc31 (fun w29 hst30 => ?_)
      refine L_nil ?_
      rcases Bool.eq_false_or_eq_true (pr xs[k12]) with c33 | c33
      · skip
        refine W_cond_true (by show Value.bool _ = _; exact congrArg Value.bool c33) ?_
        refine W_seq ?_
        refine W_region_lit ?_
        refine L_val (v := (.int .i64 (k12 : Int))) (w' := w29) rfl rfl rfl rfl ?_
        refine L_val (v := (.int .i64 (k12 : Int))) (w' := w29) rfl rfl rfl rfl ?_
        refine L_nil ?_
        refine W_ret ?_
        refine ⟨_, _, res_run (rs := [.tmp 4]) (vs := [(.int .i64 (k12 : Int))]) Try.results47 (.cons (.tmp rfl) .nil) hmk5, ?_⟩
        exact ⟨ret_int (idxF_at (by omega) hf10 c33).symm, hst30.grow⟩
      · skip
        refine W_cond_false (by show Value.bool _ = _; exact congrArg Value.bool c33) ?_
        refine W_skip ?_
        refine W_region_lit ?_
        refine L_val (v := (.int .i64 ((k12 + 1 : Nat) : Int))) (w' := w29) rfl rfl rfl (x_add_nat rfl rfl rfl (by omega)) ?_
        refine L_val (v := (.int .i64 ((k12 + 1 : Nat) : Int))) (w' := w29) rfl rfl rfl rfl ?_
        refine L_nil ?_
        refine ⟨xs.length - (k12 + 1), by first | omega | (simp only [List.length_append, List.length_cons, List.length_nil]; omega), ?_⟩
        exact ⟨_, (k12 + 1), (upd_of (upd_of (upd_of (upd_of (upd_of rfl rfl) rfl) rfl) rfl) rfl), hmk5, hst30, (by omega), (all_step hf10 c33), rfl⟩
    · skip
      have q34 := of_decide_eq_false c14
      refine W_cond_false (by show Value.bool _ = _; exact congrArg Value.bool c14) ?_
      refine W_exit ?_
      refine W_seq ?_
      refine W_region_lit ?_
      refine L_val (v := (.int .i64 (-1))) (w' := w7) rfl rfl rfl rfl ?_
      refine L_nil ?_
      refine W_ret ?_
      refine ⟨_, _, res_run (rs := [.tmp 4]) (vs := [(.int .i64 (-1))]) Try.results47 (.cons (.tmp rfl) .nil) hmk5, ?_⟩
      exact ⟨ret_int (idxF_none (fun j hj => hf10 j hj (by omega))).symm, hst6.grow⟩

theorem ContainsFunc_spec {w : World} {R : Hp} {v : Value} {xs : List Fact} {g : Nat} {cb : Array Value} (pr : Fact → Bool) (hR : Le R (hp w)) (hv : RdS tyFact R v xs) (hlen : xs.length ≤ 4611686018427387904) (eg : Ent Try.prog g) (hg : ∀ w1, Grow w w1 → ∀ x, x ∈ xs → Calls Try.prog g (#[encFact x] ++ cb) w1 fun e w' => e = .returned (.bool (pr x)) ∧ Grow w1 w') :
    Calls Try.prog 30 #[v, .func (.func g) #[] cb] w fun e w' => e = .returned (.bool (xs.any pr)) ∧ Grow w w' := by
  have hst := Step.ro hR
  refine calls_of_W (n := 9) Try.func30 rfl Try.ntmps30 (Nat.le_of_ble_eq_true rfl) ?_
  refine W_seq ?_
  refine W_region_lit ?_
  refine L_val (v := (.bool false)) (w' := w) rfl rfl rfl rfl ?_
  refine L_nil ?_
  refine W_seq ?_
  refine W_region_lit ?_
  refine L_val (v := v) (w' := w) rfl rfl rfl rfl ?_
  refine L_val (v := (.func (.func g) #[] cb)) (w' := w) rfl rfl rfl rfl ?_
  obtain ⟨a1, cap2, e3, hc4⟩ := hv.shape
  subst e3
  refine L_callG hst (v := (.int .i64 (idxF pr xs))) rfl rfl rfl (x_call (vs := #[(.slice a1 xs.length cap2), (.func (.func g) #[] cb)]) rfl rfl (by kernel_rfl) ent_47) (IndexFunc_spec (v := (.slice a1 xs.length cap2)) (xs := xs) pr (Le.refl _) (RdS.mono hv hst.rle') hlen eg (fun w1 (h1 : Grow w w1) => hg w1 (hst.grow.trans h1))) (fun w5 hst6 => ?_)
  refine L_val (v := (.bool (decide (idxF pr xs ≥ 0)))) (w' := w5) rfl rfl rfl (by kernel_rfl) ?_
  refine L_val (v := (.bool (decide (idxF pr xs ≥ 0)))) (w' := w5) rfl rfl rfl rfl ?_
  refine L_nil ?_
  refine W_ret ?_
  refine ⟨_, _, res_run (rs := [.tmp 4]) (vs := [(.bool (decide (idxF pr xs ≥ 0)))]) Try.results30 (.cons (.tmp rfl) .nil) rfl, ?_⟩
  exact ⟨ret_bool (idxF_ge pr xs), hst6.grow⟩

theorem current1_spec {w : World} {R cV : Hp} {p : Nat} {bv bm : Option Nat} {m : List (Th × Int)} {q : Nat} (f : Fact) (h0 : Le (one q (.cells #[ptr p 0] 25 (0, 0))) R) (hR : Le R (hp w)) (h1 : Le (one p (.cells #[.map bv, .map bm] 60 (0, 0))) R) (hm : MapC kk (vE (Value.int .i64)) bv m cV) (h2 : Le cV R) :
    Calls Try.prog 43 (#[encFact f] ++ #[ptr q 0]) w fun e w' => e = .returned (.bool (stale m f)) ∧ Grow w w' := by
  have hst := Step.ro hR
  refine calls_of_W (n := 17) Try.func43 rfl Try.ntmps43 (Nat.le_of_ble_eq_true rfl) ?_
  refine W_seq ?_
  refine W_region_lit ?_
  refine L_new hst (v := fun b => ptr b 0) (ob := .cells #[(.int .i64 f.kind), (.int .i64 f.n), (.int .i64 f.version)] 38 (0, 0)) rfl rfl rfl (by kernel_rfl) (fun b1 w2 hst3 => ?_)
  refine L_val (v := (.bool false)) (w' := w2) rfl rfl rfl rfl ?_
  refine L_nil ?_
  refine W_seq ?_
  refine W_region_draw [] (fun w => Le R (hp w) ∧ Le (one b1 (.cells #[(.int .i64 f.kind), (.int .i64 f.n), (.int .i64 f.version)] 38 (0, 0))) (hp w)) hmix (by decide +kernel) (fun _ _ h => h) ?_
  have hst5 := hst3.draws (w2.drawn + 1)
  generalize draws w2 (w2.drawn + 1) = w4 at hst5 ⊢
  refine LA_take (v := (ptr p 0)) 0 rfl rfl rfl (by decide +kernel) (by decide +kernel) (by decide +kernel) (by decide +kernel) (by decide +kernel) (fun _ _ _ h => h) (Want.plain rfl) (fun u7 hF8 => (x_load rfl rfl (run_loadVar_one ti_25 ((Le.trans h0 hF8.1) _ _ (one_self _ _)) rfl))) ⟨hst5.rle', hst5.get (i := 0) rfl⟩ ?_
  refine LA_takeP (v := (ptr p 0)) 1 rfl rfl rfl (by decide +kernel) (by decide +kernel) (by decide +kernel) (by decide +kernel) (fun _ _ _ h => h) (Want.plain rfl) (fun u10 => rfl) (fun _ => ⟨hst5.rle', hst5.get (i := 0) rfl⟩) ?_
  refine LA_takeP (v := (ptr p 0)) 2 rfl rfl rfl (by decide +kernel) (by decide +kernel) (by decide +kernel) (by decide +kernel) (fun _ _ _ h => h) (Want.plain rfl) (fun u13 => (by kernel_rfl)) (fun _ => ⟨hst5.rle', hst5.get (i := 0) rfl⟩) ?_
  refine LA_take (v := (.map bv)) 3 rfl rfl rfl (by decide +kernel) (by decide +kernel) (by decide +kernel) (by decide +kernel) (by decide +kernel) (fun _ _ _ h => h) (Want.plain rfl) (fun u16 hF17 => (x_load rfl rfl (run_loadVar_one ti_57 ((Le.trans h1 hF17.1) _ _ (one_self _ _)) rfl))) ⟨hst5.rle', hst5.get (i := 0) rfl⟩ ?_
  refine LA_takeP (v := (ptr b1 0)) 4 rfl rfl rfl (by decide +kernel) (by decide +kernel) (by decide +kernel) (by decide +kernel) (fun _ _ _ h => h) (Want.plain rfl) (fun u19 => (by kernel_rfl)) (fun _ => ⟨hst5.rle', hst5.get (i := 0) rfl⟩) ?_
  refine LA_take (v := (.int .i64 f.kind)) 5 rfl rfl rfl (by decide +kernel) (by decide +kernel) (by decide +kernel) (by decide +kernel) (by decide +kernel) (fun _ _ _ h => h) (Want.plain rfl) (fun u22 hF23 => (x_load rfl rfl (run_loadVar_one ti_3 (hF23.2 _ _ (one_self _ _)) rfl))) ⟨hst5.rle', hst5.get (i := 0) rfl⟩ ?_
  refine LA_takeP (v := (ptr b1 1)) 6 rfl rfl rfl (by decide +kernel) (by decide +kernel) (by decide +kernel) (by decide +kernel) (fun _ _ _ h => h) (Want.plain rfl) (fun u25 => (by kernel_rfl)) (fun _ => ⟨hst5.rle', hst5.get (i := 0) rfl⟩) ?_
  refine LA_take (v := (.int .i64 f.n)) 7 rfl rfl rfl (by decide +kernel) (by decide +kernel) (by decide +kernel) (by decide +kernel) (by decide +kernel) (fun _ _ _ h => h) (Want.plain rfl) (fun u28 hF29 => (x_load rfl rfl (run_loadVar_one ti_3 (hF29.2 _ _ (one_self _ _)) rfl))) ⟨hst5.rle', hst5.get (i := 0) rfl⟩ ?_
  refine LA_takeP (v := (.agg #[(.int .i64 f.kind), (.int .i64 f.n)])) 8 rfl rfl rfl (by decide +kernel) (by decide +kernel) (by decide +kernel) (by decide +kernel) (fun _ _ _ h => h) (Want.plain rfl) (fun u31 => (by kernel_rfl)) (fun _ => ⟨hst5.rle', hst5.get (i := 0) rfl⟩) ?_
  refine LA_take (v := (.int .i64 ((AL.get m (f.kind, f.n)).getD 0))) 9 rfl rfl rfl (by decide +kernel) (by decide +kernel) (by decide +kernel) (by decide +kernel) (by decide +kernel) (fun _ _ _ h => h) (Want.plain rfl) (fun u34 hF35 => x_lookup rfl rfl rfl (MapC.lookupP hm (Le.trans h2 hF35.1) law74 mt_57 ti_3 (f.kind, f.n) false 0 rfl)) ⟨hst5.rle', hst5.get (i := 0) rfl⟩ ?_
  refine LA_takeP (v := (ptr b1 2)) 10 rfl rfl rfl (by decide +kernel) (by decide +kernel) (by decide +kernel) (by decide +kernel) (fun _ _ _ h => h) (Want.plain rfl) (fun u37 => (by kernel_rfl)) (fun _ => ⟨hst5.rle', hst5.get (i := 0) rfl⟩) ?_
  refine LA_take (v := (.int .i64 f.version)) 11 rfl rfl rfl (by decide +kernel) (by decide +kernel) (by decide +kernel) (by decide +kernel) (by decide +kernel) (fun _ _ _ h => h) (Want.plain rfl) (fun u40 hF41 => (x_load rfl rfl (run_loadVar_one ti_3 (hF41.2 _ _ (one_self _ _)) rfl))) ⟨hst5.rle', hst5.get (i := 0) rfl⟩ ?_
  refine LA_takeP (v := (.bool (((AL.get m (f.kind, f.n)).getD 0) != f.version))) 12 rfl rfl rfl (by decide +kernel) (by decide +kernel) (by decide +kernel) (by decide +kernel) (fun _ _ _ h => h) (Want.plain rfl) (fun u43 => (by kernel_rfl)) (fun _ => ⟨hst5.rle', hst5.get (i := 0) rfl⟩) ?_
  refine LA_takeP (v := (.bool (((AL.get m (f.kind, f.n)).getD 0) != f.version))) 13 rfl rfl rfl (by decide +kernel) (by decide +kernel) (by decide +kernel) (by decide +kernel) (fun _ _ _ h => h) (Want.plain rfl) (fun u46 => rfl) (fun _ => ⟨hst5.rle', hst5.get (i := 0) rfl⟩) ?_
  refine LA_done (by decide +kernel) ?_
  refine W_ret ?_
  refine ⟨_, _, res_run (rs := [.tmp 3]) (vs := [(.bool (((AL.get m (f.kind, f.n)).getD 0) != f.version))]) Try.results43 (.cons (.tmp rfl) .nil) rfl, ?_⟩
  exact ⟨ret_bool rfl, hst5.grow⟩

theorem current_spec {w : World} {R cV : Hp} {p : Nat} {bv bm : Option Nat} {m : List (Th × Int)} {v : Value} {xs : List Fact} (hR : Le R (hp w)) (h1 : Le (one p (.cells #[.map bv, .map bm] 60 (0, 0))) R) (hm : MapC kk (vE (Value.int .i64)) bv m cV) (h2 : Le cV R) (hv : RdS tyFact R v xs) (hmax : xs.length ≤ 4611686018427387904) :
    Calls Try.prog 27 #[ptr p 0, v] w fun e w' => e = .returned (.bool (cur m xs)) ∧ Grow w w' := by
  have hst := Step.ro hR
  refine calls_of_W (n := 9) Try.func27 rfl Try.ntmps27 (Nat.le_of_ble_eq_true rfl) ?_
  refine W_seq ?_
  refine W_region_lit ?_
  refine L_new hst (v := fun b => ptr b 0) (ob := .cells #[(ptr p 0)] 25 (0, 0)) rfl rfl rfl (by kernel_rfl) (fun b1 w2 hst3 => ?_)
  refine L_val (v := (.bool false)) (w' := w2) rfl rfl rfl rfl ?_
  refine L_nil ?_
  refine W_seq ?_
  refine W_region_lit ?_
  refine L_val (v := v) (w' := w2) rfl rfl rfl rfl ?_
  refine L_val (v := (.func (.func 43) #[] #[(ptr b1 0)])) (w' := w2) rfl rfl rfl (by kernel_rfl) ?_
  obtain ⟨a4, cap5, e6, hc7⟩ := hv.shape
  subst e6
  refine L_callG hst3 (v := (.bool (List.any xs (stale m)))) rfl rfl rfl (x_call (vs := #[(.slice a4 xs.length cap5), (.func (.func 43) #[] #[(ptr b1 0)])]) rfl rfl (by kernel_rfl) ent_30) (ContainsFunc_spec (v := (.slice a4 xs.length cap5)) (xs := xs) (stale m) (Le.refl _) (RdS.mono hv hst3.rle') (by first | omega | (have h_ := hmax; omega)) ent_43 (fun w1 (g1 : Grow w2 w1) x _ => current1_spec x (Le.trans (hst3.get (i := 0) rfl) g1.le) (Le.refl _) (Le.trans (Le.trans h1 hst3.rle') g1.le) hm (Le.trans (Le.trans h2 hst3.rle') g1.le))) (fun w8 hst9 => ?_)
  refine L_val (v := (.bool (!(List.any xs (stale m))))) (w' := w8) rfl rfl rfl rfl ?_
  refine L_val (v := (.bool (!(List.any xs (stale m))))) (w' := w8) rfl rfl rfl rfl ?_
  refine L_nil ?_
  refine W_ret ?_
  refine ⟨_, _, res_run (rs := [.tmp 4]) (vs := [(.bool (!(List.any xs (stale m))))]) Try.results27 (.cons (.tmp rfl) .nil) rfl, ?_⟩
  exact ⟨ret_bool rfl, hst9.grow⟩

theorem Bump1_spec {w : World} {R : Hp} {q1 q2 : Nat} {kind n : Int} (f : Fact) (hR : Le R (hp w)) (h1 : Le (one q1 (.cells #[.int .i64 kind] 3 (0, 0))) R) (h2 : Le (one q2 (.cells #[.int .i64 n] 3 (0, 0))) R) :
    Calls Try.prog 31 (#[encFact f] ++ #[ptr q1 0, ptr q2 0]) w fun e w' => e = .returned (.bool (usesF kind n f)) ∧ Grow w w' := by
  have hst := Step.ro hR
  refine calls_of_W (n := 15) Try.func31 rfl Try.ntmps31 (Nat.le_of_ble_eq_true rfl) ?_
  refine W_seq ?_
  refine W_region_lit ?_
  refine L_new hst (v := fun b => ptr b 0) (ob := .cells #[(.int .i64 f.kind), (.int .i64 f.n), (.int .i64 f.version)] 38 (0, 0)) rfl rfl rfl (by kernel_rfl) (fun b1 w2 hst3 => ?_)
  refine L_val (v := (.bool false)) (w' := w2) rfl rfl rfl rfl ?_
  refine L_nil ?_
  refine W_seq ?_
  refine W_region_lit ?_
  refine L_val (v := (ptr b1 0)) (w' := w2) rfl rfl rfl (by kernel_rfl) ?_
  refine L_val (v := (.int .i64 f.kind)) (w' := w2) rfl rfl rfl (x_load rfl rfl (run_loadVar_one ti_3 (hst3.blk (i := 0) rfl) rfl)) ?_
  refine L_val (v := (.int .i64 kind)) (w' := w2) rfl rfl rfl (x_load rfl rfl (run_loadVar_one ti_3 (hst3.rle' _ _ (h1 _ _ (one_self _ _))) rfl)) ?_
  refine L_val (v := (.bool (f.kind == kind))) (w' := w2) rfl rfl rfl (by kernel_rfl) ?_
  refine L_val (v := (.bool (f.kind == kind))) (w' := w2) rfl rfl rfl rfl ?_
  rcases Bool.eq_false_or_eq_true (f.kind == kind) with c4 | c4
  · skip
    have q5 := eq_of_beq c4
    refine L_guard rfl rfl rfl rfl c4 ?_
    refine L_val (v := (ptr b1 1)) (w' := w2) rfl rfl rfl (by kernel_rfl) ?_
    refine L_guard rfl rfl rfl rfl c4 ?_
    refine L_val (v := (.int .i64 f.n)) (w' := w2) rfl rfl rfl (x_load rfl rfl (run_loadVar_one ti_3 (hst3.blk (i := 0) rfl) rfl)) ?_
    refine L_guard rfl rfl rfl rfl c4 ?_
    refine L_val (v := (.int .i64 n)) (w' := w2) rfl rfl rfl (x_load rfl rfl (run_loadVar_one ti_3 (hst3.rle' _ _ (h2 _ _ (one_self _ _))) rfl)) ?_
    refine L_guard rfl rfl rfl rfl c4 ?_
    refine L_val (v := (.bool (f.n == n))) (w' := w2) rfl rfl rfl (by kernel_rfl) ?_
    refine L_val (v := (.bool (f.n == n))) (w' := w2) rfl rfl rfl (x_pick rfl rfl (by rw [c4]; rfl)) ?_
    refine L_val (v := (.bool (f.n == n))) (w' := w2) rfl rfl rfl rfl ?_
    refine L_nil ?_
    refine W_ret ?_
    refine ⟨_, _, res_run (rs := [.tmp 4]) (vs := [(.bool (f.n == n))]) Try.results31 (.cons (.tmp rfl) .nil) rfl, ?_⟩
    exact ⟨ret_bool (by simp only [usesF]; rw [c4]; rfl), hst3.grow⟩
  · skip
    have q6 := ne_of_beq_false c4
    refine L_unwanted rfl rfl rfl rfl (by rw [c4]; rfl) rfl rfl ?_
    refine L_unwanted rfl rfl rfl rfl (by rw [c4]; rfl) rfl rfl ?_
    refine L_unwanted rfl rfl rfl rfl (by rw [c4]; rfl) rfl rfl ?_
    refine L_unwanted rfl rfl rfl rfl (by rw [c4]; rfl) rfl rfl ?_
    refine L_val (v := (.bool false)) (w' := w2) rfl rfl rfl (x_pick rfl rfl (by rw [c4]; rfl)) ?_
    refine L_val (v := (.bool false)) (w' := w2) rfl rfl rfl rfl ?_
    refine L_nil ?_
    refine W_ret ?_
    refine ⟨_, _, res_run (rs := [.tmp 4]) (vs := [(.bool false)]) Try.results31 (.cons (.tmp rfl) .nil) rfl, ?_⟩
    exact ⟨ret_bool (by simp only [usesF]; rw [c4]; rfl), hst3.grow⟩

theorem Holds_spec {w : World} {R cV cM : Hp} {p : Nat} {bv bm : Option Nat} {m : List (Th × Int)} {mm : List (Int × List Fact)} (k : Int) (hR : Le R (hp w)) (h1 : Le (one p (.cells #[.map bv, .map bm] 60 (0, 0))) R) (hm : MapC kk (vE (Value.int .i64)) bv m cV) (h2 : Le cV R) (hM : MapC (Value.int .i64) (vS R) bm mm cM) (h3 : Le cM R) (hmax : ∀ k xs, AL.get mm k = some xs → xs.length ≤ 4611686018427387904) :
    Calls Try.prog 15 #[ptr p 0, int k] w fun e w' => e = .returned (.bool (holds m mm k)) ∧ Grow w w' := by
  have hst := Step.ro hR
  have hmax := len_get hmax k
  refine calls_of_W (n := 24) Try.func15 rfl Try.ntmps15 (Nat.le_of_ble_eq_true rfl) ?_
  refine W_seq ?_
  refine W_region_lit ?_
  refine L_val (v := (.bool false)) (w' := w) rfl rfl rfl rfl ?_
  refine L_nil ?_
  refine W_seq ?_
  refine W_seq ?_
  refine W_region_lit ?_
  refine L_val (v := (ptr p 0)) (w' := w) rfl rfl rfl rfl ?_
  refine L_val (v := (.bool false)) (w' := w) rfl rfl rfl (by kernel_rfl) ?_
  refine L_nil ?_
  refine W_cond_false (by show Value.bool _ = _; exact congrArg Value.bool rfl) ?_
  refine W_skip ?_
  refine W_seq ?_
  refine W_region_lit ?_
  refine L_val (v := (ptr p 0)) (w' := w) rfl rfl rfl rfl ?_
  refine L_val (v := (ptr p 0)) (w' := w) rfl rfl rfl rfl ?_
  refine L_val (v := (ptr p 1)) (w' := w) rfl rfl rfl (by kernel_rfl) ?_
  refine L_val (v := (.map bm)) (w' := w) rfl rfl rfl (x_load rfl rfl (run_loadVar_one ti_58 (hst.rle' _ _ (h1 _ _ (one_self _ _))) rfl)) ?_
  refine L_val (v := (.int .i64 k)) (w' := w) rfl rfl rfl rfl ?_
  obtain ⟨v1, hr2, hv3⟩ := MapC.lookupD (w := w) hM (Le.trans h3 hst.rle') law3 mt_58 ti_29 k true [] (RdS.empty _ _)
  have hv3' : RdS tyFact R v1 ((AL.get mm k).getD []) := hv3
  refine L_val (v := (.tuple #[v1, (.bool ((AL.get mm k).isSome))])) (w' := w) rfl rfl rfl (x_lookup rfl rfl rfl hr2) ?_
  refine L_val (v := (.tuple #[v1, (.bool ((AL.get mm k).isSome))])) (w' := w) rfl rfl rfl rfl ?_
  refine L_val (v := v1) (w' := w) rfl rfl rfl (by kernel_rfl) ?_
  refine L_val (v := (.bool ((AL.get mm k).isSome))) (w' := w) rfl rfl rfl (by kernel_rfl) ?_
  refine L_val (v := v1) (w' := w) rfl rfl rfl rfl ?_
  refine L_val (v := (.bool ((AL.get mm k).isSome))) (w' := w) rfl rfl rfl rfl ?_
  refine L_nil ?_
  refine W_seq ?_
  refine W_region_lit ?_
  refine L_val (v := (.bool ((AL.get mm k).isSome))) (w' := w) rfl rfl rfl rfl ?_
  refine L_val (v := (.bool ((AL.get mm k).isSome))) (w' := w) rfl rfl rfl rfl ?_
  rcases Bool.eq_false_or_eq_true ((AL.get mm k).isSome) with c4 | c4
  · skip
    refine L_guard rfl rfl rfl rfl c4 ?_
    refine L_val (v := (ptr p 0)) (w' := w) rfl rfl rfl rfl ?_
    refine L_guard rfl rfl rfl rfl c4 ?_
    refine L_val (v := v1) (w' := w) rfl rfl rfl rfl ?_
    refine L_guard rfl rfl rfl rfl c4 ?_
    obtain ⟨a5, cap6, e7, hc8⟩ := hv3'.shape
    subst e7
    refine L_callG hst (v := (.bool (cur m ((AL.get mm k).getD [])))) rfl rfl rfl (x_call (vs := #[(ptr p 0), (.slice a5 (((AL.get mm k).getD []).length) cap6)]) rfl rfl (by kernel_rfl) ent_27) (current_spec (v := (.slice a5 (((AL.get mm k).getD []).length) cap6)) (xs := ((AL.get mm k).getD [])) (Le.refl _) (Le.trans h1 hst.rle') hm (Le.trans h2 hst.rle') (RdS.mono hv3' hst.rle') (by first | omega | (have h_ := hmax; omega))) (fun w9 hst10 => ?_)
    refine L_val (v := (.bool (cur m ((AL.get mm k).getD [])))) (w' := w9) rfl rfl rfl (x_pick rfl rfl (by rw [c4]; rfl)) ?_
    refine L_val (v := (.bool (cur m ((AL.get mm k).getD [])))) (w' := w9) rfl rfl rfl rfl ?_
    refine L_nil ?_
    refine W_ret ?_
    refine ⟨_, _, res_run (rs := [.tmp 4]) (vs := [(.bool (cur m ((AL.get mm k).getD [])))]) Try.results15 (.cons (.tmp rfl) .nil) rfl, ?_⟩
    exact ⟨ret_bool (by simp only [holds]; rw [c4]; rfl), hst10.grow⟩
  · skip
    refine L_unwanted rfl rfl rfl rfl (by rw [c4]; rfl) rfl rfl ?_
    refine L_unwanted rfl rfl rfl rfl (by rw [c4]; rfl) rfl rfl ?_
    refine L_unwanted rfl rfl rfl rfl (by rw [c4]; rfl) rfl rfl ?_
    refine L_val (v := (.bool false)) (w' := w) rfl rfl rfl (x_pick rfl rfl (by rw [c4]; rfl)) ?_
    refine L_val (v := (.bool false)) (w' := w) rfl rfl rfl rfl ?_
    refine L_nil ?_
    refine W_ret ?_
    refine ⟨_, _, res_run (rs := [.tmp 4]) (vs := [(.bool false)]) Try.results15 (.cons (.tmp rfl) .nil) rfl, ?_⟩
    exact ⟨ret_bool (by simp only [holds]; rw [c4]; rfl), hst.grow⟩

theorem Remove_spec {w : World} {R c : Hp} {p : Nat} {s : RS} (k : Int) (hs : Sats w R [c]) (hreg : Reg R p s c) :
    Calls Try.prog 21 #[ptr p 0, int k] w (Comes' w R [c] fun v' R' L' => ∃ c', v' = .bool (AL.get s.mods k).isSome ∧ L' = [c'] ∧ Reg R' p (s.remove k) c') := by
  obtain ⟨bv, bm, cV, cM, rfl, hd1, hd2, hm, hM, hok, hbm⟩ := hreg
  have hst := (Step.refl hs).split3 hd1 hd2
  refine calls_of_W (n := 24) Try.func21 rfl Try.ntmps21 (Nat.le_of_ble_eq_true rfl) ?_
  refine W_seq ?_
  refine W_region_lit ?_
  refine L_val (v := (.bool false)) (w' := w) rfl rfl rfl rfl ?_
  refine L_nil ?_
  refine W_seq ?_
  refine W_seq ?_
  refine W_region_lit ?_
  refine L_val (v := (ptr p 0)) (w' := w) rfl rfl rfl rfl ?_
  refine L_val (v := (.bool false)) (w' := w) rfl rfl rfl (by kernel_rfl) ?_
  refine L_nil ?_
  refine W_cond_false (by show Value.bool _ = _; exact congrArg Value.bool rfl) ?_
  refine W_skip ?_
  refine W_seq ?_
  refine W_region_lit ?_
  refine L_val (v := (ptr p 0)) (w' := w) rfl rfl rfl rfl ?_
  refine L_val (v := (ptr p 0)) (w' := w) rfl rfl rfl rfl ?_
  refine L_val (v := (ptr p 1)) (w' := w) rfl rfl rfl (by kernel_rfl) ?_
  refine L_val (v := (.map bm)) (w' := w) rfl rfl rfl (x_load rfl rfl (run_loadVar_one ti_58 (hst.blk (i := 0) rfl) rfl)) ?_
  refine L_val (v := (.int .i64 k)) (w' := w) rfl rfl rfl rfl ?_
  obtain ⟨v1, hr2, hv3⟩ := MapC.lookupD (w := w) hM (hst.get (i := 2) rfl) law3 mt_58 ti_29 k true [] (RdS.empty _ _)
  have hv3' : RdS tyFact R v1 ((AL.get s.mods k).getD []) := hv3
  refine L_val (v := (.tuple #[v1, (.bool ((AL.get s.mods k).isSome))])) (w' := w) rfl rfl rfl (x_lookup rfl rfl rfl hr2) ?_
  refine L_val (v := (.tuple #[v1, (.bool ((AL.get s.mods k).isSome))])) (w' := w) rfl rfl rfl rfl ?_
  refine L_val (v := v1) (w' := w) rfl rfl rfl (by kernel_rfl) ?_
  refine L_val (v := (.bool ((AL.get s.mods k).isSome))) (w' := w) rfl rfl rfl (by kernel_rfl) ?_
  refine L_val (v := v1) (w' := w) rfl rfl rfl rfl ?_
  refine L_val (v := (.bool ((AL.get s.mods k).isSome))) (w' := w) rfl rfl rfl rfl ?_
  refine L_nil ?_
  refine W_seq ?_
  refine W_region_lit ?_
  refine L_val (v := (ptr p 0)) (w' := w) rfl rfl rfl rfl ?_
  refine L_val (v := (ptr p 0)) (w' := w) rfl rfl rfl rfl ?_
  refine L_val (v := (ptr p 1)) (w' := w) rfl rfl rfl (by kernel_rfl) ?_
  refine L_val (v := (.map bm)) (w' := w) rfl rfl rfl (x_load rfl rfl (run_loadVar_one ti_58 (hst.blk (i := 0) rfl) rfl)) ?_
  refine L_val (v := (.int .i64 k)) (w' := w) rfl rfl rfl rfl ?_
  obtain ⟨c4, w5, hr6, hm7, hst8⟩ := MapC.delete hM (hst.front 2 rfl rfl) law3 mt_58 k #[58, 3] rfl rfl 0
  refine L_val_none rfl rfl (x_delete rfl rfl rfl hr6) ?_
  refine L_nil ?_
  refine W_seq ?_
  refine W_region_lit ?_
  refine L_val (v := (.bool ((AL.get s.mods k).isSome))) (w' := w5) rfl rfl rfl rfl ?_
  refine L_val (v := (.bool ((AL.get s.mods k).isSome))) (w' := w5) rfl rfl rfl rfl ?_
  refine L_nil ?_
  refine W_ret ?_
  refine ⟨_, _, res_run (rs := [.tmp 4]) (vs := [(.bool ((AL.get s.mods k).isSome))]) Try.results21 (.cons (.tmp rfl) .nil) rfl, ?_⟩
  obtain ⟨c9, hst10, hreg11⟩ := Reg.close (s := s.remove k) ((hst8.front 2 rfl rfl).front 2 rfl rfl) hm hm7 (hok.remove k) (by first | exact hbm | (intro h; cases h))
  exact ⟨_, _, _, rfl, hst10.keepN 1 rfl, c9, rfl, rfl, hreg11⟩

theorem Clone_specB {w : World} {R B : Hp} {v : Value} {xs : List Fact} (hs : Sats w R []) (hv : RdS tyFact B v xs) (hB : Le B (hp w)) (hmax : xs.length ≤ 1099511627776) :
    Calls Try.prog 23 #[v] w (Comes' w R [] fun v' R' L' => ∃ c', L' = [c'] ∧ OwnL tyFact 38 R' v' xs c') := by
  have hst := Step.refl hs
  refine calls_of_W (n := 8) Try.func23 rfl Try.ntmps23 (Nat.le_of_ble_eq_true rfl) ?_
  refine W_seq ?_
  refine W_region_lit ?_
  refine L_val (v := (.slice none 0 0)) (w' := w) rfl rfl rfl rfl ?_
  refine L_nil ?_
  refine W_seq ?_
  refine W_seq ?_
  refine W_region_lit ?_
  refine L_val (v := v) (w' := w) rfl rfl rfl rfl ?_
  obtain ⟨a1, cap2, e3, hc4⟩ := hv.shape
  subst e3
  rcases a1 with _ | a5
  · skip
    refine L_val (v := (.bool true)) (w' := w) rfl rfl rfl (by kernel_rfl) ?_
    refine L_nil ?_
    refine W_cond_true (by show Value.bool _ = _; exact congrArg Value.bool rfl) ?_
    refine W_seq ?_
    refine W_region_lit ?_
    refine L_val (v := (.slice none 0 0)) (w' := w) rfl rfl rfl rfl ?_
    refine L_nil ?_
    refine W_ret ?_
    refine ⟨_, _, res_run (rs := [.tmp 2]) (vs := [(.slice none 0 0)]) Try.results23 (.cons (.tmp rfl) .nil) rfl, ?_⟩
    have hx := RdS.nil hv
    subst hx
    exact ⟨_, R, [non], rfl, hst.nothing, non, rfl, OwnL.empty _ _ _⟩
  · skip
    refine L_val (v := (.bool false)) (w' := w) rfl rfl rfl (by kernel_rfl) ?_
    refine L_nil ?_
    refine W_cond_false (by show Value.bool _ = _; exact congrArg Value.bool rfl) ?_
    refine W_skip ?_
    refine W_seq ?_
    refine W_region_lit ?_
    refine L_new hst (v := fun b => .slice (some ⟨b, 0, none⟩) 0 0) (ob := .cells #[] 38 (0, 0)) rfl rfl rfl (by kernel_rfl) (fun b6 w7 hst8 => ?_)
    refine L_val (v := (.slice (some a5) xs.length cap2)) (w' := w7) rfl rfl rfl rfl ?_
    have ho9 : OwnL tyFact 38 R (.slice (some ⟨b6, 0, none⟩) 0 0) [] (one b6 (.cells #[] 38 (0, 0))) := OwnL.lit (cs := []) (Encs.nil) rfl (by decide)
    obtain ⟨src10, hy11, hsrc12⟩ := RdS.src hv (Step.keepB hst8 hB (by simp))
    refine L_append hst8 (t := 29) (e := 38) (ys := xs)  0 rfl rfl rfl rfl rfl rfl sl_29 ti_38 rfl rfl rfl ho9 hsrc12 (Encs.refact (R' := R) hy11) rfl (by first | omega | (simp only [List.length_append, List.length_cons, List.length_nil]; omega)) (by first | (simp only [maxLen]; omega) | (simp only [List.length_append, List.length_cons, List.length_nil, maxLen]; omega)) (fun v13 c14 w15 ho16 hst17 => ?_)
    refine L_val (v := v13) (w' := w15) rfl rfl rfl rfl ?_
    refine L_nil ?_
    refine W_ret ?_
    refine ⟨_, _, res_run (rs := [.tmp 2]) (vs := [v13]) Try.results23 (.cons (.tmp rfl) .nil) rfl, ?_⟩
    exact ⟨_, R, _, rfl, (hst17).keepN 1 rfl, _, rfl, by simpa [retV] using ho16⟩

theorem Clone_spec {w : World} {R : Hp} {v : Value} {xs : List Fact} (hs : Sats w R []) (hv : RdS tyFact R v xs) (hmax : xs.length ≤ 1099511627776) :
    Calls Try.prog 23 #[v] w (Comes' w R [] fun v' R' L' => ∃ c', L' = [c'] ∧ OwnL tyFact 38 R' v' xs c') := Clone_specB hs hv hs.r hmax

theorem Add_specB {w : World} {R c : Hp} {p : Nat} {s : RS} {B : Hp} {v : Value} {xs : List Fact} (k : Int) (hv : RdS tyFact B v xs) (hB : Le B (hp w)) (hBd : Dj B c) (hmax : xs.length ≤ 1099511627776) (hs : Sats w R [c]) (hreg : Reg R p s c) :
    Calls Try.prog 11 #[ptr p 0, int k, v] w (Comes' w R [c] fun v' R' L' => ∃ c', v' = int (s.addE k xs) ∧ L' = [c'] ∧ Reg R' p (s.add k xs) c') := by
  obtain ⟨bv, bm, cV, cM, rfl, hd1, hd2, hm, hM, hok, hbm⟩ := hreg
  have hst := (Step.refl hs).split3 hd1 hd2
  refine calls_of_W (n := 76) Try.func11 rfl Try.ntmps11 (Nat.le_of_ble_eq_true rfl) ?_
  refine W_seq ?_
  refine W_region_lit ?_
  refine L_val (v := (.int .i64 0)) (w' := w) rfl rfl rfl rfl ?_
  refine L_nil ?_
  refine W_seq ?_
  refine W_seq ?_
  refine W_region_lit ?_
  refine L_val (v := (ptr p 0)) (w' := w) rfl rfl rfl rfl ?_
  refine L_val (v := (.bool false)) (w' := w) rfl rfl rfl (by kernel_rfl) ?_
  refine L_val (v := (.bool false)) (w' := w) rfl rfl rfl rfl ?_
  refine L_guard rfl rfl rfl rfl rfl ?_
  refine L_val (v := (.int .i64 k)) (w' := w) rfl rfl rfl rfl ?_
  refine L_guard rfl rfl rfl rfl rfl ?_
  refine L_val (v := (.bool (decide (k < 0)))) (w' := w) rfl rfl rfl (by kernel_rfl) ?_
  refine L_val (v := (.bool (decide (k < 0)))) (w' := w) rfl rfl rfl rfl ?_
  refine L_nil ?_
  rcases Bool.eq_false_or_eq_true (decide (k < 0)) with c1 | c1
  · skip
    have q2 := of_decide_eq_true c1
    refine W_cond_true (by show Value.bool _ = _; exact congrArg Value.bool c1) ?_
    refine W_seq ?_
    refine W_region_lit ?_
    refine L_val (v := (.int .i64 1)) (w' := w) rfl rfl rfl rfl ?_
    refine L_nil ?_
    refine W_ret ?_
    refine ⟨_, _, res_run (rs := [.tmp 6]) (vs := [(.int .i64 1)]) Try.results11 (.cons (.tmp rfl) .nil) rfl, ?_⟩
    have he := RS.addE_neg (s := s) (xs := xs) (of_decide_eq_true c1)
    rw [RS.add_same he (by decide)]
    obtain ⟨c3, hst4, hreg5⟩ := Reg.close (s := s) (((hst.front 2 rfl rfl).front 2 rfl rfl).front 2 rfl rfl) hm hM hok (by first | exact hbm | (intro h; cases h))
    exact ⟨_, _, _, rfl, hst4.keepN 1 rfl, c3, (by rw [he]; rfl), rfl, hreg5⟩
  · skip
    have q6 := of_decide_eq_false c1
    refine W_cond_false (by show Value.bool _ = _; exact congrArg Value.bool c1) ?_
    refine W_skip ?_
    refine W_seq ?_
    refine W_region_lit ?_
    refine L_new hst (v := fun b => .map (some b)) (ob := .map #[] 0) rfl rfl rfl (by kernel_rfl) (fun b7 w8 hst9 => ?_)
    have hm10 : MapC kk (vE Value.bool) (some b7) [] _ := MapC.made b7
    generalize one b7 (.map #[] 0) = c11 at hm10 hst9
    refine L_val (v := (.map (some b7))) (w' := w8) rfl rfl rfl rfl ?_
    refine L_nil ?_
    refine W_seq ?_
    refine W_seq ?_
    refine W_region_lit ?_
    refine L_val (v := v) (w' := w8) rfl rfl rfl rfl ?_
    obtain ⟨a12, cap13, e14, hc15⟩ := hv.shape
    subst e14
    refine L_val (v := (.int .i64 (xs.length : Int))) (w' := w8) rfl rfl rfl (x_len_slice rfl sl_29 rfl) ?_
    refine L_val (v := (.int .i64 0)) (w' := w8) rfl rfl rfl rfl ?_
    refine L_nil ?_
    refine W_block ?_
    refine W_loop (I := fun σ w_ m_ => ∃ (σ0 : Fr) (k_ : Nat) (seen : List (Th × Bool)) (cS : Hp), σ = upd (upd (upd (upd (upd (upd (upd (upd (upd (upd (upd (upd (upd (upd σ0 0 (ptr p 0)) 1 (.int .i64 k)) 2 (.slice a12 xs.length cap13)) 7 (.map (some b7))) 13 (ptr p 0)) 14 (.bool false)) 15 (.bool false)) 16 (.int .i64 k)) 17 (.bool (decide (k < 0)))) 18 (.bool (decide (k < 0)))) 19 (.map (some b7))) 20 (.slice a12 xs.length cap13)) 21 (.int .i64 (xs.length : Int))) 22 (.int .i64 (k_ : Int)) ∧ mks (σ0 0) = [] ∧ Step w R [tri (regBlk p bv bm) cV cM] w_ R [one p (.cells #[(.map bv), (.map bm)] 60 (0, 0)), cV, cM, cS] ∧ MapC kk (vE Value.bool) (some b7) seen cS ∧ k_ ≤ xs.length ∧ chk s.vers (xs.drop k_) seen = chk s.vers xs [] ∧ m_ = xs.length - k_) (m := xs.length - 0) ?_ ?_
    · skip
      exact ⟨_, 0, [], c11, (upd_of (upd_of (upd_of (upd_of (upd_of (upd_of (upd_of (upd_of (upd_of (upd_of (upd_of (upd_of (upd_of (upd_of rfl rfl) rfl) rfl) rfl) rfl) rfl) rfl) rfl) rfl) rfl) rfl) rfl) rfl) rfl), rfl, (((hst9.front 3 rfl rfl).front 3 rfl rfl).front 3 rfl rfl), hm10, (by omega), rfl, rfl⟩
    · skip
      rintro m27 σ_ w18 ⟨s23, k_24, seen25, cS26, rfl, hmk16, hst17, hi20, hf21, hf22, rfl⟩
      refine W_seq ?_
      refine W_region_lit ?_
      refine L_val (v := (.bool (decide ((k_24 : Int) < (xs.length : Int))))) (w' := w18) rfl rfl rfl (by kernel_rfl) ?_
      refine L_nil ?_
      refine W_seq ?_
      rcases Bool.eq_false_or_eq_true (decide ((k_24 : Int) < (xs.length : Int))) with c28 | c28
      · skip
        have q29 := of_decide_eq_true c28
        refine W_cond_true (by show Value.bool _ = _; exact congrArg Value.bool c28) ?_
        refine W_skip ?_
        refine W_seq ?_
        refine W_block ?_
        refine W_seq ?_
        refine W_region_lit ?_
        obtain ⟨b30, off31, cap32, cs33, T34, fz35, e36, hc37, hb38, he39⟩ := hv.open (by omega)
        cases e36
        obtain ⟨cl40, hs41, hr42⟩ := he39.at k_24 (by omega)
        obtain rfl := tyFact_open hr42
        refine L_val (v := (ptr b30 (off31 + k_24 * 3))) (w' := w18) rfl rfl rfl (x_indexAddr' rfl sl_29 ti_38 rfl rfl (by omega)) ?_
        refine L_val (v := (.agg #[(.int .i64 ((xs[k_24]'(by omega)).kind)), (.int .i64 ((xs[k_24]'(by omega)).n)), (.int .i64 ((xs[k_24]'(by omega)).version))])) (w' := w18) rfl rfl rfl (x_load rfl rfl (run_loadVar_agg ti_38 ((Step.keepB hst17 hB (by simpa using hBd)) _ _ hb38) hs41 rfl)) ?_
        refine L_new hst17 (v := fun b => ptr b 0) (ob := .cells #[(.int .i64 0), (.int .i64 0), (.int .i64 0)] 38 (0, 0)) rfl rfl rfl (by kernel_rfl) (fun b43 w44 hst45 => ?_)
        refine L_store hst45 0 ti_38 rfl rfl rfl rfl rfl rfl rfl rfl rfl rfl rfl (fun w46 hst47 => ?_)
        change Step _ _ _ _ _ [one b43 (.cells #[(.int .i64 ((xs[k_24]'(by omega)).kind)), (.int .i64 ((xs[k_24]'(by omega)).n)), (.int .i64 ((xs[k_24]'(by omega)).version))] 38 (0, 0)), one p (.cells #[(.map bv), (.map bm)] 60 (0, 0)), cV, cM, cS26] at hst47
        refine L_nil ?_
        refine W_seq ?_
        refine W_region_lit ?_
        refine L_val (v := (ptr b43 0)) (w' := w46) rfl rfl rfl (by kernel_rfl) ?_
        refine L_val (v := (.int .i64 ((xs[k_24]'(by omega)).kind))) (w' := w46) rfl rfl rfl (x_load rfl rfl (run_loadVar_one ti_3 (hst47.blk (i := 0) rfl) rfl)) ?_
        refine L_val (v := (ptr b43 1)) (w' := w46) rfl rfl rfl (by kernel_rfl) ?_
        refine L_val (v := (.int .i64 ((xs[k_24]'(by omega)).n))) (w' := w46) rfl rfl rfl (x_load rfl rfl (run_loadVar_one ti_3 (hst47.blk (i := 0) rfl) rfl)) ?_
        refine L_val (v := (.agg #[(.int .i64 ((xs[k_24]'(by omega)).kind)), (.int .i64 ((xs[k_24]'(by omega)).n))])) (w' := w46) rfl rfl rfl (by kernel_rfl) ?_
        refine L_new hst47 (v := fun b => ptr b 0) (ob := .cells #[(.int .i64 0), (.int .i64 0)] 74 (0, 0)) rfl rfl rfl (by kernel_rfl) (fun b48 w49 hst50 => ?_)
        refine L_store hst50 0 ti_74 rfl rfl rfl rfl rfl rfl rfl rfl rfl rfl rfl (fun w51 hst52 => ?_)
        change Step _ _ _ _ _ [one b48 (.cells #[(.int .i64 ((xs[k_24]'(by omega)).kind)), (.int .i64 ((xs[k_24]'(by omega)).n))] 74 (0, 0)), one b43 (.cells #[(.int .i64 ((xs[k_24]'(by omega)).kind)), (.int .i64 ((xs[k_24]'(by omega)).n)), (.int .i64 ((xs[k_24]'(by omega)).version))] 38 (0, 0)), one p (.cells #[(.map bv), (.map bm)] 60 (0, 0)), cV, cM, cS26] at hst52
        refine L_nil ?_
        refine W_seq ?_
        refine W_seq ?_
        refine W_region_lit ?_
        refine L_val (v := (ptr p 0)) (w' := w51) rfl rfl rfl rfl ?_
        refine L_val (v := (ptr b43 0)) (w' := w51) rfl rfl rfl (by kernel_rfl) ?_
        refine L_val (v := (.int .i64 ((xs[k_24]'(by omega)).kind))) (w' := w51) rfl rfl rfl (x_load rfl rfl (run_loadVar_one ti_3 (hst52.blk (i := 1) rfl) rfl)) ?_
        refine L_val (v := (ptr b43 1)) (w' := w51) rfl rfl rfl (by kernel_rfl) ?_
        refine L_val (v := (.int .i64 ((xs[k_24]'(by omega)).n))) (w' := w51) rfl rfl rfl (x_load rfl rfl (run_loadVar_one ti_3 (hst52.blk (i := 1) rfl) rfl)) ?_
        refine L_callG hst52 (v := (.int .i64 (ver s.vers ((xs[k_24]'(by omega)).kind, (xs[k_24]'(by omega)).n)))) rfl rfl rfl (x_call (vs := #[(ptr p 0), (.int .i64 ((xs[k_24]'(by omega)).kind)), (.int .i64 ((xs[k_24]'(by omega)).n))]) rfl rfl (by kernel_rfl) ent_16) (Version_spec ((xs[k_24]'(by omega)).kind) ((xs[k_24]'(by omega)).n) (Le.refl _) (hst52.get (i := 2) rfl) hm (hst52.get (i := 3) rfl)) (fun w53 hst54 => ?_)
        refine L_val (v := (.bool (decide (ver s.vers ((xs[k_24]'(by omega)).kind, (xs[k_24]'(by omega)).n) < 0)))) (w' := w53) rfl rfl rfl (by kernel_rfl) ?_
        refine L_val (v := (.bool (decide (ver s.vers ((xs[k_24]'(by omega)).kind, (xs[k_24]'(by omega)).n) < 0)))) (w' := w53) rfl rfl rfl rfl ?_
        rcases Bool.eq_false_or_eq_true (decide (ver s.vers ((xs[k_24]'(by omega)).kind, (xs[k_24]'(by omega)).n) < 0)) with c55 | c55
        · skip
          have q56 := of_decide_eq_true c55
          refine L_unwanted rfl rfl rfl rfl (by rw [c55]; rfl) rfl rfl ?_
          refine L_unwanted rfl rfl rfl rfl (by rw [c55]; rfl) rfl rfl ?_
          refine L_unwanted rfl rfl rfl rfl (by rw [c55]; rfl) rfl rfl ?_
          refine L_val (v := (.bool true)) (w' := w53) rfl rfl rfl (x_pick rfl rfl (by rw [c55]; rfl)) ?_
          refine L_nil ?_
          refine W_cond_true (by show Value.bool _ = _; exact congrArg Value.bool rfl) ?_
          refine W_seq ?_
          refine W_region_lit ?_
          refine L_val (v := (.int .i64 1)) (w' := w53) rfl rfl rfl rfl ?_
          refine L_nil ?_
          refine W_ret ?_
          refine ⟨_, _, res_run (rs := [.tmp 6]) (vs := [(.int .i64 1)]) Try.results11 (.cons (.tmp rfl) .nil) hmk16, ?_⟩
          have he := RS.addE_bad (k := k) (chk_bad1 (by omega) hf22 (of_decide_eq_true c55))
          rw [RS.add_same he (by decide)]
          obtain ⟨c57, hst58, hreg59⟩ := Reg.close (s := s) (((hst54.front 4 rfl rfl).front 4 rfl rfl).front 4 rfl rfl) hm hM hok (by first | exact hbm | (intro h; cases h))
          exact ⟨_, _, _, rfl, hst58.keepN 1 rfl, c57, (by rw [he]; rfl), rfl, hreg59⟩
        · skip
          have q60 := of_decide_eq_false c55
          refine L_guard rfl rfl rfl rfl c55 ?_
          refine L_val (v := (.map (some b7))) (w' := w53) rfl rfl rfl rfl ?_
          refine L_guard rfl rfl rfl rfl c55 ?_
          refine L_val (v := (.agg #[(.int .i64 ((xs[k_24]'(by omega)).kind)), (.int .i64 ((xs[k_24]'(by omega)).n))])) (w' := w53) rfl rfl rfl (x_load rfl rfl (run_loadVar_agg ti_74 (hst54.blk (i := 0) rfl) (l := [(.int .i64 ((xs[k_24]'(by omega)).kind)), (.int .i64 ((xs[k_24]'(by omega)).n))]) rfl rfl)) ?_
          refine L_guard rfl rfl rfl rfl c55 ?_
          obtain ⟨v61, hr62, hv63⟩ := MapC.lookupD (w := w53) hi20 (hst54.get (i := 5) rfl) law74 mt_75 ti_4 ((xs[k_24]'(by omega)).kind, (xs[k_24]'(by omega)).n) false false rfl
          have hv63' : v61 = .bool ((AL.get seen25 ((xs[k_24]'(by omega)).kind, (xs[k_24]'(by omega)).n)).getD false) := hv63
          subst hv63'
          refine L_val (v := (.bool ((AL.get seen25 ((xs[k_24]'(by omega)).kind, (xs[k_24]'(by omega)).n)).getD false))) (w' := w53) rfl rfl rfl (x_lookup rfl rfl rfl hr62) ?_
          refine L_val (v := (.bool ((AL.get seen25 ((xs[k_24]'(by omega)).kind, (xs[k_24]'(by omega)).n)).getD false))) (w' := w53) rfl rfl rfl (x_pick rfl rfl (by rw [c55]; rfl)) ?_
          refine L_nil ?_
          rcases Bool.eq_false_or_eq_true ((AL.get seen25 ((xs[k_24]'(by omega)).kind, (xs[k_24]'(by omega)).n)).getD false) with c64 | c64
          · skip
            refine W_cond_true (by show Value.bool _ = _; exact congrArg Value.bool c64) ?_
            refine W_seq ?_
            refine W_region_lit ?_
            refine L_val (v := (.int .i64 1)) (w' := w53) rfl rfl rfl rfl ?_
            refine L_nil ?_
            refine W_ret ?_
            refine ⟨_, _, res_run (rs := [.tmp 6]) (vs := [(.int .i64 1)]) Try.results11 (.cons (.tmp rfl) .nil) hmk16, ?_⟩
            have he := RS.addE_bad (k := k) (chk_bad2 (by omega) hf22 (of_decide_eq_false c55) c64)
            rw [RS.add_same he (by decide)]
            obtain ⟨c65, hst66, hreg67⟩ := Reg.close (s := s) (((hst54.front 4 rfl rfl).front 4 rfl rfl).front 4 rfl rfl) hm hM hok (by first | exact hbm | (intro h; cases h))
            exact ⟨_, _, _, rfl, hst66.keepN 1 rfl, c65, (by rw [he]; rfl), rfl, hreg67⟩
          · skip
            refine W_cond_false (by show Value.bool _ = _; exact congrArg Value.bool c64) ?_
            refine W_skip ?_
            refine W_region_lit ?_
            refine L_val (v := (.map (some b7))) (w' := w53) rfl rfl rfl rfl ?_
            refine L_val (v := (.agg #[(.int .i64 ((xs[k_24]'(by omega)).kind)), (.int .i64 ((xs[k_24]'(by omega)).n))])) (w' := w53) rfl rfl rfl (x_load rfl rfl (run_loadVar_agg ti_74 (hst54.blk (i := 0) rfl) (l := [(.int .i64 ((xs[k_24]'(by omega)).kind)), (.int .i64 ((xs[k_24]'(by omega)).n))]) rfl rfl)) ?_
            obtain ⟨c68, w69, hr70, hm71, hst72⟩ := MapC.update hi20 (hst54.front 5 rfl rfl) law74 mt_75 ((xs[k_24]'(by omega)).kind, (xs[k_24]'(by omega)).n) true (.bool true) rfl
            refine L_skip rfl rfl (x_mapUpdate rfl rfl rfl rfl hr70) ?_
            refine L_nil ?_
            refine W_region_lit ?_
            refine L_val (v := (.int .i64 ((k_24 + 1 : Nat) : Int))) (w' := w69) rfl rfl rfl (x_add_nat rfl rfl rfl (by omega)) ?_
            refine L_val (v := (.int .i64 ((k_24 + 1 : Nat) : Int))) (w' := w69) rfl rfl rfl rfl ?_
            refine L_nil ?_
            refine ⟨xs.length - (k_24 + 1), by first | omega | (simp only [List.length_append, List.length_cons, List.length_nil]; omega), ?_⟩
            exact ⟨_, (k_24 + 1), (AL.set seen25 ((xs[k_24]'(by omega)).kind, (xs[k_24]'(by omega)).n) true), c68, (upd_of (upd_of (upd_of (upd_of (upd_of (upd_of (upd_of (upd_of (upd_of (upd_of (upd_of (upd_of (upd_of (upd_of rfl rfl) rfl) rfl) rfl) rfl) rfl) rfl) rfl) rfl) rfl) rfl) rfl) rfl) rfl), hmk16, ((((hst72.front 5 rfl rfl).front 5 rfl rfl).front 5 rfl rfl).keepN 4 rfl), hm71, (by omega), (chk_step (by omega) hf22 (of_decide_eq_false c55) c64), rfl⟩
      · skip
        have q73 := of_decide_eq_false c28
        refine W_cond_false (by show Value.bool _ = _; exact congrArg Value.bool c28) ?_
        refine W_exit ?_
        refine W_seq ?_
        refine W_seq ?_
        refine W_region_lit ?_
        refine L_val (v := (ptr p 0)) (w' := w18) rfl rfl rfl rfl ?_
        refine L_val (v := (ptr p 0)) (w' := w18) rfl rfl rfl rfl ?_
        refine L_val (v := (ptr p 1)) (w' := w18) rfl rfl rfl (by kernel_rfl) ?_
        refine L_val (v := (.map bm)) (w' := w18) rfl rfl rfl (x_load rfl rfl (run_loadVar_one ti_58 (hst17.blk (i := 0) rfl) rfl)) ?_
        refine L_val (v := (.int .i64 k)) (w' := w18) rfl rfl rfl rfl ?_
        obtain ⟨v74, hr75, hv76⟩ := MapC.lookupD (w := w18) hM (hst17.get (i := 2) rfl) law3 mt_58 ti_29 k true [] (RdS.empty _ _)
        have hv76' : RdS tyFact R v74 ((AL.get s.mods k).getD []) := hv76
        refine L_val (v := (.tuple #[v74, (.bool ((AL.get s.mods k).isSome))])) (w' := w18) rfl rfl rfl (x_lookup rfl rfl rfl hr75) ?_
        refine L_val (v := (.tuple #[v74, (.bool ((AL.get s.mods k).isSome))])) (w' := w18) rfl rfl rfl rfl ?_
        refine L_val (v := v74) (w' := w18) rfl rfl rfl (by kernel_rfl) ?_
        refine L_val (v := (.bool ((AL.get s.mods k).isSome))) (w' := w18) rfl rfl rfl (by kernel_rfl) ?_
        refine L_val (v := v74) (w' := w18) rfl rfl rfl rfl ?_
        refine L_val (v := (.bool ((AL.get s.mods k).isSome))) (w' := w18) rfl rfl rfl rfl ?_
        refine L_nil ?_
        refine W_seq ?_
        refine W_region_lit ?_
        refine L_val (v := (.bool ((AL.get s.mods k).isSome))) (w' := w18) rfl rfl rfl rfl ?_
        refine L_nil ?_
        rcases Bool.eq_false_or_eq_true ((AL.get s.mods k).isSome) with c77 | c77
        · skip
          refine W_cond_true (by show Value.bool _ = _; exact congrArg Value.bool c77) ?_
          refine W_seq ?_
          refine W_region_lit ?_
          refine L_val (v := (.int .i64 41)) (w' := w18) rfl rfl rfl rfl ?_
          refine L_nil ?_
          refine W_ret ?_
          refine ⟨_, _, res_run (rs := [.tmp 6]) (vs := [(.int .i64 41)]) Try.results11 (.cons (.tmp rfl) .nil) hmk16, ?_⟩
          have he := RS.addE_busy (of_decide_eq_false c1) (chk_end (by omega) hf22) c77
          rw [RS.add_same he (by decide)]
          obtain ⟨c78, hst79, hreg80⟩ := Reg.close (s := s) (((hst17.front 2 rfl rfl).front 2 rfl rfl).front 2 rfl rfl) hm hM hok (by first | exact hbm | (intro h; cases h))
          exact ⟨_, _, _, rfl, hst79.keepN 1 rfl, c78, (by rw [he]; rfl), rfl, hreg80⟩
        · skip
          refine W_cond_false (by show Value.bool _ = _; exact congrArg Value.bool c77) ?_
          refine W_skip ?_
          refine W_seq ?_
          refine W_seq ?_
          refine W_region_lit ?_
          refine L_val (v := (ptr p 0)) (w' := w18) rfl rfl rfl rfl ?_
          refine L_val (v := (.slice a12 xs.length cap13)) (w' := w18) rfl rfl rfl rfl ?_
          refine L_callG hst17 (v := (.bool (cur s.vers xs))) rfl rfl rfl (x_call (vs := #[(ptr p 0), (.slice a12 xs.length cap13)]) rfl rfl (by kernel_rfl) ent_27) (current_spec (v := (.slice a12 xs.length cap13)) (xs := xs) (Le.refl _) (hst17.get (i := 0) rfl) hm (hst17.get (i := 1) rfl) (RdS.mono hv (Step.keepB hst17 hB (by simpa using hBd))) (by first | omega | (have h_ := hmax; omega))) (fun w81 hst82 => ?_)
          refine L_val (v := (.bool (!(cur s.vers xs)))) (w' := w81) rfl rfl rfl rfl ?_
          refine L_nil ?_
          rcases Bool.eq_false_or_eq_true (cur s.vers xs) with c83 | c83
          · skip
            refine W_cond_false (by show Value.bool _ = _; exact congrArg Value.bool (by rw [c83]; rfl)) ?_
            refine W_skip ?_
            refine W_seq ?_
            refine W_seq ?_
            refine W_region_lit ?_
            refine L_val (v := (ptr p 0)) (w' := w81) rfl rfl rfl rfl ?_
            refine L_val (v := (ptr p 0)) (w' := w81) rfl rfl rfl rfl ?_
            refine L_val (v := (ptr p 1)) (w' := w81) rfl rfl rfl (by kernel_rfl) ?_
            refine L_val (v := (.map bm)) (w' := w81) rfl rfl rfl (x_load rfl rfl (run_loadVar_one ti_58 (hst82.blk (i := 0) rfl) rfl)) ?_
            rcases bm with _ | b84
            · skip
              refine L_val (v := (.bool true)) (w' := w81) rfl rfl rfl (by kernel_rfl) ?_
              refine L_nil ?_
              refine W_cond_true (by show Value.bool _ = _; exact congrArg Value.bool rfl) ?_
              refine W_region_lit ?_
              refine L_val (v := (ptr p 0)) (w' := w81) rfl rfl rfl rfl ?_
              refine L_new hst82 (v := fun b => .map (some b)) (ob := .map #[] 0) rfl rfl rfl (by kernel_rfl) (fun b85 w86 hst87 => ?_)
              have hm88 : MapC (Value.int .i64) (vS R) (some b85) [] _ := MapC.made b85
              generalize one b85 (.map #[] 0) = c89 at hm88 hst87
              refine L_val (v := (ptr p 0)) (w' := w86) rfl rfl rfl rfl ?_
              refine L_val (v := (ptr p 1)) (w' := w86) rfl rfl rfl (by kernel_rfl) ?_
              have hn90 := MapC.nilOf hM
              have hst91 := Step.drop (hst87.front 3 rfl rfl)
              rw [← hn90] at hm88
              refine L_store hst91 1 ti_58 rfl rfl rfl rfl rfl rfl rfl rfl rfl rfl rfl (fun w92 hst93 => ?_)
              change Step _ _ _ _ _ [c89, one p (.cells #[(.map bv), (.map (some b85))] 60 (0, 0)), cV, cS26] at hst93
              refine L_nil ?_
              refine W_seq ?_
              refine W_region_draw [7] (fun w => Le R (hp w) ∧ Le c89 (hp w) ∧ Le (one p (.cells #[(.map bv), (.map (some b85))] 60 (0, 0))) (hp w) ∧ Le cV (hp w) ∧ Le cS26 (hp w)) hmix (by decide +kernel) (fun _ _ h => h) ?_
              have hst95 := hst93.draws (w92.drawn + 1)
              generalize draws w92 (w92.drawn + 1) = w94 at hst95 ⊢
              refine LA_takeP (v := (ptr p 0)) 0 rfl rfl rfl (by decide +kernel) (by decide +kernel) (by decide +kernel) (by decide +kernel) (fun _ _ _ h => h) (Want.plain rfl) (fun u97 => rfl) (fun _ => ⟨hst95.rle', hst95.get (i := 0) rfl, hst95.get (i := 1) rfl, hst95.get (i := 2) rfl, hst95.get (i := 3) rfl⟩) ?_
              refine LA_takeP (v := (ptr p 0)) 1 rfl rfl rfl (by decide +kernel) (by decide +kernel) (by decide +kernel) (by decide +kernel) (fun _ _ _ h => h) (Want.plain rfl) (fun u100 => rfl) (fun _ => ⟨hst95.rle', hst95.get (i := 0) rfl, hst95.get (i := 1) rfl, hst95.get (i := 2) rfl, hst95.get (i := 3) rfl⟩) ?_
              refine LA_takeP (v := (ptr p 1)) 2 rfl rfl rfl (by decide +kernel) (by decide +kernel) (by decide +kernel) (by decide +kernel) (fun _ _ _ h => h) (Want.plain rfl) (fun u103 => (by kernel_rfl)) (fun _ => ⟨hst95.rle', hst95.get (i := 0) rfl, hst95.get (i := 1) rfl, hst95.get (i := 2) rfl, hst95.get (i := 3) rfl⟩) ?_
              refine LA_take (v := (.map (some b85))) 3 rfl rfl rfl (by decide +kernel) (by decide +kernel) (by decide +kernel) (by decide +kernel) (by decide +kernel) (fun _ _ _ h => h) (Want.plain rfl) (fun u106 hF107 => (x_load rfl rfl (run_loadVar_one ti_58 (hF107.2.2.1 _ _ (one_self _ _)) rfl))) ⟨hst95.rle', hst95.get (i := 0) rfl, hst95.get (i := 1) rfl, hst95.get (i := 2) rfl, hst95.get (i := 3) rfl⟩ ?_
              refine LA_takeP (v := (.int .i64 k)) 4 rfl rfl rfl (by decide +kernel) (by decide +kernel) (by decide +kernel) (by decide +kernel) (fun _ _ _ h => h) (Want.plain rfl) (fun u109 => rfl) (fun _ => ⟨hst95.rle', hst95.get (i := 0) rfl, hst95.get (i := 1) rfl, hst95.get (i := 2) rfl, hst95.get (i := 3) rfl⟩) ?_
              refine LA_takeP (v := (.slice a12 xs.length cap13)) 5 rfl rfl rfl (by decide +kernel) (by decide +kernel) (by decide +kernel) (by decide +kernel) (fun _ _ _ h => h) (Want.plain rfl) (fun u112 => rfl) (fun _ => ⟨hst95.rle', hst95.get (i := 0) rfl, hst95.get (i := 1) rfl, hst95.get (i := 2) rfl, hst95.get (i := 3) rfl⟩) ?_
              refine LA_all [6] (by decide +kernel) (by simp) ?_
              intro i_ hi_
              simp only [List.mem_cons, List.not_mem_nil, or_false] at hi_
              subst hi_
              have hst117 := hst95
              refine One_callS (i := 6) [] [c89, one p (.cells #[(.map bv), (.map (some b85))] 60 (0, 0)), cV, cS26] hst117 rfl rfl rfl (Want.plain rfl) (x_call (vs := #[(.slice a12 xs.length cap13)]) rfl rfl (by kernel_rfl) ent_23) (Clone_specB (v := (.slice a12 xs.length cap13)) (xs := xs) (hst117.sats.take 0 rfl) hv (Step.keepB hst95 hB (by simpa using hBd)) (by first | omega | (have h_ := hmax; omega))) (fun v118 w119 R120 L121 hp122 hle123 hst124 => ?_)
              have hm125 := vS.lift hm88 hle123
              obtain ⟨c126, rfl, ho127⟩ := hp122
              refine ⟨(fun _ => ⟨(Le.trans hle123 hst124.rle'), hst124.get (i := 1) rfl, hst124.get (i := 2) rfl, hst124.get (i := 3) rfl, hst124.get (i := 4) rfl⟩), ?_⟩
              refine LA_all [7] (by decide +kernel) (by simp) ?_
              intro i_ hi_
              simp only [List.mem_cons, List.not_mem_nil, or_false] at hi_
              subst hi_
              obtain ⟨R129, hst130, hle131, hc132⟩ := Step.frz hst124
              have hm133 := vS.lift hm125 hle131
              have hrd134 := OwnL.freeze ho127 hle131 hc132
              obtain ⟨c135, w136, hr137, hm138, hst139⟩ := MapC.update hm133 hst130 law3 mt_58 k xs v118 hrd134
              refine One_skip (i := 7) rfl rfl (Want.plain rfl) (x_mapUpdate rfl rfl rfl rfl hr137) (fun h => absurd h (by decide +kernel)) ?_
              refine LA_done (by decide +kernel) ?_
              refine W_seq ?_
              refine W_region_lit ?_
              refine L_val (v := (.int .i64 0)) (w' := w136) rfl rfl rfl rfl ?_
              refine L_nil ?_
              refine W_ret ?_
              refine ⟨_, _, res_run (rs := [.tmp 6]) (vs := [(.int .i64 0)]) Try.results11 (.cons (.tmp rfl) .nil) hmk16, ?_⟩
              have he := RS.addE_ok (of_decide_eq_false c1) (chk_end (by omega) hf22) c77 c83
              rw [RS.add_ok he]
              obtain ⟨c140, hst141, hreg142⟩ := Reg.close (s := { s with mods := AL.set s.mods k xs }) ((hst139.front 2 rfl rfl).front 2 rfl rfl) hm hm138 (hok.set k hmax) (by first | exact hbm | (intro h; cases h))
              exact ⟨_, _, _, rfl, hst141.keepN 1 rfl, c140, (by rw [he]; rfl), rfl, hreg142⟩
            · skip
              refine L_val (v := (.bool false)) (w' := w81) rfl rfl rfl (by kernel_rfl) ?_
              refine L_nil ?_
              refine W_cond_false (by show Value.bool _ = _; exact congrArg Value.bool rfl) ?_
              refine W_skip ?_
              refine W_seq ?_
              refine W_region_draw [7] (fun w => Le R (hp w) ∧ Le (one p (.cells #[(.map bv), (.map (some b84))] 60 (0, 0))) (hp w) ∧ Le cV (hp w) ∧ Le cM (hp w) ∧ Le cS26 (hp w)) hmix (by decide +kernel) (fun _ _ h => h) ?_
              have hst144 := hst82.draws (w81.drawn + 1)
              generalize draws w81 (w81.drawn + 1) = w143 at hst144 ⊢
              refine LA_takeP (v := (ptr p 0)) 0 rfl rfl rfl (by decide +kernel) (by decide +kernel) (by decide +kernel) (by decide +kernel) (fun _ _ _ h => h) (Want.plain rfl) (fun u146 => rfl) (fun _ => ⟨hst144.rle', hst144.get (i := 0) rfl, hst144.get (i := 1) rfl, hst144.get (i := 2) rfl, hst144.get (i := 3) rfl⟩) ?_
              refine LA_takeP (v := (ptr p 0)) 1 rfl rfl rfl (by decide +kernel) (by decide +kernel) (by decide +kernel) (by decide +kernel) (fun _ _ _ h => h) (Want.plain rfl) (fun u149 => rfl) (fun _ => ⟨hst144.rle', hst144.get (i := 0) rfl, hst144.get (i := 1) rfl, hst144.get (i := 2) rfl, hst144.get (i := 3) rfl⟩) ?_
              refine LA_takeP (v := (ptr p 1)) 2 rfl rfl rfl (by decide +kernel) (by decide +kernel) (by decide +kernel) (by decide +kernel) (fun _ _ _ h => h) (Want.plain rfl) (fun u152 => (by kernel_rfl)) (fun _ => ⟨hst144.rle', hst144.get (i := 0) rfl, hst144.get (i := 1) rfl, hst144.get (i := 2) rfl, hst144.get (i := 3) rfl⟩) ?_
              refine LA_take (v := (.map (some b84))) 3 rfl rfl rfl (by decide +kernel) (by decide +kernel) (by decide +kernel) (by decide +kernel) (by decide +kernel) (fun _ _ _ h => h) (Want.plain rfl) (fun u155 hF156 => (x_load rfl rfl (run_loadVar_one ti_58 (hF156.2.1 _ _ (one_self _ _)) rfl))) ⟨hst144.rle', hst144.get (i := 0) rfl, hst144.get (i := 1) rfl, hst144.get (i := 2) rfl, hst144.get (i := 3) rfl⟩ ?_
              refine LA_takeP (v := (.int .i64 k)) 4 rfl rfl rfl (by decide +kernel) (by decide +kernel) (by decide +kernel) (by decide +kernel) (fun _ _ _ h => h) (Want.plain rfl) (fun u158 => rfl) (fun _ => ⟨hst144.rle', hst144.get (i := 0) rfl, hst144.get (i := 1) rfl, hst144.get (i := 2) rfl, hst144.get (i := 3) rfl⟩) ?_
              refine LA_takeP (v := (.slice a12 xs.length cap13)) 5 rfl rfl rfl (by decide +kernel) (by decide +kernel) (by decide +kernel) (by decide +kernel) (fun _ _ _ h => h) (Want.plain rfl) (fun u161 => rfl) (fun _ => ⟨hst144.rle', hst144.get (i := 0) rfl, hst144.get (i := 1) rfl, hst144.get (i := 2) rfl, hst144.get (i := 3) rfl⟩) ?_
              refine LA_all [6] (by decide +kernel) (by simp) ?_
              intro i_ hi_
              simp only [List.mem_cons, List.not_mem_nil, or_false] at hi_
              subst hi_
              have hst166 := hst144
              refine One_callS (i := 6) [] [one p (.cells #[(.map bv), (.map (some b84))] 60 (0, 0)), cV, cM, cS26] hst166 rfl rfl rfl (Want.plain rfl) (x_call (vs := #[(.slice a12 xs.length cap13)]) rfl rfl (by kernel_rfl) ent_23) (Clone_specB (v := (.slice a12 xs.length cap13)) (xs := xs) (hst166.sats.take 0 rfl) hv (Step.keepB hst144 hB (by simpa using hBd)) (by first | omega | (have h_ := hmax; omega))) (fun v167 w168 R169 L170 hp171 hle172 hst173 => ?_)
              have hm174 := vS.lift hM hle172
              obtain ⟨c175, rfl, ho176⟩ := hp171
              refine ⟨(fun _ => ⟨(Le.trans hle172 hst173.rle'), hst173.get (i := 1) rfl, hst173.get (i := 2) rfl, hst173.get (i := 3) rfl, hst173.get (i := 4) rfl⟩), ?_⟩
              refine LA_all [7] (by decide +kernel) (by simp) ?_
              intro i_ hi_
              simp only [List.mem_cons, List.not_mem_nil, or_false] at hi_
              subst hi_
              obtain ⟨R178, hst179, hle180, hc181⟩ := Step.frz hst173
              have hm182 := vS.lift hm174 hle180
              have hrd183 := OwnL.freeze ho176 hle180 hc181
              obtain ⟨c184, w185, hr186, hm187, hst188⟩ := MapC.update hm182 (hst179.front 2 rfl rfl) law3 mt_58 k xs v167 hrd183
              refine One_skip (i := 7) rfl rfl (Want.plain rfl) (x_mapUpdate rfl rfl rfl rfl hr186) (fun h => absurd h (by decide +kernel)) ?_
              refine LA_done (by decide +kernel) ?_
              refine W_seq ?_
              refine W_region_lit ?_
              refine L_val (v := (.int .i64 0)) (w' := w185) rfl rfl rfl rfl ?_
              refine L_nil ?_
              refine W_ret ?_
              refine ⟨_, _, res_run (rs := [.tmp 6]) (vs := [(.int .i64 0)]) Try.results11 (.cons (.tmp rfl) .nil) hmk16, ?_⟩
              have he := RS.addE_ok (of_decide_eq_false c1) (chk_end (by omega) hf22) c77 c83
              rw [RS.add_ok he]
              obtain ⟨c189, hst190, hreg191⟩ := Reg.close (s := { s with mods := AL.set s.mods k xs }) ((hst188.front 2 rfl rfl).front 2 rfl rfl) hm hm187 (hok.set k hmax) (by first | exact hbm | (intro h; cases h))
              exact ⟨_, _, _, rfl, hst190.keepN 1 rfl, c189, (by rw [he]; rfl), rfl, hreg191⟩
          · skip
            refine W_cond_true (by show Value.bool _ = _; exact congrArg Value.bool (by rw [c83]; rfl)) ?_
            refine W_seq ?_
            refine W_region_lit ?_
            refine L_val (v := (.int .i64 40)) (w' := w81) rfl rfl rfl rfl ?_
            refine L_nil ?_
            refine W_ret ?_
            refine ⟨_, _, res_run (rs := [.tmp 6]) (vs := [(.int .i64 40)]) Try.results11 (.cons (.tmp rfl) .nil) hmk16, ?_⟩
            have he := RS.addE_stale (of_decide_eq_false c1) (chk_end (by omega) hf22) c77 c83
            rw [RS.add_same he (by decide)]
            obtain ⟨c192, hst193, hreg194⟩ := Reg.close (s := s) (((hst82.front 2 rfl rfl).front 2 rfl rfl).front 2 rfl rfl) hm hM hok (by first | exact hbm | (intro h; cases h))
            exact ⟨_, _, _, rfl, hst193.keepN 1 rfl, c192, (by rw [he]; rfl), rfl, hreg194⟩

theorem Add_spec {w : World} {R c : Hp} {p : Nat} {s : RS} {v : Value} {xs : List Fact} (k : Int) (hv : RdS tyFact R v xs) (hmax : xs.length ≤ 1099511627776) (hs : Sats w R [c]) (hreg : Reg R p s c) :
    Calls Try.prog 11 #[ptr p 0, int k, v] w (Comes' w R [c] fun v' R' L' => ∃ c', v' = int (s.addE k xs) ∧ L' = [c'] ∧ Reg R' p (s.add k xs) c') := Add_specB k hv hs.r (hs.rd c (by simp)) hmax hs hreg

theorem New_spec {w : World} {R : Hp} {f c : Nat} (hs : Sats w R []) (hf : f ≤ 24) (hc : c ≤ 12) :
    Calls Try.prog 10 #[int (f : Int), int (c : Int)] w (Comes' w R [] fun v' R' L' => ∃ p c', v' = ptr p 0 ∧ L' = [c'] ∧ Reg R' p (RS.new f c) c') := by
  have hst := Step.refl hs
  refine calls_of_W (n := 49) Try.func10 rfl Try.ntmps10 (Nat.le_of_ble_eq_true rfl) ?_
  refine W_seq ?_
  refine W_region_lit ?_
  refine L_val (v := (.pointer none)) (w' := w) rfl rfl rfl rfl ?_
  refine L_nil ?_
  refine W_seq ?_
  refine W_seq ?_
  refine W_region_lit ?_
  refine L_val (v := (.int .i64 (f : Int))) (w' := w) rfl rfl rfl rfl ?_
  refine L_val (v := (.bool (decide ((f : Int) < 0)))) (w' := w) rfl rfl rfl (by kernel_rfl) ?_
  refine L_val (v := (.bool (decide ((f : Int) < 0)))) (w' := w) rfl rfl rfl rfl ?_
  have c1 : (decide ((f : Int) < 0)) = false := decide_eq_false (by omega)
  have q2 := of_decide_eq_false c1
  refine L_guard rfl rfl rfl rfl c1 ?_
  refine L_val (v := (.int .i64 (f : Int))) (w' := w) rfl rfl rfl rfl ?_
  refine L_guard rfl rfl rfl rfl c1 ?_
  refine L_val (v := (.bool (decide ((f : Int) > 24)))) (w' := w) rfl rfl rfl (by kernel_rfl) ?_
  refine L_val (v := (.bool (decide ((f : Int) > 24)))) (w' := w) rfl rfl rfl (x_pick rfl rfl (by rw [c1]; rfl)) ?_
  refine L_val (v := (.bool (decide ((f : Int) > 24)))) (w' := w) rfl rfl rfl rfl ?_
  have c3 : (decide ((f : Int) > 24)) = false := decide_eq_false (by omega)
  have q4 := of_decide_eq_false c3
  refine L_guard rfl rfl rfl rfl c3 ?_
  refine L_val (v := (.int .i64 (c : Int))) (w' := w) rfl rfl rfl rfl ?_
  refine L_guard rfl rfl rfl rfl c3 ?_
  refine L_val (v := (.bool (decide ((c : Int) < 0)))) (w' := w) rfl rfl rfl (by kernel_rfl) ?_
  refine L_val (v := (.bool (decide ((c : Int) < 0)))) (w' := w) rfl rfl rfl (x_pick rfl rfl (by rw [c3]; rfl)) ?_
  refine L_val (v := (.bool (decide ((c : Int) < 0)))) (w' := w) rfl rfl rfl rfl ?_
  have c5 : (decide ((c : Int) < 0)) = false := decide_eq_false (by omega)
  have q6 := of_decide_eq_false c5
  refine L_guard rfl rfl rfl rfl c5 ?_
  refine L_val (v := (.int .i64 (c : Int))) (w' := w) rfl rfl rfl rfl ?_
  refine L_guard rfl rfl rfl rfl c5 ?_
  refine L_val (v := (.bool (decide ((c : Int) > 12)))) (w' := w) rfl rfl rfl (by kernel_rfl) ?_
  refine L_val (v := (.bool (decide ((c : Int) > 12)))) (w' := w) rfl rfl rfl (x_pick rfl rfl (by rw [c5]; rfl)) ?_
  refine L_nil ?_
  have c7 : (decide ((c : Int) > 12)) = false := decide_eq_false (by omega)
  have q8 := of_decide_eq_false c7
  refine W_cond_false (by show Value.bool _ = _; exact congrArg Value.bool c7) ?_
  refine W_skip ?_
  refine W_seq ?_
  refine W_region_lit ?_
  refine L_new hst (v := fun b => .map (some b)) (ob := .map #[] 0) rfl rfl rfl (by kernel_rfl) (fun b9 w10 hst11 => ?_)
  have hm12 : MapC kk (vE (Value.int .i64)) (some b9) [] _ := MapC.made b9
  generalize one b9 (.map #[] 0) = c13 at hm12 hst11
  refine L_new hst11 (v := fun b => .map (some b)) (ob := .map #[] 0) rfl rfl rfl (by kernel_rfl) (fun b14 w15 hst16 => ?_)
  have hm17 : MapC (Value.int .i64) (vS R) (some b14) [] _ := MapC.made b14
  generalize one b14 (.map #[] 0) = c18 at hm17 hst16
  refine L_val (v := (.agg #[(.map (some b9)), (.map (some b14))])) (w' := w15) rfl rfl rfl (by kernel_rfl) ?_
  refine L_new hst16 (v := fun b => ptr b 0) (ob := .cells #[(.map (some b9)), (.map (some b14))] 60 (0, 0)) rfl rfl rfl (by kernel_rfl) (fun b19 w20 hst21 => ?_)
  refine L_val (v := (ptr b19 0)) (w' := w20) rfl rfl rfl rfl ?_
  refine L_nil ?_
  refine W_seq ?_
  refine W_seq ?_
  refine W_region_lit ?_
  refine L_val (v := (.int .i64 (f : Int))) (w' := w20) rfl rfl rfl rfl ?_
  refine L_val (v := (.int .i64 0)) (w' := w20) rfl rfl rfl rfl ?_
  refine L_nil ?_
  refine W_block ?_
  refine W_loop (I := fun σ w_ m_ => ∃ (σ0 : Fr) (k_ : Nat) (cV : Hp), σ = upd (upd (upd (upd (upd (upd (upd (upd (upd (upd (upd (upd (upd (upd (upd (upd (upd (upd (upd (upd (upd (upd (upd (upd σ0 0 (.int .i64 (f : Int))) 1 (.int .i64 (c : Int))) 4 (.pointer none)) 5 (ptr b19 0)) 8 (.int .i64 (f : Int))) 9 (.bool (decide ((f : Int) < 0)))) 10 (.bool (decide ((f : Int) < 0)))) 11 (.int .i64 (f : Int))) 12 (.bool (decide ((f : Int) > 24)))) 13 (.bool (decide ((f : Int) > 24)))) 14 (.bool (decide ((f : Int) > 24)))) 15 (.int .i64 (c : Int))) 16 (.bool (decide ((c : Int) < 0)))) 17 (.bool (decide ((c : Int) < 0)))) 18 (.bool (decide ((c : Int) < 0)))) 19 (.int .i64 (c : Int))) 20 (.bool (decide ((c : Int) > 12)))) 21 (.bool (decide ((c : Int) > 12)))) 22 (.map (some b9))) 23 (.map (some b14))) 24 (.agg #[(.map (some b9)), (.map (some b14))])) 25 (ptr b19 0)) 26 (.int .i64 (f : Int))) 27 (.int .i64 (k_ : Int)) ∧ mks (σ0 0) = [] ∧ Step w R [] w_ R [one b19 (.cells #[(.map (some b9)), (.map (some b14))] 60 (0, 0)), cV, c18] ∧ MapC kk (vE (Value.int .i64)) (some b9) (vF k_) cV ∧ k_ ≤ f ∧ m_ = f - k_) (m := f - 0) ?_ ?_
  · skip
    exact ⟨_, 0, c13, (upd_of (upd_of (upd_of (upd_of (upd_of (upd_of (upd_of (upd_of (upd_of (upd_of (upd_of (upd_of (upd_of (upd_of (upd_of (upd_of (upd_of (upd_of (upd_of (upd_of (upd_of (upd_of (upd_of (upd_of rfl rfl) rfl) rfl) rfl) rfl) rfl) rfl) rfl) rfl) rfl) rfl) rfl) rfl) rfl) rfl) rfl) rfl) rfl) rfl) rfl) rfl) rfl) rfl) rfl), rfl, (((hst21.front 1 rfl rfl).front 2 rfl rfl).front 2 rfl rfl), hm12, (by omega), rfl⟩
  · skip
    rintro m31 σ_ w24 ⟨s28, k_29, cV30, rfl, hmk22, hst23, hi26, hf27, rfl⟩
    refine W_seq ?_
    refine W_region_lit ?_
    refine L_val (v := (.bool (decide ((k_29 : Int) < (f : Int))))) (w' := w24) rfl rfl rfl (by kernel_rfl) ?_
    refine L_nil ?_
    refine W_seq ?_
    rcases Bool.eq_false_or_eq_true (decide ((k_29 : Int) < (f : Int))) with c32 | c32
    · skip
      have q33 := of_decide_eq_true c32
      refine W_cond_true (by show Value.bool _ = _; exact congrArg Value.bool c32) ?_
      refine W_skip ?_
      refine W_seq ?_
      refine W_block ?_
      refine W_seq ?_
      refine W_region_lit ?_
      refine L_val (v := (.int .i64 (k_29 : Int))) (w' := w24) rfl rfl rfl rfl ?_
      refine L_val (v := (.int .i64 (k_29 : Int))) (w' := w24) rfl rfl rfl rfl ?_
      refine L_nil ?_
      refine W_region_lit ?_
      refine L_val (v := (ptr b19 0)) (w' := w24) rfl rfl rfl rfl ?_
      refine L_val (v := (ptr b19 0)) (w' := w24) rfl rfl rfl rfl ?_
      refine L_val (v := (ptr b19 0)) (w' := w24) rfl rfl rfl (by kernel_rfl) ?_
      refine L_val (v := (.map (some b9))) (w' := w24) rfl rfl rfl (x_load rfl rfl (run_loadVar_one ti_57 (hst23.blk (i := 0) rfl) rfl)) ?_
      refine L_val (v := (.int .i64 (k_29 : Int))) (w' := w24) rfl rfl rfl rfl ?_
      refine L_val (v := (.agg #[(.int .i64 1), (.int .i64 (k_29 : Int))])) (w' := w24) rfl rfl rfl (by kernel_rfl) ?_
      obtain ⟨c34, w35, hr36, hm37, hst38⟩ := MapC.update hi26 (hst23.front 1 rfl rfl) law74 mt_57 (1, (k_29 : Int)) 1 (.int .i64 1) rfl
      refine L_skip rfl rfl (x_mapUpdate rfl rfl rfl rfl hr36) ?_
      refine L_nil ?_
      refine W_region_lit ?_
      refine L_val (v := (.int .i64 ((k_29 + 1 : Nat) : Int))) (w' := w35) rfl rfl rfl (x_add_nat rfl rfl rfl (by omega)) ?_
      refine L_val (v := (.int .i64 ((k_29 + 1 : Nat) : Int))) (w' := w35) rfl rfl rfl rfl ?_
      refine L_nil ?_
      refine ⟨f - (k_29 + 1), by first | omega | (simp only [List.length_append, List.length_cons, List.length_nil]; omega), ?_⟩
      exact ⟨_, (k_29 + 1), c34, (upd_of (upd_of (upd_of (upd_of (upd_of (upd_of (upd_of (upd_of (upd_of (upd_of (upd_of (upd_of (upd_of (upd_of (upd_of (upd_of (upd_of (upd_of (upd_of (upd_of (upd_of (upd_of (upd_of (upd_of rfl rfl) rfl) rfl) rfl) rfl) rfl) rfl) rfl) rfl) rfl) rfl) rfl) rfl) rfl) rfl) rfl) rfl) rfl) rfl) rfl) rfl) rfl) rfl) rfl), hmk22, (((hst38.front 2 rfl rfl).front 1 rfl rfl).front 2 rfl rfl), hm37, (by omega), rfl⟩
    · skip
      have q39 := of_decide_eq_false c32
      refine W_cond_false (by show Value.bool _ = _; exact congrArg Value.bool c32) ?_
      refine W_exit ?_
      refine W_seq ?_
      refine W_seq ?_
      have hk1 : f = k_29 := by omega
      subst hk1
      refine W_region_lit ?_
      refine L_val (v := (.int .i64 (c : Int))) (w' := w24) rfl rfl rfl rfl ?_
      refine L_val (v := (.int .i64 0)) (w' := w24) rfl rfl rfl rfl ?_
      refine L_nil ?_
      refine W_block ?_
      refine W_loop (I := fun σ w_ m_ => ∃ (σ0 : Fr) (k_ : Nat) (cV : Hp), σ = upd (upd (upd (upd (upd (upd (upd (upd (upd (upd (upd (upd (upd (upd (upd (upd (upd (upd (upd (upd (upd (upd (upd (upd (upd (upd (upd σ0 0 (.int .i64 (f : Int))) 1 (.int .i64 (c : Int))) 4 (.pointer none)) 5 (ptr b19 0)) 8 (.int .i64 (f : Int))) 9 (.bool (decide ((f : Int) < 0)))) 10 (.bool (decide ((f : Int) < 0)))) 11 (.int .i64 (f : Int))) 12 (.bool (decide ((f : Int) > 24)))) 13 (.bool (decide ((f : Int) > 24)))) 14 (.bool (decide ((f : Int) > 24)))) 15 (.int .i64 (c : Int))) 16 (.bool (decide ((c : Int) < 0)))) 17 (.bool (decide ((c : Int) < 0)))) 18 (.bool (decide ((c : Int) < 0)))) 19 (.int .i64 (c : Int))) 20 (.bool (decide ((c : Int) > 12)))) 21 (.bool (decide ((c : Int) > 12)))) 22 (.map (some b9))) 23 (.map (some b14))) 24 (.agg #[(.map (some b9)), (.map (some b14))])) 25 (ptr b19 0)) 26 (.int .i64 (f : Int))) 27 (.int .i64 (f : Int))) 28 (.bool (decide ((f : Int) < (f : Int))))) 37 (.int .i64 (c : Int))) 38 (.int .i64 (k_ : Int)) ∧ mks (σ0 0) = [] ∧ Step w R [] w_ R [one b19 (.cells #[(.map (some b9)), (.map (some b14))] 60 (0, 0)), cV, c18] ∧ MapC kk (vE (Value.int .i64)) (some b9) (vC f k_) cV ∧ k_ ≤ c ∧ m_ = c - k_) (m := c - 0) ?_ ?_
      · skip
        exact ⟨_, 0, cV30, (upd_of (upd_of (upd_of (upd_of (upd_of (upd_of (upd_of (upd_of (upd_of (upd_of (upd_of (upd_of (upd_of (upd_of (upd_of (upd_of (upd_of (upd_of (upd_of (upd_of (upd_of (upd_of (upd_of (upd_of (upd_of (upd_of (upd_of rfl rfl) rfl) rfl) rfl) rfl) rfl) rfl) rfl) rfl) rfl) rfl) rfl) rfl) rfl) rfl) rfl) rfl) rfl) rfl) rfl) rfl) rfl) rfl) rfl) rfl) rfl) rfl), hmk22, (((hst23.front 2 rfl rfl).front 2 rfl rfl).front 2 rfl rfl), hi26, (by omega), rfl⟩
      · skip
        rintro m49 σ_ w42 ⟨s46, k_47, cV48, rfl, hmk40, hst41, hi44, hf45, rfl⟩
        refine W_seq ?_
        refine W_region_lit ?_
        refine L_val (v := (.bool (decide ((k_47 : Int) < (c : Int))))) (w' := w42) rfl rfl rfl (by kernel_rfl) ?_
        refine L_nil ?_
        refine W_seq ?_
        rcases Bool.eq_false_or_eq_true (decide ((k_47 : Int) < (c : Int))) with c50 | c50
        · skip
          have q51 := of_decide_eq_true c50
          refine W_cond_true (by show Value.bool _ = _; exact congrArg Value.bool c50) ?_
          refine W_skip ?_
          refine W_seq ?_
          refine W_block ?_
          refine W_seq ?_
          refine W_region_lit ?_
          refine L_val (v := (.int .i64 (k_47 : Int))) (w' := w42) rfl rfl rfl rfl ?_
          refine L_val (v := (.int .i64 (k_47 : Int))) (w' := w42) rfl rfl rfl rfl ?_
          refine L_nil ?_
          refine W_region_lit ?_
          refine L_val (v := (ptr b19 0)) (w' := w42) rfl rfl rfl rfl ?_
          refine L_val (v := (ptr b19 0)) (w' := w42) rfl rfl rfl rfl ?_
          refine L_val (v := (ptr b19 0)) (w' := w42) rfl rfl rfl (by kernel_rfl) ?_
          refine L_val (v := (.map (some b9))) (w' := w42) rfl rfl rfl (x_load rfl rfl (run_loadVar_one ti_57 (hst41.blk (i := 0) rfl) rfl)) ?_
          refine L_val (v := (.int .i64 (k_47 : Int))) (w' := w42) rfl rfl rfl rfl ?_
          refine L_val (v := (.agg #[(.int .i64 2), (.int .i64 (k_47 : Int))])) (w' := w42) rfl rfl rfl (by kernel_rfl) ?_
          obtain ⟨c52, w53, hr54, hm55, hst56⟩ := MapC.update hi44 (hst41.front 1 rfl rfl) law74 mt_57 (2, (k_47 : Int)) 1 (.int .i64 1) rfl
          refine L_skip rfl rfl (x_mapUpdate rfl rfl rfl rfl hr54) ?_
          refine L_nil ?_
          refine W_region_lit ?_
          refine L_val (v := (.int .i64 ((k_47 + 1 : Nat) : Int))) (w' := w53) rfl rfl rfl (x_add_nat rfl rfl rfl (by omega)) ?_
          refine L_val (v := (.int .i64 ((k_47 + 1 : Nat) : Int))) (w' := w53) rfl rfl rfl rfl ?_
          refine L_nil ?_
          refine ⟨c - (k_47 + 1), by first | omega | (simp only [List.length_append, List.length_cons, List.length_nil]; omega), ?_⟩
          exact ⟨_, (k_47 + 1), c52, (upd_of (upd_of (upd_of (upd_of (upd_of (upd_of (upd_of (upd_of (upd_of (upd_of (upd_of (upd_of (upd_of (upd_of (upd_of (upd_of (upd_of (upd_of (upd_of (upd_of (upd_of (upd_of (upd_of (upd_of (upd_of (upd_of (upd_of rfl rfl) rfl) rfl) rfl) rfl) rfl) rfl) rfl) rfl) rfl) rfl) rfl) rfl) rfl) rfl) rfl) rfl) rfl) rfl) rfl) rfl) rfl) rfl) rfl) rfl) rfl) rfl), hmk40, (((hst56.front 2 rfl rfl).front 1 rfl rfl).front 2 rfl rfl), hm55, (by omega), rfl⟩
        · skip
          have q57 := of_decide_eq_false c50
          refine W_cond_false (by show Value.bool _ = _; exact congrArg Value.bool c50) ?_
          refine W_exit ?_
          refine W_seq ?_
          refine W_region_lit ?_
          refine L_val (v := (ptr b19 0)) (w' := w42) rfl rfl rfl rfl ?_
          refine L_val (v := (ptr b19 0)) (w' := w42) rfl rfl rfl rfl ?_
          refine L_nil ?_
          refine W_ret ?_
          refine ⟨_, _, res_run (rs := [.tmp 4]) (vs := [(ptr b19 0)]) Try.results10 (.cons (.tmp rfl) .nil) hmk40, ?_⟩
          have hk2 : c = k_47 := by omega
          subst hk2
          obtain ⟨c', hst', hreg'⟩ := Reg.close (s := RS.new f c) (((hst41.front 2 rfl rfl).front 2 rfl rfl).front 2 rfl rfl) hi44 hm17 (RS.Ok.new _ _) (by intro h; cases h)
          exact ⟨_, _, _, rfl, hst'.keepN 1 rfl, b19, c', rfl, rfl, hreg'⟩

end Go.Fx.Ytlfabjfajcbdcaa
