/-
  Chapter 14: ProfileWarms, printed by genw.py
-/
import Derived.Test.YtdkjoljcffkpkaaDoorPrL
set_option linter.unusedSimpArgs false
set_option linter.unusedVariables false
namespace Go.Fx.YtdkjoljcffkpkaaDoor
open Go Go.Fx Go.Proofs
set_option maxRecDepth 20000

theorem ent_10 : Ent Tryd.prog 10 := fun _ _ => by kernel_rfl
theorem ti_5 : TI Tryd.prog 5 false 1 1 (.int .u8 0) := ⟨by kernel_rfl, by kernel_rfl⟩

set_option maxHeartbeats 4000000 in
theorem Warms_spec {w : World} {R : Hp} {a b c n : Nat} (hs : Sats w R []) (hT : Tab R) (ha : a ≤ 255) (hb : b ≤ 255) (hc : c ≤ 255) (hn : n ≤ 65535) :
    Calls Tryd.prog 6 #[.agg #[.int .u8 (a : Int), .int .u8 (b : Int), .int .u8 (c : Int)], .int .u16 (n : Int)] w (Comes' w R [] fun v' R' L' => v' = .bool true ∧ L' = []) := by
  have hst := Step.refl hs
  refine calls_of_W (n := 85) Tryd.func6 rfl Tryd.ntmps6 (Nat.le_of_ble_eq_true rfl) ?_
  refine W_seq ?_
  refine W_region_lit ?_
  refine L_new hst (v := fun b => ptr b 0) (ob := .cells #[(.int .u8 (a : Int)), (.int .u8 (b : Int)), (.int .u8 (c : Int))] 51 (0, 0)) rfl rfl rfl (by kernel_rfl) (fun b1 w2 hst3 => ?_)
  refine L_val (v := (.bool false)) (w' := w2) rfl rfl rfl rfl ?_
  refine L_nil ?_
  refine W_seq ?_
  refine W_region_lit ?_
  have hst4 := hst3
  refine L_callS [] [one b1 (.cells #[(.int .u8 (a : Int)), (.int .u8 (b : Int)), (.int .u8 (c : Int))] 51 (0, 0))] hst4 rfl rfl rfl (x_call (vs := #[]) rfl rfl (by kernel_rfl) ent_10) (sanity_spec (hst4.sats.take 0 rfl) (hT.mono (Le.refl _))) (fun v5 w6 R7 L8 hp9 hle10 hst11 => ?_)
  obtain ⟨rfl, rfl⟩ := hp9
  refine L_val (v := (.bool true)) (w' := w6) rfl rfl rfl rfl ?_
  refine L_nil ?_
  refine W_seq ?_
  refine W_region_draw [] (fun w => Le R7 (hp w) ∧ Le (one b1 (.cells #[(.int .u8 (a : Int)), (.int .u8 (b : Int)), (.int .u8 (c : Int))] 51 (0, 0))) (hp w)) hmix (by decide +kernel) (fun _ _ h => h) ?_
  have hst13 := hst11.draws (w6.drawn + 1)
  generalize draws w6 (w6.drawn + 1) = w12 at hst13 ⊢
  refine LA_takeP (v := (ptr b1 0)) 0 rfl rfl rfl (by decide +kernel) (by decide +kernel) (by decide +kernel) (by decide +kernel) (fun _ _ _ h => h) (Want.plain rfl) (fun u15 => (by kernel_rfl)) (fun _ => ⟨hst13.rle', hst13.get (i := 0) rfl⟩) ?_
  refine LA_take (v := (.int .u8 (a : Int))) 1 rfl rfl rfl (by decide +kernel) (by decide +kernel) (by decide +kernel) (by decide +kernel) (by decide +kernel) (fun _ _ _ h => h) (Want.plain rfl) (fun u18 hF19 => (x_load rfl rfl (run_loadVar_one ti_5 (hF19.2 _ _ (one_self _ _)) rfl))) ⟨hst13.rle', hst13.get (i := 0) rfl⟩ ?_
  refine LA_takeP (v := (.int .u8 ((a % 20 : Nat) : Int))) 2 rfl rfl rfl (by decide +kernel) (by decide +kernel) (by decide +kernel) (by decide +kernel) (fun _ _ _ h => h) (Want.plain rfl) (fun u21 => (x_remK rfl rfl rfl (by omega))) (fun _ => ⟨hst13.rle', hst13.get (i := 0) rfl⟩) ?_
  refine LA_takeP (v := (.int .i64 ((a % 20 : Nat) : Int))) 3 rfl rfl rfl (by decide +kernel) (by decide +kernel) (by decide +kernel) (by decide +kernel) (fun _ _ _ h => h) (Want.plain rfl) (fun u24 => (x_conv8 rfl rfl (by omega))) (fun _ => ⟨hst13.rle', hst13.get (i := 0) rfl⟩) ?_
  refine LA_takeP (v := (.int .i64 ((1 + a % 20 : Nat) : Int))) 4 rfl rfl rfl (by decide +kernel) (by decide +kernel) (by decide +kernel) (by decide +kernel) (fun _ _ _ h => h) (Want.plain rfl) (fun u27 => (x_add_nat rfl rfl rfl (by omega))) (fun _ => ⟨hst13.rle', hst13.get (i := 0) rfl⟩) ?_
  refine LA_takeP (v := (ptr b1 1)) 5 rfl rfl rfl (by decide +kernel) (by decide +kernel) (by decide +kernel) (by decide +kernel) (fun _ _ _ h => h) (Want.plain rfl) (fun u30 => (by kernel_rfl)) (fun _ => ⟨hst13.rle', hst13.get (i := 0) rfl⟩) ?_
  refine LA_take (v := (.int .u8 (b : Int))) 6 rfl rfl rfl (by decide +kernel) (by decide +kernel) (by decide +kernel) (by decide +kernel) (by decide +kernel) (fun _ _ _ h => h) (Want.plain rfl) (fun u33 hF34 => (x_load rfl rfl (run_loadVar_one ti_5 (hF34.2 _ _ (one_self _ _)) rfl))) ⟨hst13.rle', hst13.get (i := 0) rfl⟩ ?_
  refine LA_takeP (v := (.int .u8 ((b % 30 : Nat) : Int))) 7 rfl rfl rfl (by decide +kernel) (by decide +kernel) (by decide +kernel) (by decide +kernel) (fun _ _ _ h => h) (Want.plain rfl) (fun u36 => (x_remK rfl rfl rfl (by omega))) (fun _ => ⟨hst13.rle', hst13.get (i := 0) rfl⟩) ?_
  refine LA_takeP (v := (.int .i64 ((b % 30 : Nat) : Int))) 8 rfl rfl rfl (by decide +kernel) (by decide +kernel) (by decide +kernel) (by decide +kernel) (fun _ _ _ h => h) (Want.plain rfl) (fun u39 => (x_conv8 rfl rfl (by omega))) (fun _ => ⟨hst13.rle', hst13.get (i := 0) rfl⟩) ?_
  refine LA_takeP (v := (.int .i64 ((1 + b % 30 : Nat) : Int))) 9 rfl rfl rfl (by decide +kernel) (by decide +kernel) (by decide +kernel) (by decide +kernel) (fun _ _ _ h => h) (Want.plain rfl) (fun u42 => (x_add_nat rfl rfl rfl (by omega))) (fun _ => ⟨hst13.rle', hst13.get (i := 0) rfl⟩) ?_
  refine LA_takeP (v := (.int .i64 ((1 + a % 20 : Nat) : Int))) 10 rfl rfl rfl (by decide +kernel) (by decide +kernel) (by decide +kernel) (by decide +kernel) (fun _ _ _ h => h) (Want.plain rfl) (fun u45 => rfl) (fun _ => ⟨hst13.rle', hst13.get (i := 0) rfl⟩) ?_
  refine LA_takeP (v := (.int .i64 ((1 + b % 30 : Nat) : Int))) 11 rfl rfl rfl (by decide +kernel) (by decide +kernel) (by decide +kernel) (by decide +kernel) (fun _ _ _ h => h) (Want.plain rfl) (fun u48 => rfl) (fun _ => ⟨hst13.rle', hst13.get (i := 0) rfl⟩) ?_
  refine LA_done (by decide +kernel) ?_
  refine W_seq ?_
  refine W_region_lit ?_
  refine L_val (v := (.int .i64 ((1 + b % 30 : Nat) : Int))) (w' := w12) rfl rfl rfl rfl ?_
  refine L_val (v := (.int .i64 ((1 + b % 30 + 1 : Nat) : Int))) (w' := w12) rfl rfl rfl (x_add_nat rfl rfl rfl (by omega)) ?_
  refine L_val (v := (ptr b1 2)) (w' := w12) rfl rfl rfl (by kernel_rfl) ?_
  refine L_val (v := (.int .u8 (c : Int))) (w' := w12) rfl rfl rfl (x_load rfl rfl (run_loadVar_one ti_5 (hst13.blk (i := 0) rfl) rfl)) ?_
  refine L_val (v := (.int .u8 ((c % 30 : Nat) : Int))) (w' := w12) rfl rfl rfl (x_remK rfl rfl rfl (by omega)) ?_
  refine L_val (v := (.int .i64 ((c % 30 : Nat) : Int))) (w' := w12) rfl rfl rfl (x_conv8 rfl rfl (by omega)) ?_
  refine L_val (v := (.int .i64 ((1 + b % 30 + 1 + c % 30 : Nat) : Int))) (w' := w12) rfl rfl rfl (x_add_nat rfl rfl rfl (by omega)) ?_
  refine L_val (v := (.int .i64 ((1 + b % 30 + 1 + c % 30 : Nat) : Int))) (w' := w12) rfl rfl rfl rfl ?_
  refine L_nil ?_
  refine W_seq ?_
  generalize hm0 : 1 + a % 20 = m
  generalize hw0 : 1 + b % 30 = wv
  generalize hh0 : wv + 1 + c % 30 = hv
  refine W_region_lit ?_
  refine L_val (v := (.int .i64 (m : Int))) (w' := w12) rfl rfl rfl rfl ?_
  refine L_val (v := (.int .i64 (wv : Int))) (w' := w12) rfl rfl rfl rfl ?_
  refine L_val (v := (.int .i64 (hv : Int))) (w' := w12) rfl rfl rfl rfl ?_
  have hst50 := hst13
  refine L_callS [] [one b1 (.cells #[(.int .u8 (a : Int)), (.int .u8 (b : Int)), (.int .u8 (c : Int))] 51 (0, 0))] hst50 rfl rfl rfl (x_call (vs := #[(.int .i64 (m : Int)), (.int .i64 (wv : Int)), (.int .i64 (hv : Int)), (.int .i64 1)]) rfl rfl (by kernel_rfl) ent_22) (New_spec (a := (m : Int)) (b := (wv : Int)) (c := (hv : Int)) (d := 1) (hst50.sats.take 0 rfl) (by omega) (by omega) (by omega) (by omega)) (fun v51 w52 R53 L54 hp55 hle56 hst57 => ?_)
  obtain ⟨p58, c59, rfl, rfl, hp60⟩ := hp55
  have hprof61 : Prof R53 p58 (⟨(m : Int), (wv : Int), (hv : Int), 1, [], [], 0⟩ : PS) c59 := hp60
  refine L_val (v := (.tuple #[(ptr p58 0), (.int .i64 0)])) (w' := w52) rfl rfl rfl rfl ?_
  refine L_val (v := (ptr p58 0)) (w' := w52) rfl rfl rfl (by kernel_rfl) ?_
  refine L_val (v := (.int .i64 0)) (w' := w52) rfl rfl rfl (by kernel_rfl) ?_
  refine L_val (v := (ptr p58 0)) (w' := w52) rfl rfl rfl rfl ?_
  refine L_val (v := (.int .i64 0)) (w' := w52) rfl rfl rfl rfl ?_
  refine L_nil ?_
  refine W_seq ?_
  refine W_region_lit ?_
  refine L_val (v := (.agg #[(.int .i64 7), (.int .i64 9)])) (w' := w52) rfl rfl rfl (by kernel_rfl) ?_
  refine L_new hst57 (v := fun b => ptr b 0) (ob := .cells #[(.int .i64 0), (.int .i64 0)] 43 (0, 0)) rfl rfl rfl (by kernel_rfl) (fun b62 w63 hst64 => ?_)
  refine L_store hst64 0 ti_43 rfl rfl rfl rfl rfl rfl rfl rfl rfl rfl rfl (fun w65 hst66 => ?_)
  change Step _ _ _ _ _ [one b62 (.cells #[(.int .i64 7), (.int .i64 9)] 43 (0, 0)), c59, one b1 (.cells #[(.int .u8 (a : Int)), (.int .u8 (b : Int)), (.int .u8 (c : Int))] 51 (0, 0))] at hst66
  refine L_nil ?_
  refine W_seq ?_
  refine W_seq ?_
  refine W_region_lit ?_
  refine L_val (v := (.int .i64 0)) (w' := w65) rfl rfl rfl rfl ?_
  refine L_val (v := (.bool false)) (w' := w65) rfl rfl rfl (by kernel_rfl) ?_
  refine L_val (v := (.bool false)) (w' := w65) rfl rfl rfl rfl ?_
  refine L_guard rfl rfl rfl rfl rfl ?_
  refine L_val (v := (ptr p58 0)) (w' := w65) rfl rfl rfl rfl ?_
  refine L_guard rfl rfl rfl rfl rfl ?_
  refine L_val (v := (.bool false)) (w' := w65) rfl rfl rfl (by kernel_rfl) ?_
  refine L_val (v := (.bool false)) (w' := w65) rfl rfl rfl rfl ?_
  refine L_nil ?_
  refine W_cond_false (by show Value.bool _ = _; exact congrArg Value.bool rfl) ?_
  refine W_skip ?_
  refine W_seq ?_
  refine W_seq ?_
  refine W_region_lit ?_
  refine L_val (v := (.int .i64 1)) (w' := w65) rfl rfl rfl rfl ?_
  refine L_nil ?_
  refine W_block ?_
  refine W_loop (I := fun σ w_ m_ => ∃ (σ0 : Fr) (R_ : Hp) (k_ : Nat) (S_ : PS) (cP : Hp), σ = upd (upd (upd (upd (upd (upd (upd (upd (upd (upd (upd (upd (upd (upd (upd (upd (upd (upd (upd (upd (upd (upd (upd (upd (upd (upd (upd (upd (upd (upd (upd (upd (upd (upd (upd (upd (upd (upd (upd (upd (upd (upd (upd σ0 0 (.agg #[(.int .u8 (a : Int)), (.int .u8 (b : Int)), (.int .u8 (c : Int))])) 1 (.int .u16 (n : Int))) 2 (ptr b1 0)) 5 (.bool true)) 6 (.int .i64 (m : Int))) 7 (.int .i64 (wv : Int))) 8 (.int .i64 (hv : Int))) 9 (ptr p58 0)) 10 (.int .i64 0)) 11 (ptr b62 0)) 12 (.int .i64 ((k_ + 1 : Nat) : Int))) 14 (.bool true)) 15 (ptr b1 0)) 16 (.int .u8 (a : Int))) 17 (.int .u8 ((a % 20 : Nat) : Int))) 18 (.int .i64 ((a % 20 : Nat) : Int))) 19 (.int .i64 (m : Int))) 20 (ptr b1 1)) 21 (.int .u8 (b : Int))) 22 (.int .u8 ((b % 30 : Nat) : Int))) 23 (.int .i64 ((b % 30 : Nat) : Int))) 24 (.int .i64 (wv : Int))) 25 (.int .i64 (wv : Int))) 26 (.int .i64 ((wv + 1 : Nat) : Int))) 27 (ptr b1 2)) 28 (.int .u8 (c : Int))) 29 (.int .u8 ((c % 30 : Nat) : Int))) 30 (.int .i64 ((c % 30 : Nat) : Int))) 31 (.int .i64 (hv : Int))) 32 (.tuple #[(ptr p58 0), (.int .i64 0)])) 33 (.int .i64 (m : Int))) 34 (.int .i64 (wv : Int))) 35 (.int .i64 (hv : Int))) 36 (.tuple #[(ptr p58 0), (.int .i64 0)])) 37 (ptr p58 0)) 38 (.int .i64 0)) 39 (.agg #[(.int .i64 7), (.int .i64 9)])) 40 (.int .i64 0)) 41 (.bool false)) 42 (.bool false)) 43 (ptr p58 0)) 44 (.bool false)) 45 (.bool false) ∧ mks (σ0 0) = [] ∧ Step w R [] w_ R_ [cP, one b62 (.cells #[(.int .i64 7), (.int .i64 9)] 43 (0, 0))] ∧ Le R53 R_ ∧ Prof R_ p58 S_ cP ∧ k_ ≤ n % 2000 ∧ WInv m wv hv k_ S_ ∧ m_ = n % 2000 - k_) (m := n % 2000 - 0) ?_ ?_
  · skip
    exact ⟨_, _, 0, (⟨(m : Int), (wv : Int), (hv : Int), 1, [], [], 0⟩ : PS), c59, (upd_of (upd_of (upd_of (upd_of (upd_of (upd_of (upd_of (upd_of (upd_of (upd_of (upd_of (upd_of (upd_of (upd_of (upd_of (upd_of (upd_of (upd_of (upd_of (upd_of (upd_of (upd_of (upd_of (upd_of (upd_of (upd_of (upd_of (upd_of (upd_of (upd_of (upd_of (upd_of (upd_of (upd_of (upd_of (upd_of (upd_of (upd_of (upd_of (upd_of (upd_of (upd_of (upd_of rfl rfl) rfl) rfl) rfl) rfl) rfl) rfl) rfl) rfl) rfl) rfl) rfl) rfl) rfl) rfl) rfl) rfl) rfl) rfl) rfl) rfl) rfl) rfl) rfl) rfl) rfl) rfl) rfl) rfl) rfl) rfl) rfl) rfl) rfl) rfl) rfl) rfl) rfl) rfl) rfl) rfl) rfl) rfl), rfl, ((hst66.front 1 rfl rfl).keepN 2 rfl), Le.refl _, hprof61, (by omega), (WInv.start (by omega) (by omega) (by omega)), rfl⟩
  · skip
    rintro m79 σ_ w69 ⟨s74, R75, k_76, S_77, cP78, rfl, hmk67, hst68, hle70, hi71, hf72, hf73, rfl⟩
    refine W_seq ?_
    refine W_seq ?_
    refine W_region_lit ?_
    refine L_val (v := (.int .i64 ((k_76 + 1 : Nat) : Int))) (w' := w69) rfl rfl rfl rfl ?_
    refine L_val (v := (.int .u16 (n : Int))) (w' := w69) rfl rfl rfl rfl ?_
    refine L_val (v := (.int .u16 ((n % 2000 : Nat) : Int))) (w' := w69) rfl rfl rfl (x_remK rfl rfl rfl (by omega)) ?_
    refine L_val (v := (.int .i64 ((n % 2000 : Nat) : Int))) (w' := w69) rfl rfl rfl (x_conv16 rfl rfl (by omega)) ?_
    refine L_val (v := (.bool (decide (((k_76 + 1 : Nat) : Int) ≤ ((n % 2000 : Nat) : Int))))) (w' := w69) rfl rfl rfl (by kernel_rfl) ?_
    refine L_nil ?_
    rcases Bool.eq_false_or_eq_true (decide (((k_76 + 1 : Nat) : Int) ≤ ((n % 2000 : Nat) : Int))) with c80 | c80
    · skip
      have q81 := of_decide_eq_true c80
      refine W_cond_true (by show Value.bool _ = _; exact congrArg Value.bool c80) ?_
      refine W_skip ?_
      refine W_seq ?_
      refine W_block ?_
      refine W_seq ?_
      refine W_seq ?_
      have hsd := hf73.said (by omega) (by omega) (by omega) (by omega)
      have hnx := (hf73.step (by omega) (by omega) (by omega) (by omega)).1
      have htr := hnx.tier (by omega)
      have hz1wv : 0 ≤ (m : Int) * (wv : Int) := Int.mul_nonneg (by omega) (by omega)
      have hz2wv : (m : Int) * (wv : Int) ≤ 20 * 60 := Int.mul_le_mul (by omega) (by omega) (by omega) (by omega)
      have hz1hv : 0 ≤ (m : Int) * (hv : Int) := Int.mul_nonneg (by omega) (by omega)
      have hz2hv : (m : Int) * (hv : Int) ≤ 20 * 60 := Int.mul_le_mul (by omega) (by omega) (by omega) (by omega)
      refine W_region_lit ?_
      refine L_val (v := (ptr p58 0)) (w' := w69) rfl rfl rfl rfl ?_
      refine L_val (v := (.agg #[(.int .i64 7), (.int .i64 9)])) (w' := w69) rfl rfl rfl (x_load rfl rfl (run_loadVar_agg ti_43 (hst68.blk (i := 1) rfl) (l := [(.int .i64 7), (.int .i64 9)]) rfl rfl)) ?_
      have hst82 := hst68
      refine L_callS [cP78] [one b62 (.cells #[(.int .i64 7), (.int .i64 9)] 43 (0, 0))] hst82 rfl rfl rfl (x_call (vs := #[(ptr p58 0), (.agg #[(.int .i64 7), (.int .i64 9)])]) rfl rfl (by kernel_rfl) ent_23) (Back_spec (s := S_77) (7, 9)  (hst82.sats.take 1 rfl) hi71 (hT.mono (Le.trans hle10 (Le.trans hle56 hle70))) (by have h_ : (S_77).n = _ := hf73.n; omega)) (fun v83 w84 R85 L86 hp87 hle88 hst89 => ?_)
      obtain ⟨c90, hv91, rfl, hp92⟩ := hp87
      subst hv91
      have hprof93 : Prof R85 p58 (PS.back S_77 (7, 9)).1 c90 := hp92
      refine L_val (v := (.int .i64 ((k_76 + 1 : Nat) : Int))) (w' := w84) rfl rfl rfl rfl ?_
      refine L_val (v := (.int .i64 (m : Int))) (w' := w84) rfl rfl rfl rfl ?_
      refine L_val (v := (.int .i64 (wv : Int))) (w' := w84) rfl rfl rfl rfl ?_
      refine L_val (v := (.int .i64 ((m : Int) * (wv : Int)))) (w' := w84) rfl rfl rfl (x_mul rfl rfl rfl (by constructor <;> omega)) ?_
      refine L_val (v := (.bool (((k_76 + 1 : Nat) : Int) == ((m : Int) * (wv : Int))))) (w' := w84) rfl rfl rfl (by kernel_rfl) ?_
      refine L_val (v := (.bool (((k_76 + 1 : Nat) : Int) == ((m : Int) * (wv : Int))))) (w' := w84) rfl rfl rfl rfl ?_
      rcases Bool.eq_false_or_eq_true (((k_76 + 1 : Nat) : Int) == ((m : Int) * (wv : Int))) with c94 | c94
      · skip
        have q95 := eq_of_beq c94
        refine L_unwanted rfl rfl rfl rfl (by rw [c94]; rfl) rfl rfl ?_
        refine L_unwanted rfl rfl rfl rfl (by rw [c94]; rfl) rfl rfl ?_
        refine L_unwanted rfl rfl rfl rfl (by rw [c94]; rfl) rfl rfl ?_
        refine L_unwanted rfl rfl rfl rfl (by rw [c94]; rfl) rfl rfl ?_
        refine L_unwanted rfl rfl rfl rfl (by rw [c94]; rfl) rfl rfl ?_
        refine L_val (v := (.bool true)) (w' := w84) rfl rfl rfl (x_pick rfl rfl (by rw [c94]; rfl)) ?_
        refine L_val (v := (.bool (((PS.back S_77 (7, 9)).2) != true))) (w' := w84) rfl rfl rfl (by kernel_rfl) ?_
        refine L_nil ?_
        have c96 : (((PS.back S_77 (7, 9)).2) != true) = false := by rw [hsd, c94]; rfl
        refine W_cond_false (by show Value.bool _ = _; exact congrArg Value.bool c96) ?_
        refine W_skip ?_
        refine W_seq ?_
        refine W_region_lit ?_
        refine L_val (v := (.int .i64 0)) (w' := w84) rfl rfl rfl rfl ?_
        refine L_nil ?_
        refine W_seq ?_
        refine W_seq ?_
        refine W_region_lit ?_
        refine L_val (v := (.int .i64 ((k_76 + 1 : Nat) : Int))) (w' := w84) rfl rfl rfl rfl ?_
        refine L_val (v := (.int .i64 (m : Int))) (w' := w84) rfl rfl rfl rfl ?_
        refine L_val (v := (.int .i64 (wv : Int))) (w' := w84) rfl rfl rfl rfl ?_
        refine L_val (v := (.int .i64 ((m : Int) * (wv : Int)))) (w' := w84) rfl rfl rfl (x_mul rfl rfl rfl (by constructor <;> omega)) ?_
        refine L_val (v := (.bool (decide (((k_76 + 1 : Nat) : Int) ≥ (m : Int) * (wv : Int))))) (w' := w84) rfl rfl rfl (by kernel_rfl) ?_
        refine L_nil ?_
        rcases Bool.eq_false_or_eq_true (decide (((k_76 + 1 : Nat) : Int) ≥ (m : Int) * (wv : Int))) with c97 | c97
        · skip
          have q98 := of_decide_eq_true c97
          refine W_cond_true (by show Value.bool _ = _; exact congrArg Value.bool c97) ?_
          refine W_region_lit ?_
          refine L_val (v := (.int .i64 1)) (w' := w84) rfl rfl rfl rfl ?_
          refine L_nil ?_
          refine W_seq ?_
          refine W_seq ?_
          refine W_region_lit ?_
          refine L_val (v := (.int .i64 ((k_76 + 1 : Nat) : Int))) (w' := w84) rfl rfl rfl rfl ?_
          refine L_val (v := (.int .i64 (m : Int))) (w' := w84) rfl rfl rfl rfl ?_
          refine L_val (v := (.int .i64 (hv : Int))) (w' := w84) rfl rfl rfl rfl ?_
          refine L_val (v := (.int .i64 ((m : Int) * (hv : Int)))) (w' := w84) rfl rfl rfl (x_mul rfl rfl rfl (by constructor <;> omega)) ?_
          refine L_val (v := (.bool (decide (((k_76 + 1 : Nat) : Int) ≥ (m : Int) * (hv : Int))))) (w' := w84) rfl rfl rfl (by kernel_rfl) ?_
          refine L_nil ?_
          rcases Bool.eq_false_or_eq_true (decide (((k_76 + 1 : Nat) : Int) ≥ (m : Int) * (hv : Int))) with c99 | c99
          · skip
            have q100 := of_decide_eq_true c99
            refine W_cond_true (by show Value.bool _ = _; exact congrArg Value.bool c99) ?_
            refine W_region_lit ?_
            refine L_val (v := (.int .i64 2)) (w' := w84) rfl rfl rfl rfl ?_
            refine L_nil ?_
            refine W_seq ?_
            refine W_region_lit ?_
            refine L_val (v := (ptr p58 0)) (w' := w84) rfl rfl rfl rfl ?_
            refine L_val (v := (.agg #[(.int .i64 7), (.int .i64 9)])) (w' := w84) rfl rfl rfl (x_load rfl rfl (run_loadVar_agg ti_43 (hst89.blk (i := 1) rfl) (l := [(.int .i64 7), (.int .i64 9)]) rfl rfl)) ?_
            have hst101 := hst89
            refine L_callS [c90] [one b62 (.cells #[(.int .i64 7), (.int .i64 9)] 43 (0, 0))] hst101 rfl rfl rfl (x_call (vs := #[(ptr p58 0), (.agg #[(.int .i64 7), (.int .i64 9)])]) rfl rfl (by kernel_rfl) ent_18) (Tier_spec (s := (PS.back S_77 (7, 9)).1) (7, 9)  (hst101.sats.take 1 rfl) hprof93 (hT.mono (Le.trans hle10 (Le.trans hle56 (Le.trans hle70 hle88)))) (by have h_ : ((PS.back S_77 (7, 9)).1).n = _ := hnx.n; omega)) (fun v102 w103 R104 L105 hp106 hle107 hst108 => ?_)
            obtain ⟨c109, hv110, rfl, hp111⟩ := hp106
            subst hv110
            have hprof112 : Prof R104 p58 (PS.back S_77 (7, 9)).1 c109 := hp111
            refine L_val (v := (.int .i64 2)) (w' := w103) rfl rfl rfl rfl ?_
            refine L_val (v := (.bool ((PS.tier (PS.back S_77 (7, 9)).1 (7, 9)) != 2))) (w' := w103) rfl rfl rfl (by kernel_rfl) ?_
            refine L_nil ?_
            have c113 : ((PS.tier (PS.back S_77 (7, 9)).1 (7, 9)) != 2) = false := by rw [htr]; first | (rw [if_pos (by omega)]; rfl) | (rw [if_neg (by omega), if_pos (by omega)]; rfl) | (rw [if_neg (by omega), if_neg (by omega)]; rfl)
            have q114 : (PS.tier (PS.back S_77 (7, 9)).1 (7, 9)) = 2 := by simpa using c113
            refine W_cond_false (by show Value.bool _ = _; exact congrArg Value.bool c113) ?_
            refine W_skip ?_
            refine W_region_lit ?_
            refine L_val (v := (.int .i64 ((k_76 + 1 : Nat) : Int))) (w' := w103) rfl rfl rfl rfl ?_
            refine L_val (v := (.int .i64 (((k_76 + 1) + 1 : Nat) : Int))) (w' := w103) rfl rfl rfl (x_add_nat rfl rfl rfl (by omega)) ?_
            refine L_val (v := (.int .i64 (((k_76 + 1) + 1 : Nat) : Int))) (w' := w103) rfl rfl rfl rfl ?_
            refine L_nil ?_
            refine ⟨n % 2000 - (k_76 + 1), by first | omega | (simp only [List.length_append, List.length_cons, List.length_nil]; omega), ?_⟩
            exact ⟨_, _, (k_76 + 1), ((PS.back S_77 (7, 9)).1), c109, (upd_of (upd_of (upd_of (upd_of (upd_of (upd_of (upd_of (upd_of (upd_of (upd_of (upd_of (upd_of (upd_of (upd_of (upd_of (upd_of (upd_of (upd_of (upd_of (upd_of (upd_of (upd_of (upd_of (upd_of (upd_of (upd_of (upd_of (upd_of (upd_of (upd_of (upd_of (upd_of (upd_of (upd_of (upd_of (upd_of (upd_of (upd_of (upd_of (upd_of (upd_of (upd_of (upd_of rfl rfl) rfl) rfl) rfl) rfl) rfl) rfl) rfl) rfl) rfl) rfl) rfl) rfl) rfl) rfl) rfl) rfl) rfl) rfl) rfl) rfl) rfl) rfl) rfl) rfl) rfl) rfl) rfl) rfl) rfl) rfl) rfl) rfl) rfl) rfl) rfl) rfl) rfl) rfl) rfl) rfl) rfl) rfl), hmk67, ((hst108.front 1 rfl rfl).front 1 rfl rfl), (Le.trans hle70 (Le.trans hle88 hle107)), hprof112, (by omega), hnx, rfl⟩
          · skip
            have q115 := of_decide_eq_false c99
            refine W_cond_false (by show Value.bool _ = _; exact congrArg Value.bool c99) ?_
            refine W_skip ?_
            refine W_seq ?_
            refine W_region_lit ?_
            refine L_val (v := (ptr p58 0)) (w' := w84) rfl rfl rfl rfl ?_
            refine L_val (v := (.agg #[(.int .i64 7), (.int .i64 9)])) (w' := w84) rfl rfl rfl (x_load rfl rfl (run_loadVar_agg ti_43 (hst89.blk (i := 1) rfl) (l := [(.int .i64 7), (.int .i64 9)]) rfl rfl)) ?_
            have hst116 := hst89
            refine L_callS [c90] [one b62 (.cells #[(.int .i64 7), (.int .i64 9)] 43 (0, 0))] hst116 rfl rfl rfl (x_call (vs := #[(ptr p58 0), (.agg #[(.int .i64 7), (.int .i64 9)])]) rfl rfl (by kernel_rfl) ent_18) (Tier_spec (s := (PS.back S_77 (7, 9)).1) (7, 9)  (hst116.sats.take 1 rfl) hprof93 (hT.mono (Le.trans hle10 (Le.trans hle56 (Le.trans hle70 hle88)))) (by have h_ : ((PS.back S_77 (7, 9)).1).n = _ := hnx.n; omega)) (fun v117 w118 R119 L120 hp121 hle122 hst123 => ?_)
            obtain ⟨c124, hv125, rfl, hp126⟩ := hp121
            subst hv125
            have hprof127 : Prof R119 p58 (PS.back S_77 (7, 9)).1 c124 := hp126
            refine L_val (v := (.int .i64 1)) (w' := w118) rfl rfl rfl rfl ?_
            refine L_val (v := (.bool ((PS.tier (PS.back S_77 (7, 9)).1 (7, 9)) != 1))) (w' := w118) rfl rfl rfl (by kernel_rfl) ?_
            refine L_nil ?_
            have c128 : ((PS.tier (PS.back S_77 (7, 9)).1 (7, 9)) != 1) = false := by rw [htr]; first | (rw [if_pos (by omega)]; rfl) | (rw [if_neg (by omega), if_pos (by omega)]; rfl) | (rw [if_neg (by omega), if_neg (by omega)]; rfl)
            have q129 : (PS.tier (PS.back S_77 (7, 9)).1 (7, 9)) = 1 := by simpa using c128
            refine W_cond_false (by show Value.bool _ = _; exact congrArg Value.bool c128) ?_
            refine W_skip ?_
            refine W_region_lit ?_
            refine L_val (v := (.int .i64 ((k_76 + 1 : Nat) : Int))) (w' := w118) rfl rfl rfl rfl ?_
            refine L_val (v := (.int .i64 (((k_76 + 1) + 1 : Nat) : Int))) (w' := w118) rfl rfl rfl (x_add_nat rfl rfl rfl (by omega)) ?_
            refine L_val (v := (.int .i64 (((k_76 + 1) + 1 : Nat) : Int))) (w' := w118) rfl rfl rfl rfl ?_
            refine L_nil ?_
            refine ⟨n % 2000 - (k_76 + 1), by first | omega | (simp only [List.length_append, List.length_cons, List.length_nil]; omega), ?_⟩
            exact ⟨_, _, (k_76 + 1), ((PS.back S_77 (7, 9)).1), c124, (upd_of (upd_of (upd_of (upd_of (upd_of (upd_of (upd_of (upd_of (upd_of (upd_of (upd_of (upd_of (upd_of (upd_of (upd_of (upd_of (upd_of (upd_of (upd_of (upd_of (upd_of (upd_of (upd_of (upd_of (upd_of (upd_of (upd_of (upd_of (upd_of (upd_of (upd_of (upd_of (upd_of (upd_of (upd_of (upd_of (upd_of (upd_of (upd_of (upd_of (upd_of (upd_of (upd_of rfl rfl) rfl) rfl) rfl) rfl) rfl) rfl) rfl) rfl) rfl) rfl) rfl) rfl) rfl) rfl) rfl) rfl) rfl) rfl) rfl) rfl) rfl) rfl) rfl) rfl) rfl) rfl) rfl) rfl) rfl) rfl) rfl) rfl) rfl) rfl) rfl) rfl) rfl) rfl) rfl) rfl) rfl) rfl), hmk67, ((hst123.front 1 rfl rfl).front 1 rfl rfl), (Le.trans hle70 (Le.trans hle88 hle122)), hprof127, (by omega), hnx, rfl⟩
        · skip
          have q130 := of_decide_eq_false c97
          refine W_cond_false (by show Value.bool _ = _; exact congrArg Value.bool c97) ?_
          refine W_skip ?_
          refine W_seq ?_
          refine W_seq ?_
          refine W_region_lit ?_
          refine L_val (v := (.int .i64 ((k_76 + 1 : Nat) : Int))) (w' := w84) rfl rfl rfl rfl ?_
          refine L_val (v := (.int .i64 (m : Int))) (w' := w84) rfl rfl rfl rfl ?_
          refine L_val (v := (.int .i64 (hv : Int))) (w' := w84) rfl rfl rfl rfl ?_
          refine L_val (v := (.int .i64 ((m : Int) * (hv : Int)))) (w' := w84) rfl rfl rfl (x_mul rfl rfl rfl (by constructor <;> omega)) ?_
          refine L_val (v := (.bool (decide (((k_76 + 1 : Nat) : Int) ≥ (m : Int) * (hv : Int))))) (w' := w84) rfl rfl rfl (by kernel_rfl) ?_
          refine L_nil ?_
          rcases Bool.eq_false_or_eq_true (decide (((k_76 + 1 : Nat) : Int) ≥ (m : Int) * (hv : Int))) with c131 | c131
          · skip
            have q132 := of_decide_eq_true c131
            refine W_cond_true (by show Value.bool _ = _; exact congrArg Value.bool c131) ?_
            refine W_region_lit ?_
            refine L_val (v := (.int .i64 2)) (w' := w84) rfl rfl rfl rfl ?_
            refine L_nil ?_
            refine W_seq ?_
            refine W_region_lit ?_
            refine L_val (v := (ptr p58 0)) (w' := w84) rfl rfl rfl rfl ?_
            refine L_val (v := (.agg #[(.int .i64 7), (.int .i64 9)])) (w' := w84) rfl rfl rfl (x_load rfl rfl (run_loadVar_agg ti_43 (hst89.blk (i := 1) rfl) (l := [(.int .i64 7), (.int .i64 9)]) rfl rfl)) ?_
            have hst133 := hst89
            refine L_callS [c90] [one b62 (.cells #[(.int .i64 7), (.int .i64 9)] 43 (0, 0))] hst133 rfl rfl rfl (x_call (vs := #[(ptr p58 0), (.agg #[(.int .i64 7), (.int .i64 9)])]) rfl rfl (by kernel_rfl) ent_18) (Tier_spec (s := (PS.back S_77 (7, 9)).1) (7, 9)  (hst133.sats.take 1 rfl) hprof93 (hT.mono (Le.trans hle10 (Le.trans hle56 (Le.trans hle70 hle88)))) (by have h_ : ((PS.back S_77 (7, 9)).1).n = _ := hnx.n; omega)) (fun v134 w135 R136 L137 hp138 hle139 hst140 => ?_)
            obtain ⟨c141, hv142, rfl, hp143⟩ := hp138
            subst hv142
            have hprof144 : Prof R136 p58 (PS.back S_77 (7, 9)).1 c141 := hp143
            refine L_val (v := (.int .i64 2)) (w' := w135) rfl rfl rfl rfl ?_
            refine L_val (v := (.bool ((PS.tier (PS.back S_77 (7, 9)).1 (7, 9)) != 2))) (w' := w135) rfl rfl rfl (by kernel_rfl) ?_
            refine L_nil ?_
            have c145 : ((PS.tier (PS.back S_77 (7, 9)).1 (7, 9)) != 2) = false := by rw [htr]; first | (rw [if_pos (by omega)]; rfl) | (rw [if_neg (by omega), if_pos (by omega)]; rfl) | (rw [if_neg (by omega), if_neg (by omega)]; rfl)
            have q146 : (PS.tier (PS.back S_77 (7, 9)).1 (7, 9)) = 2 := by simpa using c145
            refine W_cond_false (by show Value.bool _ = _; exact congrArg Value.bool c145) ?_
            refine W_skip ?_
            refine W_region_lit ?_
            refine L_val (v := (.int .i64 ((k_76 + 1 : Nat) : Int))) (w' := w135) rfl rfl rfl rfl ?_
            refine L_val (v := (.int .i64 (((k_76 + 1) + 1 : Nat) : Int))) (w' := w135) rfl rfl rfl (x_add_nat rfl rfl rfl (by omega)) ?_
            refine L_val (v := (.int .i64 (((k_76 + 1) + 1 : Nat) : Int))) (w' := w135) rfl rfl rfl rfl ?_
            refine L_nil ?_
            refine ⟨n % 2000 - (k_76 + 1), by first | omega | (simp only [List.length_append, List.length_cons, List.length_nil]; omega), ?_⟩
            exact ⟨_, _, (k_76 + 1), ((PS.back S_77 (7, 9)).1), c141, (upd_of (upd_of (upd_of (upd_of (upd_of (upd_of (upd_of (upd_of (upd_of (upd_of (upd_of (upd_of (upd_of (upd_of (upd_of (upd_of (upd_of (upd_of (upd_of (upd_of (upd_of (upd_of (upd_of (upd_of (upd_of (upd_of (upd_of (upd_of (upd_of (upd_of (upd_of (upd_of (upd_of (upd_of (upd_of (upd_of (upd_of (upd_of (upd_of (upd_of (upd_of (upd_of (upd_of rfl rfl) rfl) rfl) rfl) rfl) rfl) rfl) rfl) rfl) rfl) rfl) rfl) rfl) rfl) rfl) rfl) rfl) rfl) rfl) rfl) rfl) rfl) rfl) rfl) rfl) rfl) rfl) rfl) rfl) rfl) rfl) rfl) rfl) rfl) rfl) rfl) rfl) rfl) rfl) rfl) rfl) rfl) rfl), hmk67, ((hst140.front 1 rfl rfl).front 1 rfl rfl), (Le.trans hle70 (Le.trans hle88 hle139)), hprof144, (by omega), hnx, rfl⟩
          · skip
            have q147 := of_decide_eq_false c131
            refine W_cond_false (by show Value.bool _ = _; exact congrArg Value.bool c131) ?_
            refine W_skip ?_
            refine W_seq ?_
            refine W_region_lit ?_
            refine L_val (v := (ptr p58 0)) (w' := w84) rfl rfl rfl rfl ?_
            refine L_val (v := (.agg #[(.int .i64 7), (.int .i64 9)])) (w' := w84) rfl rfl rfl (x_load rfl rfl (run_loadVar_agg ti_43 (hst89.blk (i := 1) rfl) (l := [(.int .i64 7), (.int .i64 9)]) rfl rfl)) ?_
            have hst148 := hst89
            refine L_callS [c90] [one b62 (.cells #[(.int .i64 7), (.int .i64 9)] 43 (0, 0))] hst148 rfl rfl rfl (x_call (vs := #[(ptr p58 0), (.agg #[(.int .i64 7), (.int .i64 9)])]) rfl rfl (by kernel_rfl) ent_18) (Tier_spec (s := (PS.back S_77 (7, 9)).1) (7, 9)  (hst148.sats.take 1 rfl) hprof93 (hT.mono (Le.trans hle10 (Le.trans hle56 (Le.trans hle70 hle88)))) (by have h_ : ((PS.back S_77 (7, 9)).1).n = _ := hnx.n; omega)) (fun v149 w150 R151 L152 hp153 hle154 hst155 => ?_)
            obtain ⟨c156, hv157, rfl, hp158⟩ := hp153
            subst hv157
            have hprof159 : Prof R151 p58 (PS.back S_77 (7, 9)).1 c156 := hp158
            refine L_val (v := (.int .i64 0)) (w' := w150) rfl rfl rfl rfl ?_
            refine L_val (v := (.bool ((PS.tier (PS.back S_77 (7, 9)).1 (7, 9)) != 0))) (w' := w150) rfl rfl rfl (by kernel_rfl) ?_
            refine L_nil ?_
            have c160 : ((PS.tier (PS.back S_77 (7, 9)).1 (7, 9)) != 0) = false := by rw [htr]; first | (rw [if_pos (by omega)]; rfl) | (rw [if_neg (by omega), if_pos (by omega)]; rfl) | (rw [if_neg (by omega), if_neg (by omega)]; rfl)
            have q161 : (PS.tier (PS.back S_77 (7, 9)).1 (7, 9)) = 0 := by simpa using c160
            refine W_cond_false (by show Value.bool _ = _; exact congrArg Value.bool c160) ?_
            refine W_skip ?_
            refine W_region_lit ?_
            refine L_val (v := (.int .i64 ((k_76 + 1 : Nat) : Int))) (w' := w150) rfl rfl rfl rfl ?_
            refine L_val (v := (.int .i64 (((k_76 + 1) + 1 : Nat) : Int))) (w' := w150) rfl rfl rfl (x_add_nat rfl rfl rfl (by omega)) ?_
            refine L_val (v := (.int .i64 (((k_76 + 1) + 1 : Nat) : Int))) (w' := w150) rfl rfl rfl rfl ?_
            refine L_nil ?_
            refine ⟨n % 2000 - (k_76 + 1), by first | omega | (simp only [List.length_append, List.length_cons, List.length_nil]; omega), ?_⟩
            exact ⟨_, _, (k_76 + 1), ((PS.back S_77 (7, 9)).1), c156, (upd_of (upd_of (upd_of (upd_of (upd_of (upd_of (upd_of (upd_of (upd_of (upd_of (upd_of (upd_of (upd_of (upd_of (upd_of (upd_of (upd_of (upd_of (upd_of (upd_of (upd_of (upd_of (upd_of (upd_of (upd_of (upd_of (upd_of (upd_of (upd_of (upd_of (upd_of (upd_of (upd_of (upd_of (upd_of (upd_of (upd_of (upd_of (upd_of (upd_of (upd_of (upd_of (upd_of rfl rfl) rfl) rfl) rfl) rfl) rfl) rfl) rfl) rfl) rfl) rfl) rfl) rfl) rfl) rfl) rfl) rfl) rfl) rfl) rfl) rfl) rfl) rfl) rfl) rfl) rfl) rfl) rfl) rfl) rfl) rfl) rfl) rfl) rfl) rfl) rfl) rfl) rfl) rfl) rfl) rfl) rfl) rfl), hmk67, ((hst155.front 1 rfl rfl).front 1 rfl rfl), (Le.trans hle70 (Le.trans hle88 hle154)), hprof159, (by omega), hnx, rfl⟩
      · skip
        have q162 := ne_of_beq_false c94
        refine L_guard rfl rfl rfl rfl c94 ?_
        refine L_val (v := (.int .i64 ((k_76 + 1 : Nat) : Int))) (w' := w84) rfl rfl rfl rfl ?_
        refine L_guard rfl rfl rfl rfl c94 ?_
        refine L_val (v := (.int .i64 (m : Int))) (w' := w84) rfl rfl rfl rfl ?_
        refine L_guard rfl rfl rfl rfl c94 ?_
        refine L_val (v := (.int .i64 (hv : Int))) (w' := w84) rfl rfl rfl rfl ?_
        refine L_guard rfl rfl rfl rfl c94 ?_
        refine L_val (v := (.int .i64 ((m : Int) * (hv : Int)))) (w' := w84) rfl rfl rfl (x_mul rfl rfl rfl (by constructor <;> omega)) ?_
        refine L_guard rfl rfl rfl rfl c94 ?_
        refine L_val (v := (.bool (((k_76 + 1 : Nat) : Int) == ((m : Int) * (hv : Int))))) (w' := w84) rfl rfl rfl (by kernel_rfl) ?_
        refine L_val (v := (.bool (((k_76 + 1 : Nat) : Int) == ((m : Int) * (hv : Int))))) (w' := w84) rfl rfl rfl (x_pick rfl rfl (by rw [c94]; rfl)) ?_
        refine L_val (v := (.bool (((PS.back S_77 (7, 9)).2) != (((k_76 + 1 : Nat) : Int) == ((m : Int) * (hv : Int)))))) (w' := w84) rfl rfl rfl (by kernel_rfl) ?_
        refine L_nil ?_
        have c163 : (((PS.back S_77 (7, 9)).2) != (((k_76 + 1 : Nat) : Int) == ((m : Int) * (hv : Int)))) = false := by rw [hsd, c94, Bool.false_or]; exact bne_self_eq_false _
        refine W_cond_false (by show Value.bool _ = _; exact congrArg Value.bool c163) ?_
        refine W_skip ?_
        refine W_seq ?_
        refine W_region_lit ?_
        refine L_val (v := (.int .i64 0)) (w' := w84) rfl rfl rfl rfl ?_
        refine L_nil ?_
        refine W_seq ?_
        refine W_seq ?_
        refine W_region_lit ?_
        refine L_val (v := (.int .i64 ((k_76 + 1 : Nat) : Int))) (w' := w84) rfl rfl rfl rfl ?_
        refine L_val (v := (.int .i64 (m : Int))) (w' := w84) rfl rfl rfl rfl ?_
        refine L_val (v := (.int .i64 (wv : Int))) (w' := w84) rfl rfl rfl rfl ?_
        refine L_val (v := (.int .i64 ((m : Int) * (wv : Int)))) (w' := w84) rfl rfl rfl (x_mul rfl rfl rfl (by constructor <;> omega)) ?_
        refine L_val (v := (.bool (decide (((k_76 + 1 : Nat) : Int) ≥ (m : Int) * (wv : Int))))) (w' := w84) rfl rfl rfl (by kernel_rfl) ?_
        refine L_nil ?_
        rcases Bool.eq_false_or_eq_true (decide (((k_76 + 1 : Nat) : Int) ≥ (m : Int) * (wv : Int))) with c164 | c164
        · skip
          have q165 := of_decide_eq_true c164
          refine W_cond_true (by show Value.bool _ = _; exact congrArg Value.bool c164) ?_
          refine W_region_lit ?_
          refine L_val (v := (.int .i64 1)) (w' := w84) rfl rfl rfl rfl ?_
          refine L_nil ?_
          refine W_seq ?_
          refine W_seq ?_
          refine W_region_lit ?_
          refine L_val (v := (.int .i64 ((k_76 + 1 : Nat) : Int))) (w' := w84) rfl rfl rfl rfl ?_
          refine L_val (v := (.int .i64 (m : Int))) (w' := w84) rfl rfl rfl rfl ?_
          refine L_val (v := (.int .i64 (hv : Int))) (w' := w84) rfl rfl rfl rfl ?_
          refine L_val (v := (.int .i64 ((m : Int) * (hv : Int)))) (w' := w84) rfl rfl rfl (x_mul rfl rfl rfl (by constructor <;> omega)) ?_
          refine L_val (v := (.bool (decide (((k_76 + 1 : Nat) : Int) ≥ (m : Int) * (hv : Int))))) (w' := w84) rfl rfl rfl (by kernel_rfl) ?_
          refine L_nil ?_
          rcases Bool.eq_false_or_eq_true (decide (((k_76 + 1 : Nat) : Int) ≥ (m : Int) * (hv : Int))) with c166 | c166
          · skip
            have q167 := of_decide_eq_true c166
            refine W_cond_true (by show Value.bool _ = _; exact congrArg Value.bool c166) ?_
            refine W_region_lit ?_
            refine L_val (v := (.int .i64 2)) (w' := w84) rfl rfl rfl rfl ?_
            refine L_nil ?_
            refine W_seq ?_
            refine W_region_lit ?_
            refine L_val (v := (ptr p58 0)) (w' := w84) rfl rfl rfl rfl ?_
            refine L_val (v := (.agg #[(.int .i64 7), (.int .i64 9)])) (w' := w84) rfl rfl rfl (x_load rfl rfl (run_loadVar_agg ti_43 (hst89.blk (i := 1) rfl) (l := [(.int .i64 7), (.int .i64 9)]) rfl rfl)) ?_
            have hst168 := hst89
            refine L_callS [c90] [one b62 (.cells #[(.int .i64 7), (.int .i64 9)] 43 (0, 0))] hst168 rfl rfl rfl (x_call (vs := #[(ptr p58 0), (.agg #[(.int .i64 7), (.int .i64 9)])]) rfl rfl (by kernel_rfl) ent_18) (Tier_spec (s := (PS.back S_77 (7, 9)).1) (7, 9)  (hst168.sats.take 1 rfl) hprof93 (hT.mono (Le.trans hle10 (Le.trans hle56 (Le.trans hle70 hle88)))) (by have h_ : ((PS.back S_77 (7, 9)).1).n = _ := hnx.n; omega)) (fun v169 w170 R171 L172 hp173 hle174 hst175 => ?_)
            obtain ⟨c176, hv177, rfl, hp178⟩ := hp173
            subst hv177
            have hprof179 : Prof R171 p58 (PS.back S_77 (7, 9)).1 c176 := hp178
            refine L_val (v := (.int .i64 2)) (w' := w170) rfl rfl rfl rfl ?_
            refine L_val (v := (.bool ((PS.tier (PS.back S_77 (7, 9)).1 (7, 9)) != 2))) (w' := w170) rfl rfl rfl (by kernel_rfl) ?_
            refine L_nil ?_
            have c180 : ((PS.tier (PS.back S_77 (7, 9)).1 (7, 9)) != 2) = false := by rw [htr]; first | (rw [if_pos (by omega)]; rfl) | (rw [if_neg (by omega), if_pos (by omega)]; rfl) | (rw [if_neg (by omega), if_neg (by omega)]; rfl)
            have q181 : (PS.tier (PS.back S_77 (7, 9)).1 (7, 9)) = 2 := by simpa using c180
            refine W_cond_false (by show Value.bool _ = _; exact congrArg Value.bool c180) ?_
            refine W_skip ?_
            refine W_region_lit ?_
            refine L_val (v := (.int .i64 ((k_76 + 1 : Nat) : Int))) (w' := w170) rfl rfl rfl rfl ?_
            refine L_val (v := (.int .i64 (((k_76 + 1) + 1 : Nat) : Int))) (w' := w170) rfl rfl rfl (x_add_nat rfl rfl rfl (by omega)) ?_
            refine L_val (v := (.int .i64 (((k_76 + 1) + 1 : Nat) : Int))) (w' := w170) rfl rfl rfl rfl ?_
            refine L_nil ?_
            refine ⟨n % 2000 - (k_76 + 1), by first | omega | (simp only [List.length_append, List.length_cons, List.length_nil]; omega), ?_⟩
            exact ⟨_, _, (k_76 + 1), ((PS.back S_77 (7, 9)).1), c176, (upd_of (upd_of (upd_of (upd_of (upd_of (upd_of (upd_of (upd_of (upd_of (upd_of (upd_of (upd_of (upd_of (upd_of (upd_of (upd_of (upd_of (upd_of (upd_of (upd_of (upd_of (upd_of (upd_of (upd_of (upd_of (upd_of (upd_of (upd_of (upd_of (upd_of (upd_of (upd_of (upd_of (upd_of (upd_of (upd_of (upd_of (upd_of (upd_of (upd_of (upd_of (upd_of (upd_of rfl rfl) rfl) rfl) rfl) rfl) rfl) rfl) rfl) rfl) rfl) rfl) rfl) rfl) rfl) rfl) rfl) rfl) rfl) rfl) rfl) rfl) rfl) rfl) rfl) rfl) rfl) rfl) rfl) rfl) rfl) rfl) rfl) rfl) rfl) rfl) rfl) rfl) rfl) rfl) rfl) rfl) rfl) rfl), hmk67, ((hst175.front 1 rfl rfl).front 1 rfl rfl), (Le.trans hle70 (Le.trans hle88 hle174)), hprof179, (by omega), hnx, rfl⟩
          · skip
            have q182 := of_decide_eq_false c166
            refine W_cond_false (by show Value.bool _ = _; exact congrArg Value.bool c166) ?_
            refine W_skip ?_
            refine W_seq ?_
            refine W_region_lit ?_
            refine L_val (v := (ptr p58 0)) (w' := w84) rfl rfl rfl rfl ?_
            refine L_val (v := (.agg #[(.int .i64 7), (.int .i64 9)])) (w' := w84) rfl rfl rfl (x_load rfl rfl (run_loadVar_agg ti_43 (hst89.blk (i := 1) rfl) (l := [(.int .i64 7), (.int .i64 9)]) rfl rfl)) ?_
            have hst183 := hst89
            refine L_callS [c90] [one b62 (.cells #[(.int .i64 7), (.int .i64 9)] 43 (0, 0))] hst183 rfl rfl rfl (x_call (vs := #[(ptr p58 0), (.agg #[(.int .i64 7), (.int .i64 9)])]) rfl rfl (by kernel_rfl) ent_18) (Tier_spec (s := (PS.back S_77 (7, 9)).1) (7, 9)  (hst183.sats.take 1 rfl) hprof93 (hT.mono (Le.trans hle10 (Le.trans hle56 (Le.trans hle70 hle88)))) (by have h_ : ((PS.back S_77 (7, 9)).1).n = _ := hnx.n; omega)) (fun v184 w185 R186 L187 hp188 hle189 hst190 => ?_)
            obtain ⟨c191, hv192, rfl, hp193⟩ := hp188
            subst hv192
            have hprof194 : Prof R186 p58 (PS.back S_77 (7, 9)).1 c191 := hp193
            refine L_val (v := (.int .i64 1)) (w' := w185) rfl rfl rfl rfl ?_
            refine L_val (v := (.bool ((PS.tier (PS.back S_77 (7, 9)).1 (7, 9)) != 1))) (w' := w185) rfl rfl rfl (by kernel_rfl) ?_
            refine L_nil ?_
            have c195 : ((PS.tier (PS.back S_77 (7, 9)).1 (7, 9)) != 1) = false := by rw [htr]; first | (rw [if_pos (by omega)]; rfl) | (rw [if_neg (by omega), if_pos (by omega)]; rfl) | (rw [if_neg (by omega), if_neg (by omega)]; rfl)
            have q196 : (PS.tier (PS.back S_77 (7, 9)).1 (7, 9)) = 1 := by simpa using c195
            refine W_cond_false (by show Value.bool _ = _; exact congrArg Value.bool c195) ?_
            refine W_skip ?_
            refine W_region_lit ?_
            refine L_val (v := (.int .i64 ((k_76 + 1 : Nat) : Int))) (w' := w185) rfl rfl rfl rfl ?_
            refine L_val (v := (.int .i64 (((k_76 + 1) + 1 : Nat) : Int))) (w' := w185) rfl rfl rfl (x_add_nat rfl rfl rfl (by omega)) ?_
            refine L_val (v := (.int .i64 (((k_76 + 1) + 1 : Nat) : Int))) (w' := w185) rfl rfl rfl rfl ?_
            refine L_nil ?_
            refine ⟨n % 2000 - (k_76 + 1), by first | omega | (simp only [List.length_append, List.length_cons, List.length_nil]; omega), ?_⟩
            exact ⟨_, _, (k_76 + 1), ((PS.back S_77 (7, 9)).1), c191, (upd_of (upd_of (upd_of (upd_of (upd_of (upd_of (upd_of (upd_of (upd_of (upd_of (upd_of (upd_of (upd_of (upd_of (upd_of (upd_of (upd_of (upd_of (upd_of (upd_of (upd_of (upd_of (upd_of (upd_of (upd_of (upd_of (upd_of (upd_of (upd_of (upd_of (upd_of (upd_of (upd_of (upd_of (upd_of (upd_of (upd_of (upd_of (upd_of (upd_of (upd_of (upd_of (upd_of rfl rfl) rfl) rfl) rfl) rfl) rfl) rfl) rfl) rfl) rfl) rfl) rfl) rfl) rfl) rfl) rfl) rfl) rfl) rfl) rfl) rfl) rfl) rfl) rfl) rfl) rfl) rfl) rfl) rfl) rfl) rfl) rfl) rfl) rfl) rfl) rfl) rfl) rfl) rfl) rfl) rfl) rfl) rfl), hmk67, ((hst190.front 1 rfl rfl).front 1 rfl rfl), (Le.trans hle70 (Le.trans hle88 hle189)), hprof194, (by omega), hnx, rfl⟩
        · skip
          have q197 := of_decide_eq_false c164
          refine W_cond_false (by show Value.bool _ = _; exact congrArg Value.bool c164) ?_
          refine W_skip ?_
          refine W_seq ?_
          refine W_seq ?_
          refine W_region_lit ?_
          refine L_val (v := (.int .i64 ((k_76 + 1 : Nat) : Int))) (w' := w84) rfl rfl rfl rfl ?_
          refine L_val (v := (.int .i64 (m : Int))) (w' := w84) rfl rfl rfl rfl ?_
          refine L_val (v := (.int .i64 (hv : Int))) (w' := w84) rfl rfl rfl rfl ?_
          refine L_val (v := (.int .i64 ((m : Int) * (hv : Int)))) (w' := w84) rfl rfl rfl (x_mul rfl rfl rfl (by constructor <;> omega)) ?_
          refine L_val (v := (.bool (decide (((k_76 + 1 : Nat) : Int) ≥ (m : Int) * (hv : Int))))) (w' := w84) rfl rfl rfl (by kernel_rfl) ?_
          refine L_nil ?_
          rcases Bool.eq_false_or_eq_true (decide (((k_76 + 1 : Nat) : Int) ≥ (m : Int) * (hv : Int))) with c198 | c198
          · skip
            have q199 := of_decide_eq_true c198
            refine W_cond_true (by show Value.bool _ = _; exact congrArg Value.bool c198) ?_
            refine W_region_lit ?_
            refine L_val (v := (.int .i64 2)) (w' := w84) rfl rfl rfl rfl ?_
            refine L_nil ?_
            refine W_seq ?_
            refine W_region_lit ?_
            refine L_val (v := (ptr p58 0)) (w' := w84) rfl rfl rfl rfl ?_
            refine L_val (v := (.agg #[(.int .i64 7), (.int .i64 9)])) (w' := w84) rfl rfl rfl (x_load rfl rfl (run_loadVar_agg ti_43 (hst89.blk (i := 1) rfl) (l := [(.int .i64 7), (.int .i64 9)]) rfl rfl)) ?_
            have hst200 := hst89
            refine L_callS [c90] [one b62 (.cells #[(.int .i64 7), (.int .i64 9)] 43 (0, 0))] hst200 rfl rfl rfl (x_call (vs := #[(ptr p58 0), (.agg #[(.int .i64 7), (.int .i64 9)])]) rfl rfl (by kernel_rfl) ent_18) (Tier_spec (s := (PS.back S_77 (7, 9)).1) (7, 9)  (hst200.sats.take 1 rfl) hprof93 (hT.mono (Le.trans hle10 (Le.trans hle56 (Le.trans hle70 hle88)))) (by have h_ : ((PS.back S_77 (7, 9)).1).n = _ := hnx.n; omega)) (fun v201 w202 R203 L204 hp205 hle206 hst207 => ?_)
            obtain ⟨c208, hv209, rfl, hp210⟩ := hp205
            subst hv209
            have hprof211 : Prof R203 p58 (PS.back S_77 (7, 9)).1 c208 := hp210
            refine L_val (v := (.int .i64 2)) (w' := w202) rfl rfl rfl rfl ?_
            refine L_val (v := (.bool ((PS.tier (PS.back S_77 (7, 9)).1 (7, 9)) != 2))) (w' := w202) rfl rfl rfl (by kernel_rfl) ?_
            refine L_nil ?_
            have c212 : ((PS.tier (PS.back S_77 (7, 9)).1 (7, 9)) != 2) = false := by rw [htr]; first | (rw [if_pos (by omega)]; rfl) | (rw [if_neg (by omega), if_pos (by omega)]; rfl) | (rw [if_neg (by omega), if_neg (by omega)]; rfl)
            have q213 : (PS.tier (PS.back S_77 (7, 9)).1 (7, 9)) = 2 := by simpa using c212
            refine W_cond_false (by show Value.bool _ = _; exact congrArg Value.bool c212) ?_
            refine W_skip ?_
            refine W_region_lit ?_
            refine L_val (v := (.int .i64 ((k_76 + 1 : Nat) : Int))) (w' := w202) rfl rfl rfl rfl ?_
            refine L_val (v := (.int .i64 (((k_76 + 1) + 1 : Nat) : Int))) (w' := w202) rfl rfl rfl (x_add_nat rfl rfl rfl (by omega)) ?_
            refine L_val (v := (.int .i64 (((k_76 + 1) + 1 : Nat) : Int))) (w' := w202) rfl rfl rfl rfl ?_
            refine L_nil ?_
            refine ⟨n % 2000 - (k_76 + 1), by first | omega | (simp only [List.length_append, List.length_cons, List.length_nil]; omega), ?_⟩
            exact ⟨_, _, (k_76 + 1), ((PS.back S_77 (7, 9)).1), c208, (upd_of (upd_of (upd_of (upd_of (upd_of (upd_of (upd_of (upd_of (upd_of (upd_of (upd_of (upd_of (upd_of (upd_of (upd_of (upd_of (upd_of (upd_of (upd_of (upd_of (upd_of (upd_of (upd_of (upd_of (upd_of (upd_of (upd_of (upd_of (upd_of (upd_of (upd_of (upd_of (upd_of (upd_of (upd_of (upd_of (upd_of (upd_of (upd_of (upd_of (upd_of (upd_of (upd_of rfl rfl) rfl) rfl) rfl) rfl) rfl) rfl) rfl) rfl) rfl) rfl) rfl) rfl) rfl) rfl) rfl) rfl) rfl) rfl) rfl) rfl) rfl) rfl) rfl) rfl) rfl) rfl) rfl) rfl) rfl) rfl) rfl) rfl) rfl) rfl) rfl) rfl) rfl) rfl) rfl) rfl) rfl) rfl), hmk67, ((hst207.front 1 rfl rfl).front 1 rfl rfl), (Le.trans hle70 (Le.trans hle88 hle206)), hprof211, (by omega), hnx, rfl⟩
          · skip
            have q214 := of_decide_eq_false c198
            refine W_cond_false (by show Value.bool _ = _; exact congrArg Value.bool c198) ?_
            refine W_skip ?_
            refine W_seq ?_
            refine W_region_lit ?_
            refine L_val (v := (ptr p58 0)) (w' := w84) rfl rfl rfl rfl ?_
            refine L_val (v := (.agg #[(.int .i64 7), (.int .i64 9)])) (w' := w84) rfl rfl rfl (x_load rfl rfl (run_loadVar_agg ti_43 (hst89.blk (i := 1) rfl) (l := [(.int .i64 7), (.int .i64 9)]) rfl rfl)) ?_
            have hst215 := hst89
            refine L_callS [c90] [one b62 (.cells #[(.int .i64 7), (.int .i64 9)] 43 (0, 0))] hst215 rfl rfl rfl (x_call (vs := #[(ptr p58 0), (.agg #[(.int .i64 7), (.int .i64 9)])]) rfl rfl (by kernel_rfl) ent_18) (Tier_spec (s := (PS.back S_77 (7, 9)).1) (7, 9)  (hst215.sats.take 1 rfl) hprof93 (hT.mono (Le.trans hle10 (Le.trans hle56 (Le.trans hle70 hle88)))) (by have h_ : ((PS.back S_77 (7, 9)).1).n = _ := hnx.n; omega)) (fun v216 w217 R218 L219 hp220 hle221 hst222 => ?_)
            obtain ⟨c223, hv224, rfl, hp225⟩ := hp220
            subst hv224
            have hprof226 : Prof R218 p58 (PS.back S_77 (7, 9)).1 c223 := hp225
            refine L_val (v := (.int .i64 0)) (w' := w217) rfl rfl rfl rfl ?_
            refine L_val (v := (.bool ((PS.tier (PS.back S_77 (7, 9)).1 (7, 9)) != 0))) (w' := w217) rfl rfl rfl (by kernel_rfl) ?_
            refine L_nil ?_
            have c227 : ((PS.tier (PS.back S_77 (7, 9)).1 (7, 9)) != 0) = false := by rw [htr]; first | (rw [if_pos (by omega)]; rfl) | (rw [if_neg (by omega), if_pos (by omega)]; rfl) | (rw [if_neg (by omega), if_neg (by omega)]; rfl)
            have q228 : (PS.tier (PS.back S_77 (7, 9)).1 (7, 9)) = 0 := by simpa using c227
            refine W_cond_false (by show Value.bool _ = _; exact congrArg Value.bool c227) ?_
            refine W_skip ?_
            refine W_region_lit ?_
            refine L_val (v := (.int .i64 ((k_76 + 1 : Nat) : Int))) (w' := w217) rfl rfl rfl rfl ?_
            refine L_val (v := (.int .i64 (((k_76 + 1) + 1 : Nat) : Int))) (w' := w217) rfl rfl rfl (x_add_nat rfl rfl rfl (by omega)) ?_
            refine L_val (v := (.int .i64 (((k_76 + 1) + 1 : Nat) : Int))) (w' := w217) rfl rfl rfl rfl ?_
            refine L_nil ?_
            refine ⟨n % 2000 - (k_76 + 1), by first | omega | (simp only [List.length_append, List.length_cons, List.length_nil]; omega), ?_⟩
            exact ⟨_, _, (k_76 + 1), ((PS.back S_77 (7, 9)).1), c223, (upd_of (upd_of (upd_of (upd_of (upd_of (upd_of (upd_of (upd_of (upd_of (upd_of (upd_of (upd_of (upd_of (upd_of (upd_of (upd_of (upd_of (upd_of (upd_of (upd_of (upd_of (upd_of (upd_of (upd_of (upd_of (upd_of (upd_of (upd_of (upd_of (upd_of (upd_of (upd_of (upd_of (upd_of (upd_of (upd_of (upd_of (upd_of (upd_of (upd_of (upd_of (upd_of (upd_of rfl rfl) rfl) rfl) rfl) rfl) rfl) rfl) rfl) rfl) rfl) rfl) rfl) rfl) rfl) rfl) rfl) rfl) rfl) rfl) rfl) rfl) rfl) rfl) rfl) rfl) rfl) rfl) rfl) rfl) rfl) rfl) rfl) rfl) rfl) rfl) rfl) rfl) rfl) rfl) rfl) rfl) rfl) rfl), hmk67, ((hst222.front 1 rfl rfl).front 1 rfl rfl), (Le.trans hle70 (Le.trans hle88 hle221)), hprof226, (by omega), hnx, rfl⟩
    · skip
      have q229 := of_decide_eq_false c80
      refine W_cond_false (by show Value.bool _ = _; exact congrArg Value.bool c80) ?_
      refine W_exit ?_
      refine W_seq ?_
      refine W_region_lit ?_
      refine L_val (v := (.bool true)) (w' := w69) rfl rfl rfl rfl ?_
      refine L_val (v := (.bool true)) (w' := w69) rfl rfl rfl rfl ?_
      refine L_nil ?_
      refine W_ret ?_
      refine ⟨_, _, res_run (rs := [.tmp 4]) (vs := [(.bool true)]) Tryd.results6 (.cons (.tmp rfl) .nil) hmk67, ?_⟩
      exact ⟨_, _, [], rfl, hst68.keepN 0 rfl, rfl, rfl⟩

end Go.Fx.YtdkjoljcffkpkaaDoor
