/-
  Chapter 14: ProfileApart, printed by gena.py
-/
import Derived.Test.YtdkjoljcffkpkaaDoorPrJ
import Derived.Test.YtdkjoljcffkpkaaDoorPrG
set_option linter.unusedSimpArgs false
set_option linter.unusedVariables false
namespace Go.Fx.YtdkjoljcffkpkaaDoor
open Go Go.Fx Go.Proofs
set_option maxRecDepth 20000

theorem ent_11 : Ent Tryd.prog 11 := fun _ _ => by kernel_rfl
theorem ent_12 : Ent Tryd.prog 12 := fun _ _ => by kernel_rfl
theorem mt_47 : Tryd.prog.underlying 47 = some (.map 43 3) := by kernel_rfl
theorem sl_24 : SL Tryd.prog 24 32 := Tryd.underlying24
theorem ti_23 : TI Tryd.prog 23 true 4 32 (.agg #[(.int .i64 0), (.int .i64 0), (.int .i64 0), (.int .i64 0)]) := ⟨by kernel_rfl, by kernel_rfl⟩

set_option maxHeartbeats 4000000 in
theorem Apart_spec {w : World} {R : Hp} {a b c d : Int} {v : Value} {xs : List Act} (hs : Sats w R []) (hT : Tab R) (ha : I64 a) (hb : I64 b) (hc : I64 c) (hd : I64 d) (hv : RdS tyAct R v xs) (hax : ∀ x ∈ xs, x.Ok) :
    Calls Tryd.prog 5 #[.agg #[int a, int b, int c, int d], v] w (Comes' w R [] fun v' R' L' => v' = .bool true ∧ L' = []) := by
  have hst := Step.refl hs
  refine calls_of_W (n := 111) Tryd.func5 rfl Tryd.ntmps5 (Nat.le_of_ble_eq_true rfl) ?_
  refine W_seq ?_
  refine W_region_lit ?_
  refine L_new hst (v := fun b => ptr b 0) (ob := .cells #[(.int .i64 a), (.int .i64 b), (.int .i64 c), (.int .i64 d)] 23 (0, 0)) rfl rfl rfl (by kernel_rfl) (fun b1 w2 hst3 => ?_)
  refine L_val (v := (.bool false)) (w' := w2) rfl rfl rfl rfl ?_
  refine L_nil ?_
  refine W_seq ?_
  refine W_region_lit ?_
  have hst4 := hst3
  refine L_callS [] [one b1 (.cells #[(.int .i64 a), (.int .i64 b), (.int .i64 c), (.int .i64 d)] 23 (0, 0))] hst4 rfl rfl rfl (x_call (vs := #[]) rfl rfl (by kernel_rfl) ent_10) (sanity_spec (hst4.sats.take 0 rfl) (hT.mono (Le.refl _))) (fun v5 w6 R7 L8 hp9 hle10 hst11 => ?_)
  obtain ⟨rfl, rfl⟩ := hp9
  refine L_val (v := (.bool true)) (w' := w6) rfl rfl rfl rfl ?_
  refine L_nil ?_
  refine W_seq ?_
  refine W_region_lit ?_
  refine L_val (v := (.agg #[(.int .i64 a), (.int .i64 b), (.int .i64 c), (.int .i64 d)])) (w' := w6) rfl rfl rfl (x_load rfl rfl (run_loadVar_agg ti_23 (hst11.blk (i := 0) rfl) (l := [(.int .i64 a), (.int .i64 b), (.int .i64 c), (.int .i64 d)]) rfl rfl)) ?_
  have hst12 := hst11
  refine L_callS [] [one b1 (.cells #[(.int .i64 a), (.int .i64 b), (.int .i64 c), (.int .i64 d)] 23 (0, 0))] hst12 rfl rfl rfl (x_call (vs := #[(.agg #[(.int .i64 a), (.int .i64 b), (.int .i64 c), (.int .i64 d)])]) rfl rfl (by kernel_rfl) ent_11) (made_spec (a := a) (b := b) (c := c) (d := d) (hst12.sats.take 0 rfl) ha hb hc hd) (fun v13 w14 R15 L16 hp17 hle18 hst19 => ?_)
  obtain ⟨p20, c21, m23, rfl, rfl, hp22⟩ := hp17
  have hprof24 : Prof R15 p20 (madeP a b c d) c21 := hp22
  refine L_val (v := (.tuple #[(ptr p20 0), (ptr m23 0)])) (w' := w14) rfl rfl rfl rfl ?_
  refine L_val (v := (ptr p20 0)) (w' := w14) rfl rfl rfl (by kernel_rfl) ?_
  refine L_val (v := (ptr m23 0)) (w' := w14) rfl rfl rfl (by kernel_rfl) ?_
  refine L_val (v := (ptr p20 0)) (w' := w14) rfl rfl rfl rfl ?_
  refine L_val (v := (ptr m23 0)) (w' := w14) rfl rfl rfl rfl ?_
  refine L_nil ?_
  refine W_seq ?_
  refine W_region_lit ?_
  refine L_val (v := (.agg #[(.int .i64 a), (.int .i64 b), (.int .i64 c), (.int .i64 d)])) (w' := w14) rfl rfl rfl (x_load rfl rfl (run_loadVar_agg ti_23 (hst19.blk (i := 2) rfl) (l := [(.int .i64 a), (.int .i64 b), (.int .i64 c), (.int .i64 d)]) rfl rfl)) ?_
  have hst25 := hst19
  refine L_callS [] [c21, one m23 (.cells #[(.int .i64 (1 + a % 3)), (.int .i64 (1 + b % 4)), (.int .i64 (1 + b % 4 + 1 + c % 5)), (.int .i64 (1 + d % 3)), (.slice none 0 0), (.slice none 0 0)] 41 (0, 0)), one b1 (.cells #[(.int .i64 a), (.int .i64 b), (.int .i64 c), (.int .i64 d)] 23 (0, 0))] hst25 rfl rfl rfl (x_call (vs := #[(.agg #[(.int .i64 a), (.int .i64 b), (.int .i64 c), (.int .i64 d)])]) rfl rfl (by kernel_rfl) ent_11) (made_spec (a := a) (b := b) (c := c) (d := d) (hst25.sats.take 0 rfl) ha hb hc hd) (fun v26 w27 R28 L29 hp30 hle31 hst32 => ?_)
  have hm33 := Prof.lift hprof24 hle31
  obtain ⟨p34, c35, m37, rfl, rfl, hp36⟩ := hp30
  have hprof38 : Prof R28 p34 (madeP a b c d) c35 := hp36
  refine L_val (v := (.tuple #[(ptr p34 0), (ptr m37 0)])) (w' := w27) rfl rfl rfl rfl ?_
  refine L_val (v := (ptr p34 0)) (w' := w27) rfl rfl rfl (by kernel_rfl) ?_
  refine L_val (v := (ptr m37 0)) (w' := w27) rfl rfl rfl (by kernel_rfl) ?_
  refine L_val (v := (ptr p34 0)) (w' := w27) rfl rfl rfl rfl ?_
  refine L_val (v := (ptr m37 0)) (w' := w27) rfl rfl rfl rfl ?_
  refine L_nil ?_
  refine W_seq ?_
  refine W_region_lit ?_
  refine L_val (v := (.agg #[(.int .i64 1), (.int .i64 1)])) (w' := w27) rfl rfl rfl (by kernel_rfl) ?_
  refine L_new hst32 (v := fun b => ptr b 0) (ob := .cells #[(.int .i64 0), (.int .i64 0)] 43 (0, 0)) rfl rfl rfl (by kernel_rfl) (fun b39 w40 hst41 => ?_)
  refine L_store hst41 0 ti_43 rfl rfl rfl rfl rfl rfl rfl rfl rfl rfl rfl (fun w42 hst43 => ?_)
  change Step _ _ _ _ _ [one b39 (.cells #[(.int .i64 1), (.int .i64 1)] 43 (0, 0)), c35, one m37 (.cells #[(.int .i64 (1 + a % 3)), (.int .i64 (1 + b % 4)), (.int .i64 (1 + b % 4 + 1 + c % 5)), (.int .i64 (1 + d % 3)), (.slice none 0 0), (.slice none 0 0)] 41 (0, 0)), c21, one m23 (.cells #[(.int .i64 (1 + a % 3)), (.int .i64 (1 + b % 4)), (.int .i64 (1 + b % 4 + 1 + c % 5)), (.int .i64 (1 + d % 3)), (.slice none 0 0), (.slice none 0 0)] 41 (0, 0)), one b1 (.cells #[(.int .i64 a), (.int .i64 b), (.int .i64 c), (.int .i64 d)] 23 (0, 0))] at hst43
  refine L_nil ?_
  refine W_seq ?_
  refine W_seq ?_
  refine W_region_lit ?_
  refine L_val (v := (.int .i64 0)) (w' := w42) rfl rfl rfl rfl ?_
  refine L_nil ?_
  refine W_block ?_
  refine W_loop (I := fun σ w_ m_ => ∃ (σ0 : Fr) (R_ : Hp) (k_ : Nat) (S_ : PS) (O_ : PS) (cS : Hp) (cO : Hp), σ = upd (upd (upd (upd (upd (upd (upd (upd (upd (upd (upd (upd (upd (upd (upd (upd (upd (upd (upd (upd σ0 0 (.agg #[(.int .i64 a), (.int .i64 b), (.int .i64 c), (.int .i64 d)])) 1 v) 2 (ptr b1 0)) 5 (.bool true)) 6 (ptr p20 0)) 8 (ptr p34 0)) 10 (ptr b39 0)) 11 (.int .i64 (k_ : Int))) 18 (.bool true)) 19 (.tuple #[(ptr p20 0), (ptr m23 0)])) 20 (.agg #[(.int .i64 a), (.int .i64 b), (.int .i64 c), (.int .i64 d)])) 21 (.tuple #[(ptr p20 0), (ptr m23 0)])) 22 (ptr p20 0)) 23 (ptr m23 0)) 24 (.tuple #[(ptr p34 0), (ptr m37 0)])) 25 (.agg #[(.int .i64 a), (.int .i64 b), (.int .i64 c), (.int .i64 d)])) 26 (.tuple #[(ptr p34 0), (ptr m37 0)])) 27 (ptr p34 0)) 28 (ptr m37 0)) 29 (.agg #[(.int .i64 1), (.int .i64 1)]) ∧ mks (σ0 0) = [] ∧ Step w R [] w_ R_ [cS, cO, one b39 (.cells #[(.int .i64 1), (.int .i64 1)] 43 (0, 0))] ∧ Le R28 R_ ∧ Prof R_ p20 S_ cS ∧ Prof R_ p34 O_ cO ∧ k_ ≤ 60 ∧ Ap S_ O_ ∧ S_.n ≤ 9 * k_ ∧ O_.n ≤ 9 * k_ ∧ m_ = 60 - k_) (m := 60 - 0) ?_ ?_
  · skip
    exact ⟨_, _, 0, (madeP a b c d), (madeP a b c d), c21, c35, (upd_of (upd_of (upd_of (upd_of (upd_of (upd_of (upd_of (upd_of (upd_of (upd_of (upd_of (upd_of (upd_of (upd_of (upd_of (upd_of (upd_of (upd_of (upd_of (upd_of rfl rfl) rfl) rfl) rfl) rfl) rfl) rfl) rfl) rfl) rfl) rfl) rfl) rfl) rfl) rfl) rfl) rfl) rfl) rfl) rfl), rfl, (((hst43.front 1 rfl rfl).front 3 rfl rfl).keepN 3 rfl), Le.refl _, hm33, hprof38, (by omega), (Ap.start _ _ _ _), (Nat.le_refl _), (Nat.le_refl _), rfl⟩
  · skip
    rintro m61 σ_ w46 ⟨s54, R55, k_56, S_57, O_58, cS59, cO60, rfl, hmk44, hst45, hle47, hi48, hi49, hf50, hf51, hf52, hf53, rfl⟩
    refine W_seq ?_
    refine W_seq ?_
    refine W_region_lit ?_
    refine L_val (v := (.int .i64 (k_56 : Int))) (w' := w46) rfl rfl rfl rfl ?_
    refine L_val (v := v) (w' := w46) rfl rfl rfl rfl ?_
    obtain ⟨a62, cap63, e64, hc65⟩ := hv.shape
    subst e64
    refine L_val (v := (.int .i64 (xs.length : Int))) (w' := w46) rfl rfl rfl (x_len_slice rfl sl_24 rfl) ?_
    refine L_val (v := (.bool (decide ((k_56 : Int) < (xs.length : Int))))) (w' := w46) rfl rfl rfl (by kernel_rfl) ?_
    refine L_val (v := (.bool (decide ((k_56 : Int) < (xs.length : Int))))) (w' := w46) rfl rfl rfl rfl ?_
    rcases Bool.eq_false_or_eq_true (decide ((k_56 : Int) < (xs.length : Int))) with c66 | c66
    · skip
      have q67 := of_decide_eq_true c66
      refine L_guard rfl rfl rfl rfl c66 ?_
      refine L_val (v := (.int .i64 (k_56 : Int))) (w' := w46) rfl rfl rfl rfl ?_
      refine L_guard rfl rfl rfl rfl c66 ?_
      refine L_val (v := (.bool (decide ((k_56 : Int) < 60)))) (w' := w46) rfl rfl rfl (by kernel_rfl) ?_
      refine L_val (v := (.bool (decide ((k_56 : Int) < 60)))) (w' := w46) rfl rfl rfl (x_pick rfl rfl (by rw [c66]; rfl)) ?_
      refine L_nil ?_
      rcases Bool.eq_false_or_eq_true (decide ((k_56 : Int) < 60)) with c68 | c68
      · skip
        have q69 := of_decide_eq_true c68
        refine W_cond_true (by show Value.bool _ = _; exact congrArg Value.bool c68) ?_
        refine W_skip ?_
        refine W_seq ?_
        refine W_block ?_
        refine W_seq ?_
        refine W_region_lit ?_
        refine L_val (v := (ptr p20 0)) (w' := w46) rfl rfl rfl rfl ?_
        refine L_val (v := (.slice a62 xs.length cap63)) (w' := w46) rfl rfl rfl rfl ?_
        refine L_val (v := (.int .i64 (k_56 : Int))) (w' := w46) rfl rfl rfl rfl ?_
        obtain ⟨b70, off71, cap72, cs73, T74, fz75, e76, hc77, hb78, he79⟩ := hv.open (by omega)
        cases e76
        obtain ⟨cl80, hs81, hr82⟩ := he79.at k_56 (by omega)
        obtain ⟨x83, hx84⟩ : ∃ x_, x_ = (xs[k_56]'(by omega)) := ⟨_, rfl⟩
        rw [← hx84] at hr82
        have hx85 : Act.Ok x83 := by rw [hx84]; exact hax _ (List.getElem_mem _)
        obtain rfl := tyAct_open hr82
        refine L_val (v := (ptr b70 (off71 + k_56 * 3))) (w' := w46) rfl rfl rfl (x_indexAddr' rfl sl_24 ti_32 rfl rfl (by omega)) ?_
        refine L_val (v := (.agg #[(.int .i64 x83.what), (.int .i64 x83.a), (.int .i64 x83.n)])) (w' := w46) rfl rfl rfl (x_load rfl rfl (run_loadVar_agg ti_32 ((Le.trans hle10 (Le.trans hle18 (Le.trans hle31 (Le.trans hle47 hst45.rle')))) _ _ hb78) hs81 rfl)) ?_
        have hst86 := hst45
        refine L_callS [cS59] [cO60, one b39 (.cells #[(.int .i64 1), (.int .i64 1)] 43 (0, 0))] hst86 rfl rfl rfl (x_call (vs := #[(ptr p20 0), (.agg #[(.int .i64 x83.what), (.int .i64 x83.a), (.int .i64 x83.n)])]) rfl rfl (by kernel_rfl) ent_12) (do_spec (s := S_57) x83 hx85 (hst86.sats.take 1 rfl) hi48 (hT.mono (Le.trans hle10 (Le.trans hle18 (Le.trans hle31 hle47)))) (by have h_ := hf52; omega)) (fun v87 w88 R89 L90 hp91 hle92 hst93 => ?_)
        have hm94 := Prof.lift hi49 hle92
        obtain ⟨c95, rfl, rfl, hp96⟩ := hp91
        have hprof97 : Prof R89 p20 (PS.act S_57 x83).1 c95 := hp96
        refine L_val (v := (.int .i64 (((PS.act S_57 x83).2 : Nat) : Int))) (w' := w88) rfl rfl rfl rfl ?_
        refine L_nil ?_
        refine W_seq ?_
        refine W_region_draw [] (fun w => Le R89 (hp w) ∧ Le (one b39 (.cells #[(.int .i64 1), (.int .i64 1)] 43 (0, 0))) (hp w)) hmix (by decide +kernel) (fun _ _ h => h) ?_
        have hst99 := hst93.draws (w88.drawn + 1)
        generalize draws w88 (w88.drawn + 1) = w98 at hst99 ⊢
        refine LA_takeP (v := (.slice (some ⟨b70, off71, none⟩) xs.length cap63)) 0 rfl rfl rfl (by decide +kernel) (by decide +kernel) (by decide +kernel) (by decide +kernel) (fun _ _ _ h => h) (Want.plain rfl) (fun u101 => rfl) (fun _ => ⟨hst99.rle', hst99.get (i := 2) rfl⟩) ?_
        refine LA_takeP (v := (.int .i64 (k_56 : Int))) 1 rfl rfl rfl (by decide +kernel) (by decide +kernel) (by decide +kernel) (by decide +kernel) (fun _ _ _ h => h) (Want.plain rfl) (fun u104 => rfl) (fun _ => ⟨hst99.rle', hst99.get (i := 2) rfl⟩) ?_
        obtain ⟨cl109, hs110, hr111⟩ := he79.at k_56 (by omega)
        rw [← hx84] at hr111
        obtain rfl := tyAct_open hr111
        refine LA_takeP (v := (ptr b70 (off71 + k_56 * 3))) 2 rfl rfl rfl (by decide +kernel) (by decide +kernel) (by decide +kernel) (by decide +kernel) (fun _ _ _ h => h) (Want.plain rfl) (fun u107 => (x_indexAddr' rfl sl_24 ti_32 rfl rfl (by omega))) (fun _ => ⟨hst99.rle', hst99.get (i := 2) rfl⟩) ?_
        refine LA_take (v := (.agg #[(.int .i64 x83.what), (.int .i64 x83.a), (.int .i64 x83.n)])) 3 rfl rfl rfl (by decide +kernel) (by decide +kernel) (by decide +kernel) (by decide +kernel) (by decide +kernel) (fun _ _ _ h => h) (Want.plain rfl) (fun u113 hF114 => (x_load rfl rfl (run_loadVar_agg ti_32 ((Le.trans hle10 (Le.trans hle18 (Le.trans hle31 (Le.trans hle47 (Le.trans hle92 hF114.1))))) _ _ hb78) hs110 rfl))) ⟨hst99.rle', hst99.get (i := 2) rfl⟩ ?_
        refine LA_take (v := (.agg #[(.int .i64 1), (.int .i64 1)])) 5 rfl rfl rfl (by decide +kernel) (by decide +kernel) (by decide +kernel) (by decide +kernel) (by decide +kernel) (fun _ _ _ h => h) (Want.plain rfl) (fun u118 hF119 => (x_load rfl rfl (run_loadVar_agg ti_43 (hF119.2 _ _ (one_self _ _)) (l := [(.int .i64 1), (.int .i64 1)]) rfl rfl))) ⟨hst99.rle', hst99.get (i := 2) rfl⟩ ?_
        refine LA_all [4] (by decide +kernel) (by simp) ?_
        intro i_ hi_
        simp only [List.mem_cons, List.not_mem_nil, or_false] at hi_
        subst hi_
        refine One_call (i := 4) rfl rfl rfl (Want.plain rfl) (x_call (vs := #[(.agg #[(.int .i64 x83.what), (.int .i64 x83.a), (.int .i64 x83.n)])]) rfl rfl (by kernel_rfl) ent_21) (Place_spec x83 hx85 hst99.rle') ?_
        rintro e125 w123 ⟨rfl, hw126⟩
        have hst124 := hst99.grown hw126
        refine ⟨_, rfl, (fun _ => ⟨hst124.rle', hst124.get (i := 2) rfl⟩), ?_⟩
        refine LA_takeP (v := (.bool ((x83.pl.1 == 1) && (x83.pl.2 == 1)))) 6 rfl rfl rfl (by decide +kernel) (by decide +kernel) (by decide +kernel) (by decide +kernel) (fun _ _ _ h => h) (Want.plain rfl) (fun u128 => (x_eq43 rfl rfl rfl)) (fun _ => ⟨hst124.rle', hst124.get (i := 2) rfl⟩) ?_
        refine LA_takeP (v := (.bool ((x83.pl.1 == 1) && (x83.pl.2 == 1)))) 7 rfl rfl rfl (by decide +kernel) (by decide +kernel) (by decide +kernel) (by decide +kernel) (fun _ _ _ h => h) (Want.plain rfl) (fun u131 => rfl) (fun _ => ⟨hst124.rle', hst124.get (i := 2) rfl⟩) ?_
        rcases Bool.eq_false_or_eq_true ((x83.pl.1 == 1) && (x83.pl.2 == 1)) with c134 | c134
        · skip
          refine LA_takeP (v := (ptr p34 0)) 8 rfl rfl rfl (by decide +kernel) (by decide +kernel) (by decide +kernel) (by decide +kernel) (fun _ _ _ h => h) (Want.of rfl rfl rfl rfl (by rw [c134]; rfl)) (fun u136 => rfl) (fun _ => ⟨hst124.rle', hst124.get (i := 2) rfl⟩) ?_
          refine LA_takeP (v := (.slice (some ⟨b70, off71, none⟩) xs.length cap63)) 9 rfl rfl rfl (by decide +kernel) (by decide +kernel) (by decide +kernel) (by decide +kernel) (fun _ _ _ h => h) (Want.of rfl rfl rfl rfl (by rw [c134]; rfl)) (fun u139 => rfl) (fun _ => ⟨hst124.rle', hst124.get (i := 2) rfl⟩) ?_
          refine LA_takeP (v := (.int .i64 (k_56 : Int))) 10 rfl rfl rfl (by decide +kernel) (by decide +kernel) (by decide +kernel) (by decide +kernel) (fun _ _ _ h => h) (Want.of rfl rfl rfl rfl (by rw [c134]; rfl)) (fun u142 => rfl) (fun _ => ⟨hst124.rle', hst124.get (i := 2) rfl⟩) ?_
          obtain ⟨cl147, hs148, hr149⟩ := he79.at k_56 (by omega)
          rw [← hx84] at hr149
          obtain rfl := tyAct_open hr149
          refine LA_takeP (v := (ptr b70 (off71 + k_56 * 3))) 11 rfl rfl rfl (by decide +kernel) (by decide +kernel) (by decide +kernel) (by decide +kernel) (fun _ _ _ h => h) (Want.of rfl rfl rfl rfl (by rw [c134]; rfl)) (fun u145 => (x_indexAddr' rfl sl_24 ti_32 rfl rfl (by omega))) (fun _ => ⟨hst124.rle', hst124.get (i := 2) rfl⟩) ?_
          refine LA_take (v := (.agg #[(.int .i64 x83.what), (.int .i64 x83.a), (.int .i64 x83.n)])) 12 rfl rfl rfl (by decide +kernel) (by decide +kernel) (by decide +kernel) (by decide +kernel) (by decide +kernel) (fun _ _ _ h => h) (Want.of rfl rfl rfl rfl (by rw [c134]; rfl)) (fun u151 hF152 => (x_load rfl rfl (run_loadVar_agg ti_32 ((Le.trans hle10 (Le.trans hle18 (Le.trans hle31 (Le.trans hle47 (Le.trans hle92 hF152.1))))) _ _ hb78) hs148 rfl))) ⟨hst124.rle', hst124.get (i := 2) rfl⟩ ?_
          refine LA_takeP (v := (.int .i64 (((PS.act S_57 x83).2 : Nat) : Int))) 14 rfl rfl rfl (by decide +kernel) (by decide +kernel) (by decide +kernel) (by decide +kernel) (fun _ _ _ h => h) (Want.of rfl rfl rfl rfl (by rw [c134]; rfl)) (fun u156 => rfl) (fun _ => ⟨hst124.rle', hst124.get (i := 2) rfl⟩) ?_
          refine LA_all [13] (by decide +kernel) (by simp) ?_
          intro i_ hi_
          simp only [List.mem_cons, List.not_mem_nil, or_false] at hi_
          subst hi_
          have hst161 := (hst124.front 1 rfl rfl)
          refine One_callS (i := 13) [cO60] [c95, one b39 (.cells #[(.int .i64 1), (.int .i64 1)] 43 (0, 0))] hst161 rfl rfl rfl (Want.of rfl rfl rfl rfl (by rw [c134]; rfl)) (x_call (vs := #[(ptr p34 0), (.agg #[(.int .i64 x83.what), (.int .i64 x83.a), (.int .i64 x83.n)])]) rfl rfl (by kernel_rfl) ent_12) (do_spec (s := O_58) x83 hx85 (hst161.sats.take 1 rfl) hm94 (hT.mono (Le.trans hle10 (Le.trans hle18 (Le.trans hle31 (Le.trans hle47 hle92))))) (by have h_ := hf53; omega)) (fun v162 w163 R164 L165 hp166 hle167 hst168 => ?_)
          have hm169 := Prof.lift hprof97 hle167
          obtain ⟨c170, rfl, rfl, hp171⟩ := hp166
          have hprof172 : Prof R164 p34 (PS.act O_58 x83).1 c170 := hp171
          refine ⟨(fun _ => ⟨(Le.trans hle167 hst168.rle'), hst168.get (i := 2) rfl⟩), ?_⟩
          refine LA_takeP (v := (.bool ((((PS.act O_58 x83).2 : Nat) : Int) != (((PS.act S_57 x83).2 : Nat) : Int)))) 15 rfl rfl rfl (by decide +kernel) (by decide +kernel) (by decide +kernel) (by decide +kernel) (fun _ _ _ h => h) (Want.of rfl rfl rfl rfl (by rw [c134]; rfl)) (fun u174 => (by kernel_rfl)) (fun _ => ⟨(Le.trans hle167 hst168.rle'), hst168.get (i := 2) rfl⟩) ?_
          refine LA_takeP (v := (.bool ((((PS.act O_58 x83).2 : Nat) : Int) != (((PS.act S_57 x83).2 : Nat) : Int)))) 16 rfl rfl rfl (by decide +kernel) (by decide +kernel) (by decide +kernel) (by decide +kernel) (fun _ _ _ h => h) (Want.plain rfl) (fun u177 => (x_pick rfl rfl (by rw [c134]; rfl))) (fun _ => ⟨(Le.trans hle167 hst168.rle'), hst168.get (i := 2) rfl⟩) ?_
          refine LA_done (by decide +kernel) ?_
          have c179 : ((((PS.act O_58 x83).2 : Nat) : Int) != (((PS.act S_57 x83).2 : Nat) : Int)) = false := by rw [(hf51.on (is11_pl.1 c134)).2]; exact bne_self_eq_false _
          have q180 : (((PS.act O_58 x83).2 : Nat) : Int) = (((PS.act S_57 x83).2 : Nat) : Int) := by simpa using c179
          refine W_cond_false (by show Value.bool _ = _; exact congrArg Value.bool c179) ?_
          refine W_skip ?_
          refine W_region_lit ?_
          refine L_val (v := (.int .i64 (k_56 : Int))) (w' := w163) rfl rfl rfl rfl ?_
          refine L_val (v := (.int .i64 ((k_56 + 1 : Nat) : Int))) (w' := w163) rfl rfl rfl (x_add_nat rfl rfl rfl (by omega)) ?_
          refine L_val (v := (.int .i64 ((k_56 + 1 : Nat) : Int))) (w' := w163) rfl rfl rfl rfl ?_
          refine L_nil ?_
          refine ⟨60 - (k_56 + 1), by first | omega | (simp only [List.length_append, List.length_cons, List.length_nil]; omega), ?_⟩
          exact ⟨_, _, (k_56 + 1), ((PS.act S_57 x83).1), ((PS.act O_58 x83).1), c95, c170, (upd_of (upd_of (upd_of (upd_of (upd_of (upd_of (upd_of (upd_of (upd_of (upd_of (upd_of (upd_of (upd_of (upd_of (upd_of (upd_of (upd_of (upd_of (upd_of (upd_of rfl rfl) rfl) rfl) rfl) rfl) rfl) rfl) rfl) rfl) rfl) rfl) rfl) rfl) rfl) rfl) rfl) rfl) rfl) rfl) rfl), hmk44, (((hst168.front 2 rfl rfl).front 1 rfl rfl).front 2 rfl rfl), (Le.trans hle47 (Le.trans hle92 hle167)), hm169, hprof172, (by omega), (hf51.on (is11_pl.1 c134)).1, (by have h_ := n_act S_57 x83; omega), (by have h_ := n_act O_58 x83; omega), rfl⟩
        · skip
          refine LA_leaveP 8 rfl rfl rfl (by decide +kernel) (by decide +kernel) (by decide +kernel) (by decide +kernel) (fun _ _ _ h => h) (Want.of rfl rfl rfl rfl (by rw [c134]; rfl)) (fun _ => ⟨hst124.rle', hst124.get (i := 2) rfl⟩) ?_
          refine LA_leaveP 9 rfl rfl rfl (by decide +kernel) (by decide +kernel) (by decide +kernel) (by decide +kernel) (fun _ _ _ h => h) (Want.of rfl rfl rfl rfl (by rw [c134]; rfl)) (fun _ => ⟨hst124.rle', hst124.get (i := 2) rfl⟩) ?_
          refine LA_leaveP 10 rfl rfl rfl (by decide +kernel) (by decide +kernel) (by decide +kernel) (by decide +kernel) (fun _ _ _ h => h) (Want.of rfl rfl rfl rfl (by rw [c134]; rfl)) (fun _ => ⟨hst124.rle', hst124.get (i := 2) rfl⟩) ?_
          refine LA_leaveP 11 rfl rfl rfl (by decide +kernel) (by decide +kernel) (by decide +kernel) (by decide +kernel) (fun _ _ _ h => h) (Want.of rfl rfl rfl rfl (by rw [c134]; rfl)) (fun _ => ⟨hst124.rle', hst124.get (i := 2) rfl⟩) ?_
          refine LA_leaveP 12 rfl rfl rfl (by decide +kernel) (by decide +kernel) (by decide +kernel) (by decide +kernel) (fun _ _ _ h => h) (Want.of rfl rfl rfl rfl (by rw [c134]; rfl)) (fun _ => ⟨hst124.rle', hst124.get (i := 2) rfl⟩) ?_
          refine LA_leaveP 13 rfl rfl rfl (by decide +kernel) (by decide +kernel) (by decide +kernel) (by decide +kernel) (fun _ _ _ h => h) (Want.of rfl rfl rfl rfl (by rw [c134]; rfl)) (fun _ => ⟨hst124.rle', hst124.get (i := 2) rfl⟩) ?_
          refine LA_leaveP 14 rfl rfl rfl (by decide +kernel) (by decide +kernel) (by decide +kernel) (by decide +kernel) (fun _ _ _ h => h) (Want.of rfl rfl rfl rfl (by rw [c134]; rfl)) (fun _ => ⟨hst124.rle', hst124.get (i := 2) rfl⟩) ?_
          refine LA_leaveP 15 rfl rfl rfl (by decide +kernel) (by decide +kernel) (by decide +kernel) (by decide +kernel) (fun _ _ _ h => h) (Want.of rfl rfl rfl rfl (by rw [c134]; rfl)) (fun _ => ⟨hst124.rle', hst124.get (i := 2) rfl⟩) ?_
          refine LA_takeP (v := (.bool false)) 16 rfl rfl rfl (by decide +kernel) (by decide +kernel) (by decide +kernel) (by decide +kernel) (fun _ _ _ h => h) (Want.plain rfl) (fun u190 => (x_pick rfl rfl (by rw [c134]; rfl))) (fun _ => ⟨hst124.rle', hst124.get (i := 2) rfl⟩) ?_
          refine LA_done (by decide +kernel) ?_
          refine W_cond_false (by show Value.bool _ = _; exact congrArg Value.bool rfl) ?_
          refine W_skip ?_
          refine W_region_lit ?_
          refine L_val (v := (.int .i64 (k_56 : Int))) (w' := w123) rfl rfl rfl rfl ?_
          refine L_val (v := (.int .i64 ((k_56 + 1 : Nat) : Int))) (w' := w123) rfl rfl rfl (x_add_nat rfl rfl rfl (by omega)) ?_
          refine L_val (v := (.int .i64 ((k_56 + 1 : Nat) : Int))) (w' := w123) rfl rfl rfl rfl ?_
          refine L_nil ?_
          refine ⟨60 - (k_56 + 1), by first | omega | (simp only [List.length_append, List.length_cons, List.length_nil]; omega), ?_⟩
          exact ⟨_, _, (k_56 + 1), ((PS.act S_57 x83).1), O_58, c95, cO60, (upd_of (upd_of (upd_of (upd_of (upd_of (upd_of (upd_of (upd_of (upd_of (upd_of (upd_of (upd_of (upd_of (upd_of (upd_of (upd_of (upd_of (upd_of (upd_of (upd_of rfl rfl) rfl) rfl) rfl) rfl) rfl) rfl) rfl) rfl) rfl) rfl) rfl) rfl) rfl) rfl) rfl) rfl) rfl) rfl) rfl), hmk44, (((hst124.front 2 rfl rfl).front 2 rfl rfl).front 2 rfl rfl), (Le.trans hle47 hle92), hprof97, hm94, (by omega), (hf51.off (Oth.act _ _) (fun e_ => by rw [is11_pl.2 e_] at c134; cases c134)), (by have h_ := n_act S_57 x83; omega), (by omega), rfl⟩
      · skip
        have q192 := of_decide_eq_false c68
        refine W_cond_false (by show Value.bool _ = _; exact congrArg Value.bool c68) ?_
        refine W_exit ?_
        refine W_seq ?_
        refine W_region_lit ?_
        refine L_val (v := (.slice none 0 0)) (w' := w46) rfl rfl rfl rfl ?_
        refine L_nil ?_
        refine W_seq ?_
        refine W_seq ?_
        have ho194 := OwnL.empty tyDec 49 R55
        have hst195 := hst45.nothing
        have hdl_ := Prof.decs_le hi48
        refine W_region_lit ?_
        refine L_val (v := (ptr p20 0)) (w' := w46) rfl rfl rfl rfl ?_
        have hst196 := (hst195.front 1 rfl rfl)
        refine L_callS [cS59] [non, cO60, one b39 (.cells #[(.int .i64 1), (.int .i64 1)] 43 (0, 0))] hst196 rfl rfl rfl (x_call (vs := #[(ptr p20 0)]) rfl rfl (by kernel_rfl) ent_17) (Decisions_spec (hst196.sats.take 1 rfl) hi48 (by have h_ := hf52; omega)) (fun v197 w198 R199 L200 hp201 hle202 hst203 => ?_)
        have hm204 := OwnL.mono ho194 hle202
        have hm205 := Prof.lift hi49 hle202
        obtain ⟨c206, c207, rfl, ho208, hp209⟩ := hp201
        have hprof210 : Prof R199 p20 S_57 c207 := hp209
        obtain ⟨R211, hst212, hle213, hc214⟩ := Step.frz hst203
        have hm215 := Prof.lift hprof210 hle213
        have hm216 := OwnL.mono hm204 hle213
        have hm217 := Prof.lift hm205 hle213
        have hrd218 := OwnL.freeze ho208 hle213 hc214
        obtain ⟨a219, cap220, e221, hc222⟩ := hrd218.shape
        subst e221
        refine L_val (v := (.int .i64 (((PS.decs S_57).length : Nat) : Int))) (w' := w198) rfl rfl rfl (x_len_slice rfl sl_36 rfl) ?_
        refine L_val (v := (.int .i64 0)) (w' := w198) rfl rfl rfl rfl ?_
        refine L_nil ?_
        refine W_block ?_
        refine W_loop (I := fun σ w_ m_ => ∃ (σ0 : Fr) (k_ : Nat) (vo : Value) (co : Hp), σ = upd (upd (upd (upd (upd (upd (upd (upd (upd (upd (upd (upd (upd (upd (upd (upd (upd (upd (upd (upd (upd (upd (upd (upd (upd (upd (upd (upd (upd (upd (upd (upd (upd σ0 0 (.agg #[(.int .i64 a), (.int .i64 b), (.int .i64 c), (.int .i64 d)])) 1 (.slice a62 xs.length cap63)) 2 (ptr b1 0)) 5 (.bool true)) 6 (ptr p20 0)) 8 (ptr p34 0)) 10 (ptr b39 0)) 11 (.int .i64 (k_56 : Int))) 13 vo) 18 (.bool true)) 19 (.tuple #[(ptr p20 0), (ptr m23 0)])) 20 (.agg #[(.int .i64 a), (.int .i64 b), (.int .i64 c), (.int .i64 d)])) 21 (.tuple #[(ptr p20 0), (ptr m23 0)])) 22 (ptr p20 0)) 23 (ptr m23 0)) 24 (.tuple #[(ptr p34 0), (ptr m37 0)])) 25 (.agg #[(.int .i64 a), (.int .i64 b), (.int .i64 c), (.int .i64 d)])) 26 (.tuple #[(ptr p34 0), (ptr m37 0)])) 27 (ptr p34 0)) 28 (ptr m37 0)) 29 (.agg #[(.int .i64 1), (.int .i64 1)])) 30 (.int .i64 (k_56 : Int))) 31 (.slice a62 xs.length cap63)) 32 (.int .i64 (xs.length : Int))) 33 (.bool (decide ((k_56 : Int) < (xs.length : Int))))) 34 (.bool (decide ((k_56 : Int) < (xs.length : Int))))) 35 (.int .i64 (k_56 : Int))) 36 (.bool (decide ((k_56 : Int) < 60)))) 37 (.bool (decide ((k_56 : Int) < 60)))) 63 (ptr p20 0)) 64 (.slice a219 ((PS.decs S_57).length) cap220)) 65 (.int .i64 (((PS.decs S_57).length : Nat) : Int))) 66 (.int .i64 (k_ : Int)) ∧ mks (σ0 0) = [] ∧ Step w R [] w_ R211 [c207, cO60, one b39 (.cells #[(.int .i64 1), (.int .i64 1)] 43 (0, 0)), co] ∧ OwnL tyDec 49 R211 vo (List.filter is11 (List.take k_ (PS.decs S_57))) co ∧ k_ ≤ (PS.decs S_57).length ∧ m_ = (PS.decs S_57).length - k_) (m := (PS.decs S_57).length - 0) ?_ ?_
        · skip
          exact ⟨_, 0, (.slice none 0 0), non, (upd_of (upd_of (upd_of (upd_of (upd_of (upd_of (upd_of (upd_of (upd_of (upd_of (upd_of (upd_of (upd_of (upd_of (upd_of (upd_of (upd_of (upd_of (upd_of (upd_of (upd_of (upd_of (upd_of (upd_of (upd_of (upd_of (upd_of (upd_of (upd_of (upd_of (upd_of (upd_of (upd_of rfl rfl) rfl) rfl) rfl) rfl) rfl) rfl) rfl) rfl) rfl) rfl) rfl) rfl) rfl) rfl) rfl) rfl) rfl) rfl) rfl) rfl) rfl) rfl) rfl) rfl) rfl) rfl) rfl) rfl) rfl) rfl) rfl) rfl), hmk44, ((((hst212.front 1 rfl rfl).front 3 rfl rfl).front 3 rfl rfl).front 3 rfl rfl), hm216, (by omega), rfl⟩
        · skip
          rintro m233 σ_ w225 ⟨s229, k_230, vo231, co232, rfl, hmk223, hst224, hi227, hf228, rfl⟩
          refine W_seq ?_
          refine W_region_lit ?_
          refine L_val (v := (.bool (decide ((k_230 : Int) < (((PS.decs S_57).length : Nat) : Int))))) (w' := w225) rfl rfl rfl (by kernel_rfl) ?_
          refine L_nil ?_
          refine W_seq ?_
          rcases Bool.eq_false_or_eq_true (decide ((k_230 : Int) < (((PS.decs S_57).length : Nat) : Int))) with c234 | c234
          · skip
            have q235 := of_decide_eq_true c234
            refine W_cond_true (by show Value.bool _ = _; exact congrArg Value.bool c234) ?_
            refine W_skip ?_
            refine W_seq ?_
            refine W_block ?_
            refine W_seq ?_
            refine W_region_lit ?_
            obtain ⟨b236, off237, cap238, cs239, T240, fz241, e242, hc243, hb244, he245⟩ := hrd218.open (by omega)
            cases e242
            obtain ⟨cl246, hs247, hr248⟩ := he245.at k_230 (by omega)
            obtain ⟨d249, hd250⟩ : ∃ d_, d_ = ((PS.decs S_57)[k_230]'(by omega)) := ⟨_, rfl⟩
            rw [← hd250] at hr248
            obtain rfl := tyDec_open hr248
            refine L_val (v := (ptr b236 (off237 + k_230 * 4))) (w' := w225) rfl rfl rfl (x_indexAddr' rfl sl_36 ti_49 rfl rfl (by omega)) ?_
            refine L_val (v := (.agg #[(.int .i64 d249.pl.1), (.int .i64 d249.pl.2), (.int .i64 d249.tier), (.string d249.reason)])) (w' := w225) rfl rfl rfl (x_load rfl rfl (run_loadVar_agg ti_49 (hst224.rle' _ _ hb244) hs247 rfl)) ?_
            refine L_new hst224 (v := fun b => ptr b 0) (ob := .cells #[(.int .i64 0), (.int .i64 0), (.int .i64 0), (.string ⟨#[]⟩)] 49 (0, 0)) rfl rfl rfl (by kernel_rfl) (fun b251 w252 hst253 => ?_)
            refine L_store hst253 0 ti_49 rfl rfl rfl rfl rfl rfl rfl rfl rfl rfl rfl (fun w254 hst255 => ?_)
            change Step _ _ _ _ _ [one b251 (.cells #[(.int .i64 d249.pl.1), (.int .i64 d249.pl.2), (.int .i64 d249.tier), (.string d249.reason)] 49 (0, 0)), c207, cO60, one b39 (.cells #[(.int .i64 1), (.int .i64 1)] 43 (0, 0)), co232] at hst255
            refine L_nil ?_
            refine W_seq ?_
            have hfl_ := filt_len (PS.decs S_57) k_230
            refine W_region_lit ?_
            refine L_val (v := (ptr b251 0)) (w' := w254) rfl rfl rfl (by kernel_rfl) ?_
            refine L_val (v := (.agg #[(.int .i64 d249.pl.1), (.int .i64 d249.pl.2)])) (w' := w254) rfl rfl rfl (x_load rfl rfl (run_loadVar_agg ti_43 (hst255.blk (i := 0) rfl) (l := [(.int .i64 d249.pl.1), (.int .i64 d249.pl.2)]) rfl rfl)) ?_
            refine L_val (v := (.agg #[(.int .i64 1), (.int .i64 1)])) (w' := w254) rfl rfl rfl (x_load rfl rfl (run_loadVar_agg ti_43 (hst255.blk (i := 3) rfl) (l := [(.int .i64 1), (.int .i64 1)]) rfl rfl)) ?_
            refine L_val (v := (.bool ((d249.pl.1 == 1) && (d249.pl.2 == 1)))) (w' := w254) rfl rfl rfl (x_eq43 rfl rfl rfl) ?_
            refine L_nil ?_
            rcases Bool.eq_false_or_eq_true ((d249.pl.1 == 1) && (d249.pl.2 == 1)) with c256 | c256
            · skip
              refine W_cond_true (by show Value.bool _ = _; exact congrArg Value.bool c256) ?_
              refine W_region_lit ?_
              refine L_val (v := vo231) (w' := w254) rfl rfl rfl rfl ?_
              refine L_val (v := (.agg #[(.int .i64 d249.pl.1), (.int .i64 d249.pl.2), (.int .i64 d249.tier), (.string d249.reason)])) (w' := w254) rfl rfl rfl (x_load rfl rfl (run_loadVar_agg ti_49 (hst255.blk (i := 0) rfl) (l := [(.int .i64 d249.pl.1), (.int .i64 d249.pl.2), (.int .i64 d249.tier), (.string d249.reason)]) rfl rfl)) ?_
              refine L_new hst255 (v := fun b => .slice (some ⟨b, 0, none⟩) 1 1) (ob := .cells #[(.int .i64 d249.pl.1), (.int .i64 d249.pl.2), (.int .i64 d249.tier), (.string d249.reason)] 49 (0, 0)) rfl rfl rfl (by kernel_rfl) (fun b257 w258 hst259 => ?_)
              refine L_append hst259 (t := 36) (e := 49) (ys := [Dec.mk d249.pl d249.tier d249.reason]) (src := [(.int .i64 d249.pl.1), (.int .i64 d249.pl.2), (.int .i64 d249.tier), (.string d249.reason)]) 5 rfl rfl rfl rfl rfl rfl sl_36 ti_49 rfl rfl rfl hi227 (src_own (hst259.blk (i := 0) rfl)) (Encs.one (tyDec_mk _ _ _ _ _)) rfl (by first | omega | (simp only [List.length_append, List.length_cons, List.length_nil]; omega)) (by first | (simp only [maxLen]; omega) | (simp only [List.length_append, List.length_cons, List.length_nil, maxLen]; omega)) (fun v260 c261 w262 ho263 hst264 => ?_)
              refine L_val (v := v260) (w' := w262) rfl rfl rfl rfl ?_
              refine L_nil ?_
              refine W_region_lit ?_
              refine L_val (v := (.int .i64 ((k_230 + 1 : Nat) : Int))) (w' := w262) rfl rfl rfl (x_add_nat rfl rfl rfl (by omega)) ?_
              refine L_val (v := (.int .i64 ((k_230 + 1 : Nat) : Int))) (w' := w262) rfl rfl rfl rfl ?_
              refine L_nil ?_
              refine ⟨(PS.decs S_57).length - (k_230 + 1), by first | omega | (simp only [List.length_append, List.length_cons, List.length_nil]; omega), ?_⟩
              exact ⟨_, (k_230 + 1), v260, c261, (upd_of (upd_of (upd_of (upd_of (upd_of (upd_of (upd_of (upd_of (upd_of (upd_of (upd_of (upd_of (upd_of (upd_of (upd_of (upd_of (upd_of (upd_of (upd_of (upd_of (upd_of (upd_of (upd_of (upd_of (upd_of (upd_of (upd_of (upd_of (upd_of (upd_of (upd_of (upd_of (upd_of rfl rfl) rfl) rfl) rfl) rfl) rfl) rfl) rfl) rfl) rfl) rfl) rfl) rfl) rfl) rfl) rfl) rfl) rfl) rfl) rfl) rfl) rfl) rfl) rfl) rfl) rfl) rfl) rfl) rfl) rfl) rfl) rfl) rfl), hmk223, ((((hst264.front 5 rfl rfl).front 5 rfl rfl).front 5 rfl rfl).keepN 4 rfl), (by rw [filt_yes' (by omega) hd250 c256]; exact ho263), (by omega), rfl⟩
            · skip
              refine W_cond_false (by show Value.bool _ = _; exact congrArg Value.bool c256) ?_
              refine W_skip ?_
              refine W_region_lit ?_
              refine L_val (v := (.int .i64 ((k_230 + 1 : Nat) : Int))) (w' := w254) rfl rfl rfl (x_add_nat rfl rfl rfl (by omega)) ?_
              refine L_val (v := (.int .i64 ((k_230 + 1 : Nat) : Int))) (w' := w254) rfl rfl rfl rfl ?_
              refine L_nil ?_
              refine ⟨(PS.decs S_57).length - (k_230 + 1), by first | omega | (simp only [List.length_append, List.length_cons, List.length_nil]; omega), ?_⟩
              exact ⟨_, (k_230 + 1), vo231, co232, (upd_of (upd_of (upd_of (upd_of (upd_of (upd_of (upd_of (upd_of (upd_of (upd_of (upd_of (upd_of (upd_of (upd_of (upd_of (upd_of (upd_of (upd_of (upd_of (upd_of (upd_of (upd_of (upd_of (upd_of (upd_of (upd_of (upd_of (upd_of (upd_of (upd_of (upd_of (upd_of (upd_of rfl rfl) rfl) rfl) rfl) rfl) rfl) rfl) rfl) rfl) rfl) rfl) rfl) rfl) rfl) rfl) rfl) rfl) rfl) rfl) rfl) rfl) rfl) rfl) rfl) rfl) rfl) rfl) rfl) rfl) rfl) rfl) rfl) rfl), hmk223, (((((hst255.front 4 rfl rfl).front 4 rfl rfl).front 4 rfl rfl).front 4 rfl rfl).keepN 4 rfl), (by rw [filt_no' (by omega) hd250 c256]; exact hi227), (by omega), rfl⟩
          · skip
            have q265 := of_decide_eq_false c234
            refine W_cond_false (by show Value.bool _ = _; exact congrArg Value.bool c234) ?_
            refine W_exit ?_
            refine W_seq ?_
            have hk_ : k_230 = (PS.decs S_57).length := by omega
            have ho266 : OwnL tyDec 49 R211 vo231 (List.filter is11 (PS.decs S_57)) co232 := by have h_ := hi227; rw [hk_, List.take_length] at h_; exact h_
            obtain ⟨R267, hst268, hle269, hc270⟩ := Step.frz (hst224.front 3 rfl rfl)
            have hm271 := Prof.lift hm215 hle269
            have hm272 := Prof.lift hm217 hle269
            have hrd273 := OwnL.freeze ho266 hle269 hc270
            have hfl_ : (List.filter is11 (PS.decs S_57)).length ≤ (PS.decs S_57).length := List.length_filter_le _ _
            refine W_region_lit ?_
            refine L_val (v := (ptr p34 0)) (w' := w225) rfl rfl rfl rfl ?_
            have hst274 := (hst268.front 1 rfl rfl)
            refine L_callS [cO60] [c207, one b39 (.cells #[(.int .i64 1), (.int .i64 1)] 43 (0, 0))] hst274 rfl rfl rfl (x_call (vs := #[(ptr p34 0)]) rfl rfl (by kernel_rfl) ent_17) (Decisions_spec (hst274.sats.take 1 rfl) hm272 (by have h_ := hf53; omega)) (fun v275 w276 R277 L278 hp279 hle280 hst281 => ?_)
            have hm282 := Prof.lift hm271 hle280
            obtain ⟨c283, c284, rfl, ho285, hp286⟩ := hp279
            have hprof287 : Prof R277 p34 O_58 c284 := hp286
            rw [hf51.decs] at ho285
            obtain ⟨R288, hst289, hle290, hc291⟩ := Step.frz hst281
            have hm292 := Prof.lift hprof287 hle290
            have hm293 := Prof.lift hm282 hle290
            have hrd294 := OwnL.freeze ho285 hle290 hc291
            refine L_val (v := v275) (w' := w276) rfl rfl rfl rfl ?_
            refine L_nil ?_
            refine W_seq ?_
            refine W_seq ?_
            refine W_region_draw [] (fun w => Le R288 (hp w) ∧ Le (one b39 (.cells #[(.int .i64 1), (.int .i64 1)] 43 (0, 0))) (hp w)) hmix (by decide +kernel) (fun _ _ h => h) ?_
            have hst296 := hst289.draws (w276.drawn + 1)
            generalize draws w276 (w276.drawn + 1) = w295 at hst296 ⊢
            refine LA_takeP (v := v275) 0 rfl rfl rfl (by decide +kernel) (by decide +kernel) (by decide +kernel) (by decide +kernel) (fun _ _ _ h => h) (Want.plain rfl) (fun u298 => rfl) (fun _ => ⟨hst296.rle', hst296.get (i := 2) rfl⟩) ?_
            obtain ⟨a303, cap304, e305, hc306⟩ := hrd294.shape
            subst e305
            refine LA_take (v := (.int .i64 (((List.filter is11 (PS.decs S_57)).length : Nat) : Int))) 1 rfl rfl rfl (by decide +kernel) (by decide +kernel) (by decide +kernel) (by decide +kernel) (by decide +kernel) (fun _ _ _ h => h) (Want.plain rfl) (fun u301 hF302 => (x_len_slice rfl sl_36 rfl)) ⟨hst296.rle', hst296.get (i := 2) rfl⟩ ?_
            refine LA_takeP (v := vo231) 2 rfl rfl rfl (by decide +kernel) (by decide +kernel) (by decide +kernel) (by decide +kernel) (fun _ _ _ h => h) (Want.plain rfl) (fun u308 => rfl) (fun _ => ⟨hst296.rle', hst296.get (i := 2) rfl⟩) ?_
            obtain ⟨a313, cap314, e315, hc316⟩ := hrd273.shape
            subst e315
            refine LA_take (v := (.int .i64 (((List.filter is11 (PS.decs S_57)).length : Nat) : Int))) 3 rfl rfl rfl (by decide +kernel) (by decide +kernel) (by decide +kernel) (by decide +kernel) (by decide +kernel) (fun _ _ _ h => h) (Want.plain rfl) (fun u311 hF312 => (x_len_slice rfl sl_36 rfl)) ⟨hst296.rle', hst296.get (i := 2) rfl⟩ ?_
            refine LA_takeP (v := (.bool ((((List.filter is11 (PS.decs S_57)).length : Nat) : Int) != (((List.filter is11 (PS.decs S_57)).length : Nat) : Int)))) 4 rfl rfl rfl (by decide +kernel) (by decide +kernel) (by decide +kernel) (by decide +kernel) (fun _ _ _ h => h) (Want.plain rfl) (fun u318 => (by kernel_rfl)) (fun _ => ⟨hst296.rle', hst296.get (i := 2) rfl⟩) ?_
            refine LA_takeP (v := (.bool ((((List.filter is11 (PS.decs S_57)).length : Nat) : Int) != (((List.filter is11 (PS.decs S_57)).length : Nat) : Int)))) 5 rfl rfl rfl (by decide +kernel) (by decide +kernel) (by decide +kernel) (by decide +kernel) (fun _ _ _ h => h) (Want.plain rfl) (fun u321 => rfl) (fun _ => ⟨hst296.rle', hst296.get (i := 2) rfl⟩) ?_
            have c324 : ((((List.filter is11 (PS.decs S_57)).length : Nat) : Int) != (((List.filter is11 (PS.decs S_57)).length : Nat) : Int)) = false := bne_self_eq_false _
            refine LA_takeP (v := (ptr p20 0)) 6 rfl rfl rfl (by decide +kernel) (by decide +kernel) (by decide +kernel) (by decide +kernel) (fun _ _ _ h => h) (Want.of rfl rfl rfl rfl (by rw [c324]; rfl)) (fun u327 => rfl) (fun _ => ⟨hst296.rle', hst296.get (i := 2) rfl⟩) ?_
            refine LA_take (v := (.agg #[(.int .i64 1), (.int .i64 1)])) 7 rfl rfl rfl (by decide +kernel) (by decide +kernel) (by decide +kernel) (by decide +kernel) (by decide +kernel) (fun _ _ _ h => h) (Want.of rfl rfl rfl rfl (by rw [c324]; rfl)) (fun u330 hF331 => (x_load rfl rfl (run_loadVar_agg ti_43 (hF331.2 _ _ (one_self _ _)) (l := [(.int .i64 1), (.int .i64 1)]) rfl rfl))) ⟨hst296.rle', hst296.get (i := 2) rfl⟩ ?_
            refine LA_takeP (v := (ptr p34 0)) 9 rfl rfl rfl (by decide +kernel) (by decide +kernel) (by decide +kernel) (by decide +kernel) (fun _ _ _ h => h) (Want.of rfl rfl rfl rfl (by rw [c324]; rfl)) (fun u335 => rfl) (fun _ => ⟨hst296.rle', hst296.get (i := 2) rfl⟩) ?_
            refine LA_take (v := (.agg #[(.int .i64 1), (.int .i64 1)])) 10 rfl rfl rfl (by decide +kernel) (by decide +kernel) (by decide +kernel) (by decide +kernel) (by decide +kernel) (fun _ _ _ h => h) (Want.of rfl rfl rfl rfl (by rw [c324]; rfl)) (fun u340 hF341 => (x_load rfl rfl (run_loadVar_agg ti_43 (hF341.2 _ _ (one_self _ _)) (l := [(.int .i64 1), (.int .i64 1)]) rfl rfl))) ⟨hst296.rle', hst296.get (i := 2) rfl⟩ ?_
            refine LA_all [8] (by decide +kernel) (by simp) ?_
            intro i_ hi_
            simp only [List.mem_cons, List.not_mem_nil, or_false] at hi_
            subst hi_
            have hst345 := (hst296.front 1 rfl rfl)
            refine One_callS (i := 8) [c207] [c284, one b39 (.cells #[(.int .i64 1), (.int .i64 1)] 43 (0, 0))] hst345 rfl rfl rfl (Want.of rfl rfl rfl rfl (by rw [c324]; rfl)) (x_call (vs := #[(ptr p20 0), (.agg #[(.int .i64 1), (.int .i64 1)])]) rfl rfl (by kernel_rfl) ent_18) (Tier_spec (s := S_57) (1, 1)  (hst345.sats.take 1 rfl) hm293 (hT.mono (Le.trans hle10 (Le.trans hle18 (Le.trans hle31 (Le.trans hle47 (Le.trans hle202 (Le.trans hle213 (Le.trans hle269 (Le.trans hle280 hle290))))))))) (by have h_ := hf52; omega)) (fun v346 w347 R348 L349 hp350 hle351 hst352 => ?_)
            have hm353 := Prof.lift hm292 hle351
            obtain ⟨c354, hv355, rfl, hp356⟩ := hp350
            subst hv355
            have hprof357 : Prof R348 p20 S_57 c354 := hp356
            refine ⟨(fun _ => ⟨(Le.trans hle351 hst352.rle'), hst352.get (i := 2) rfl⟩), ?_⟩
            refine LA_all [11] (by decide +kernel) (by simp) ?_
            intro i_ hi_
            simp only [List.mem_cons, List.not_mem_nil, or_false] at hi_
            subst hi_
            have hst361 := (hst352.front 1 rfl rfl)
            refine One_callS (i := 11) [c284] [c354, one b39 (.cells #[(.int .i64 1), (.int .i64 1)] 43 (0, 0))] hst361 rfl rfl rfl (Want.of rfl rfl rfl rfl (by rw [c324]; rfl)) (x_call (vs := #[(ptr p34 0), (.agg #[(.int .i64 1), (.int .i64 1)])]) rfl rfl (by kernel_rfl) ent_18) (Tier_spec (s := O_58) (1, 1)  (hst361.sats.take 1 rfl) hm353 (hT.mono (Le.trans hle10 (Le.trans hle18 (Le.trans hle31 (Le.trans hle47 (Le.trans hle202 (Le.trans hle213 (Le.trans hle269 (Le.trans hle280 (Le.trans hle290 hle351)))))))))) (by have h_ := hf53; omega)) (fun v362 w363 R364 L365 hp366 hle367 hst368 => ?_)
            have hm369 := Prof.lift hprof357 hle367
            obtain ⟨c370, hv371, rfl, hp372⟩ := hp366
            subst hv371
            have hprof373 : Prof R364 p34 O_58 c370 := hp372
            refine ⟨(fun _ => ⟨(Le.trans hle351 (Le.trans hle367 hst368.rle')), hst368.get (i := 2) rfl⟩), ?_⟩
            refine LA_takeP (v := (.bool ((PS.tier S_57 (1, 1)) != (PS.tier O_58 (1, 1))))) 12 rfl rfl rfl (by decide +kernel) (by decide +kernel) (by decide +kernel) (by decide +kernel) (fun _ _ _ h => h) (Want.of rfl rfl rfl rfl (by rw [c324]; rfl)) (fun u375 => (by kernel_rfl)) (fun _ => ⟨(Le.trans hle351 (Le.trans hle367 hst368.rle')), hst368.get (i := 2) rfl⟩) ?_
            refine LA_takeP (v := (.bool ((PS.tier S_57 (1, 1)) != (PS.tier O_58 (1, 1))))) 13 rfl rfl rfl (by decide +kernel) (by decide +kernel) (by decide +kernel) (by decide +kernel) (fun _ _ _ h => h) (Want.plain rfl) (fun u378 => (x_pick rfl rfl (by rw [c324]; rfl))) (fun _ => ⟨(Le.trans hle351 (Le.trans hle367 hst368.rle')), hst368.get (i := 2) rfl⟩) ?_
            refine LA_done (by decide +kernel) ?_
            have c380 : ((PS.tier S_57 (1, 1)) != (PS.tier O_58 (1, 1))) = false := by rw [hf51.tier]; exact bne_self_eq_false _
            have q381 : (PS.tier S_57 (1, 1)) = (PS.tier O_58 (1, 1)) := by simpa using c380
            refine W_cond_false (by show Value.bool _ = _; exact congrArg Value.bool c380) ?_
            refine W_skip ?_
            refine W_seq ?_
            refine W_seq ?_
            refine W_region_lit ?_
            refine L_val (v := (.slice a303 ((List.filter is11 (PS.decs S_57)).length) cap304)) (w' := w363) rfl rfl rfl rfl ?_
            refine L_val (v := (.int .i64 (((List.filter is11 (PS.decs S_57)).length : Nat) : Int))) (w' := w363) rfl rfl rfl (x_len_slice rfl sl_36 rfl) ?_
            refine L_val (v := (.int .i64 0)) (w' := w363) rfl rfl rfl rfl ?_
            refine L_nil ?_
            refine W_block ?_
            refine W_loop (I := fun σ w_ m_ => ∃ (σ0 : Fr) (k_ : Nat), σ = upd (upd (upd (upd (upd (upd (upd (upd (upd (upd (upd (upd (upd (upd (upd (upd (upd (upd (upd (upd (upd (upd (upd (upd (upd (upd (upd (upd (upd (upd (upd (upd (upd (upd (upd (upd (upd (upd (upd (upd (upd (upd (upd (upd (upd (upd (upd (upd (upd (upd (upd (upd (upd (upd σ0 0 (.agg #[(.int .i64 a), (.int .i64 b), (.int .i64 c), (.int .i64 d)])) 1 (.slice a62 xs.length cap63)) 2 (ptr b1 0)) 5 (.bool true)) 6 (ptr p20 0)) 8 (ptr p34 0)) 10 (ptr b39 0)) 11 (.int .i64 (k_56 : Int))) 13 (.slice a313 ((List.filter is11 (PS.decs S_57)).length) cap314)) 16 (.slice a303 ((List.filter is11 (PS.decs S_57)).length) cap304)) 18 (.bool true)) 19 (.tuple #[(ptr p20 0), (ptr m23 0)])) 20 (.agg #[(.int .i64 a), (.int .i64 b), (.int .i64 c), (.int .i64 d)])) 21 (.tuple #[(ptr p20 0), (ptr m23 0)])) 22 (ptr p20 0)) 23 (ptr m23 0)) 24 (.tuple #[(ptr p34 0), (ptr m37 0)])) 25 (.agg #[(.int .i64 a), (.int .i64 b), (.int .i64 c), (.int .i64 d)])) 26 (.tuple #[(ptr p34 0), (ptr m37 0)])) 27 (ptr p34 0)) 28 (ptr m37 0)) 29 (.agg #[(.int .i64 1), (.int .i64 1)])) 30 (.int .i64 (k_56 : Int))) 31 (.slice a62 xs.length cap63)) 32 (.int .i64 (xs.length : Int))) 33 (.bool (decide ((k_56 : Int) < (xs.length : Int))))) 34 (.bool (decide ((k_56 : Int) < (xs.length : Int))))) 35 (.int .i64 (k_56 : Int))) 36 (.bool (decide ((k_56 : Int) < 60)))) 37 (.bool (decide ((k_56 : Int) < 60)))) 63 (ptr p20 0)) 64 (.slice a219 ((PS.decs S_57).length) cap220)) 65 (.int .i64 (((PS.decs S_57).length : Nat) : Int))) 66 (.int .i64 (k_230 : Int))) 67 (.bool (decide ((k_230 : Int) < (((PS.decs S_57).length : Nat) : Int))))) 79 (ptr p34 0)) 80 (.slice a303 ((List.filter is11 (PS.decs S_57)).length) cap304)) 81 (.slice a303 ((List.filter is11 (PS.decs S_57)).length) cap304)) 82 (.int .i64 (((List.filter is11 (PS.decs S_57)).length : Nat) : Int))) 83 (.slice a313 ((List.filter is11 (PS.decs S_57)).length) cap314)) 84 (.int .i64 (((List.filter is11 (PS.decs S_57)).length : Nat) : Int))) 85 (.bool ((((List.filter is11 (PS.decs S_57)).length : Nat) : Int) != (((List.filter is11 (PS.decs S_57)).length : Nat) : Int)))) 86 (.bool ((((List.filter is11 (PS.decs S_57)).length : Nat) : Int) != (((List.filter is11 (PS.decs S_57)).length : Nat) : Int)))) 87 (ptr p20 0)) 88 (.agg #[(.int .i64 1), (.int .i64 1)])) 89 (.int .i64 (PS.tier S_57 (1, 1)))) 90 (ptr p34 0)) 91 (.agg #[(.int .i64 1), (.int .i64 1)])) 92 (.int .i64 (PS.tier O_58 (1, 1)))) 93 (.bool ((PS.tier S_57 (1, 1)) != (PS.tier O_58 (1, 1))))) 94 (.bool ((PS.tier S_57 (1, 1)) != (PS.tier O_58 (1, 1))))) 95 (.slice a303 ((List.filter is11 (PS.decs S_57)).length) cap304)) 96 (.int .i64 (((List.filter is11 (PS.decs S_57)).length : Nat) : Int))) 97 (.int .i64 (k_ : Int)) ∧ mks (σ0 0) = [] ∧ Step w R [] w_ R364 [] ∧ k_ ≤ (List.filter is11 (PS.decs S_57)).length ∧ m_ = (List.filter is11 (PS.decs S_57)).length - k_) (m := (List.filter is11 (PS.decs S_57)).length - 0) ?_ ?_
            · skip
              exact ⟨_, 0, (upd_of (upd_of (upd_of (upd_of (upd_of (upd_of (upd_of (upd_of (upd_of (upd_of (upd_of (upd_of (upd_of (upd_of (upd_of (upd_of (upd_of (upd_of (upd_of (upd_of (upd_of (upd_of (upd_of (upd_of (upd_of (upd_of (upd_of (upd_of (upd_of (upd_of (upd_of (upd_of (upd_of (upd_of (upd_of (upd_of (upd_of (upd_of (upd_of (upd_of (upd_of (upd_of (upd_of (upd_of (upd_of (upd_of (upd_of (upd_of (upd_of (upd_of (upd_of (upd_of (upd_of (upd_of rfl rfl) rfl) rfl) rfl) rfl) rfl) rfl) rfl) rfl) rfl) rfl) rfl) rfl) rfl) rfl) rfl) rfl) rfl) rfl) rfl) rfl) rfl) rfl) rfl) rfl) rfl) rfl) rfl) rfl) rfl) rfl) rfl) rfl) rfl) rfl) rfl) rfl) rfl) rfl) rfl) rfl) rfl) rfl) rfl) rfl) rfl) rfl) rfl) rfl) rfl) rfl) rfl) rfl) rfl), hmk223, (hst368.keepN 0 rfl), (by omega), rfl⟩
            · skip
              rintro m389 σ_ w384 ⟨s387, k_388, rfl, hmk382, hst383, hf386, rfl⟩
              refine W_seq ?_
              refine W_region_lit ?_
              refine L_val (v := (.bool (decide ((k_388 : Int) < (((List.filter is11 (PS.decs S_57)).length : Nat) : Int))))) (w' := w384) rfl rfl rfl (by kernel_rfl) ?_
              refine L_nil ?_
              refine W_seq ?_
              rcases Bool.eq_false_or_eq_true (decide ((k_388 : Int) < (((List.filter is11 (PS.decs S_57)).length : Nat) : Int))) with c390 | c390
              · skip
                have q391 := of_decide_eq_true c390
                refine W_cond_true (by show Value.bool _ = _; exact congrArg Value.bool c390) ?_
                refine W_skip ?_
                refine W_seq ?_
                refine W_block ?_
                refine W_seq ?_
                refine W_region_lit ?_
                refine L_val (v := (.int .i64 (k_388 : Int))) (w' := w384) rfl rfl rfl rfl ?_
                refine L_val (v := (.int .i64 (k_388 : Int))) (w' := w384) rfl rfl rfl rfl ?_
                refine L_nil ?_
                refine W_seq ?_
                refine W_region_draw [] (fun w => Le R364 (hp w)) hmix (by decide +kernel) (fun _ _ h => h) ?_
                have hst393 := hst383.draws (w384.drawn + 1)
                generalize draws w384 (w384.drawn + 1) = w392 at hst393 ⊢
                refine LA_takeP (v := (.slice a303 ((List.filter is11 (PS.decs S_57)).length) cap304)) 0 rfl rfl rfl (by decide +kernel) (by decide +kernel) (by decide +kernel) (by decide +kernel) (fun _ _ _ h => h) (Want.plain rfl) (fun u395 => rfl) (fun _ => hst393.rle') ?_
                refine LA_takeP (v := (.int .i64 (k_388 : Int))) 1 rfl rfl rfl (by decide +kernel) (by decide +kernel) (by decide +kernel) (by decide +kernel) (fun _ _ _ h => h) (Want.plain rfl) (fun u398 => rfl) (fun _ => hst393.rle') ?_
                obtain ⟨b403, off404, cap405, cs406, T407, fz408, e409, hc410, hb411, he412⟩ := hrd294.open (by omega)
                cases e409
                obtain ⟨cl413, hs414, hr415⟩ := he412.at k_388 (by omega)
                obtain ⟨d416, hd417⟩ : ∃ d_, d_ = ((List.filter is11 (PS.decs S_57))[k_388]'(by omega)) := ⟨_, rfl⟩
                rw [← hd417] at hr415
                obtain rfl := tyDec_open hr415
                refine LA_takeP (v := (ptr b403 (off404 + k_388 * 4))) 2 rfl rfl rfl (by decide +kernel) (by decide +kernel) (by decide +kernel) (by decide +kernel) (fun _ _ _ h => h) (Want.plain rfl) (fun u401 => (x_indexAddr' rfl sl_36 ti_49 rfl rfl (by omega))) (fun _ => hst393.rle') ?_
                refine LA_take (v := (.agg #[(.int .i64 d416.pl.1), (.int .i64 d416.pl.2), (.int .i64 d416.tier), (.string d416.reason)])) 3 rfl rfl rfl (by decide +kernel) (by decide +kernel) (by decide +kernel) (by decide +kernel) (by decide +kernel) (fun _ _ _ h => h) (Want.plain rfl) (fun u419 hF420 => (x_load rfl rfl (run_loadVar_agg ti_49 ((Le.trans hle351 (Le.trans hle367 hF420)) _ _ hb411) hs414 rfl))) hst393.rle' ?_
                refine LA_takeP (v := (.slice a313 ((List.filter is11 (PS.decs S_57)).length) cap314)) 4 rfl rfl rfl (by decide +kernel) (by decide +kernel) (by decide +kernel) (by decide +kernel) (fun _ _ _ h => h) (Want.plain rfl) (fun u422 => rfl) (fun _ => hst393.rle') ?_
                refine LA_takeP (v := (.int .i64 (k_388 : Int))) 5 rfl rfl rfl (by decide +kernel) (by decide +kernel) (by decide +kernel) (by decide +kernel) (fun _ _ _ h => h) (Want.plain rfl) (fun u425 => rfl) (fun _ => hst393.rle') ?_
                obtain ⟨b430, off431, cap432, cs433, T434, fz435, e436, hc437, hb438, he439⟩ := hrd273.open (by omega)
                cases e436
                obtain ⟨cl440, hs441, hr442⟩ := he439.at k_388 (by omega)
                rw [← hd417] at hr442
                obtain rfl := tyDec_open hr442
                refine LA_takeP (v := (ptr b430 (off431 + k_388 * 4))) 6 rfl rfl rfl (by decide +kernel) (by decide +kernel) (by decide +kernel) (by decide +kernel) (fun _ _ _ h => h) (Want.plain rfl) (fun u428 => (x_indexAddr' rfl sl_36 ti_49 rfl rfl (by omega))) (fun _ => hst393.rle') ?_
                refine LA_take (v := (.agg #[(.int .i64 d416.pl.1), (.int .i64 d416.pl.2), (.int .i64 d416.tier), (.string d416.reason)])) 7 rfl rfl rfl (by decide +kernel) (by decide +kernel) (by decide +kernel) (by decide +kernel) (by decide +kernel) (fun _ _ _ h => h) (Want.plain rfl) (fun u444 hF445 => (x_load rfl rfl (run_loadVar_agg ti_49 ((Le.trans hle280 (Le.trans hle290 (Le.trans hle351 (Le.trans hle367 hF445)))) _ _ hb438) hs441 rfl))) hst393.rle' ?_
                refine LA_takeP (v := (.bool false)) 8 rfl rfl rfl (by decide +kernel) (by decide +kernel) (by decide +kernel) (by decide +kernel) (fun _ _ _ h => h) (Want.plain rfl) (fun u447 => (x_neq49 rfl rfl rfl)) (fun _ => hst393.rle') ?_
                refine LA_done (by decide +kernel) ?_
                refine W_cond_false (by show Value.bool _ = _; exact congrArg Value.bool rfl) ?_
                refine W_skip ?_
                refine W_region_lit ?_
                refine L_val (v := (.int .i64 ((k_388 + 1 : Nat) : Int))) (w' := w392) rfl rfl rfl (x_add_nat rfl rfl rfl (by omega)) ?_
                refine L_val (v := (.int .i64 ((k_388 + 1 : Nat) : Int))) (w' := w392) rfl rfl rfl rfl ?_
                refine L_nil ?_
                refine ⟨(List.filter is11 (PS.decs S_57)).length - (k_388 + 1), by first | omega | (simp only [List.length_append, List.length_cons, List.length_nil]; omega), ?_⟩
                exact ⟨_, (k_388 + 1), (upd_of (upd_of (upd_of (upd_of (upd_of (upd_of (upd_of (upd_of (upd_of (upd_of (upd_of (upd_of (upd_of (upd_of (upd_of (upd_of (upd_of (upd_of (upd_of (upd_of (upd_of (upd_of (upd_of (upd_of (upd_of (upd_of (upd_of (upd_of (upd_of (upd_of (upd_of (upd_of (upd_of (upd_of (upd_of (upd_of (upd_of (upd_of (upd_of (upd_of (upd_of (upd_of (upd_of (upd_of (upd_of (upd_of (upd_of (upd_of (upd_of (upd_of (upd_of (upd_of (upd_of (upd_of rfl rfl) rfl) rfl) rfl) rfl) rfl) rfl) rfl) rfl) rfl) rfl) rfl) rfl) rfl) rfl) rfl) rfl) rfl) rfl) rfl) rfl) rfl) rfl) rfl) rfl) rfl) rfl) rfl) rfl) rfl) rfl) rfl) rfl) rfl) rfl) rfl) rfl) rfl) rfl) rfl) rfl) rfl) rfl) rfl) rfl) rfl) rfl) rfl) rfl) rfl) rfl) rfl) rfl) rfl), hmk382, hst393, (by omega), rfl⟩
              · skip
                have q449 := of_decide_eq_false c390
                refine W_cond_false (by show Value.bool _ = _; exact congrArg Value.bool c390) ?_
                refine W_exit ?_
                refine W_seq ?_
                refine W_region_lit ?_
                refine L_val (v := (.bool true)) (w' := w384) rfl rfl rfl rfl ?_
                refine L_val (v := (.bool true)) (w' := w384) rfl rfl rfl rfl ?_
                refine L_nil ?_
                refine W_ret ?_
                refine ⟨_, _, res_run (rs := [.tmp 4]) (vs := [(.bool true)]) Tryd.results5 (.cons (.tmp rfl) .nil) hmk382, ?_⟩
                exact ⟨_, _, [], rfl, hst383.keepN 0 rfl, rfl, rfl⟩
    · skip
      have q450 := of_decide_eq_false c66
      refine L_unwanted rfl rfl rfl rfl (by rw [c66]; rfl) rfl rfl ?_
      refine L_unwanted rfl rfl rfl rfl (by rw [c66]; rfl) rfl rfl ?_
      refine L_val (v := (.bool false)) (w' := w46) rfl rfl rfl (x_pick rfl rfl (by rw [c66]; rfl)) ?_
      refine L_nil ?_
      refine W_cond_false (by show Value.bool _ = _; exact congrArg Value.bool rfl) ?_
      refine W_exit ?_
      refine W_seq ?_
      refine W_region_lit ?_
      refine L_val (v := (.slice none 0 0)) (w' := w46) rfl rfl rfl rfl ?_
      refine L_nil ?_
      refine W_seq ?_
      refine W_seq ?_
      have ho452 := OwnL.empty tyDec 49 R55
      have hst453 := hst45.nothing
      have hdl_ := Prof.decs_le hi48
      refine W_region_lit ?_
      refine L_val (v := (ptr p20 0)) (w' := w46) rfl rfl rfl rfl ?_
      have hst454 := (hst453.front 1 rfl rfl)
      refine L_callS [cS59] [non, cO60, one b39 (.cells #[(.int .i64 1), (.int .i64 1)] 43 (0, 0))] hst454 rfl rfl rfl (x_call (vs := #[(ptr p20 0)]) rfl rfl (by kernel_rfl) ent_17) (Decisions_spec (hst454.sats.take 1 rfl) hi48 (by have h_ := hf52; omega)) (fun v455 w456 R457 L458 hp459 hle460 hst461 => ?_)
      have hm462 := OwnL.mono ho452 hle460
      have hm463 := Prof.lift hi49 hle460
      obtain ⟨c464, c465, rfl, ho466, hp467⟩ := hp459
      have hprof468 : Prof R457 p20 S_57 c465 := hp467
      obtain ⟨R469, hst470, hle471, hc472⟩ := Step.frz hst461
      have hm473 := Prof.lift hprof468 hle471
      have hm474 := OwnL.mono hm462 hle471
      have hm475 := Prof.lift hm463 hle471
      have hrd476 := OwnL.freeze ho466 hle471 hc472
      obtain ⟨a477, cap478, e479, hc480⟩ := hrd476.shape
      subst e479
      refine L_val (v := (.int .i64 (((PS.decs S_57).length : Nat) : Int))) (w' := w456) rfl rfl rfl (x_len_slice rfl sl_36 rfl) ?_
      refine L_val (v := (.int .i64 0)) (w' := w456) rfl rfl rfl rfl ?_
      refine L_nil ?_
      refine W_block ?_
      refine W_loop (I := fun σ w_ m_ => ∃ (σ0 : Fr) (k_ : Nat) (vo : Value) (co : Hp), σ = upd (upd (upd (upd (upd (upd (upd (upd (upd (upd (upd (upd (upd (upd (upd (upd (upd (upd (upd (upd (upd (upd (upd (upd (upd (upd (upd (upd (upd (upd (upd σ0 0 (.agg #[(.int .i64 a), (.int .i64 b), (.int .i64 c), (.int .i64 d)])) 1 (.slice a62 xs.length cap63)) 2 (ptr b1 0)) 5 (.bool true)) 6 (ptr p20 0)) 8 (ptr p34 0)) 10 (ptr b39 0)) 11 (.int .i64 (k_56 : Int))) 13 vo) 18 (.bool true)) 19 (.tuple #[(ptr p20 0), (ptr m23 0)])) 20 (.agg #[(.int .i64 a), (.int .i64 b), (.int .i64 c), (.int .i64 d)])) 21 (.tuple #[(ptr p20 0), (ptr m23 0)])) 22 (ptr p20 0)) 23 (ptr m23 0)) 24 (.tuple #[(ptr p34 0), (ptr m37 0)])) 25 (.agg #[(.int .i64 a), (.int .i64 b), (.int .i64 c), (.int .i64 d)])) 26 (.tuple #[(ptr p34 0), (ptr m37 0)])) 27 (ptr p34 0)) 28 (ptr m37 0)) 29 (.agg #[(.int .i64 1), (.int .i64 1)])) 30 (.int .i64 (k_56 : Int))) 31 (.slice a62 xs.length cap63)) 32 (.int .i64 (xs.length : Int))) 33 (.bool (decide ((k_56 : Int) < (xs.length : Int))))) 34 (.bool (decide ((k_56 : Int) < (xs.length : Int))))) 37 (.bool false)) 63 (ptr p20 0)) 64 (.slice a477 ((PS.decs S_57).length) cap478)) 65 (.int .i64 (((PS.decs S_57).length : Nat) : Int))) 66 (.int .i64 (k_ : Int)) ∧ mks (σ0 0) = [] ∧ Step w R [] w_ R469 [c465, cO60, one b39 (.cells #[(.int .i64 1), (.int .i64 1)] 43 (0, 0)), co] ∧ OwnL tyDec 49 R469 vo (List.filter is11 (List.take k_ (PS.decs S_57))) co ∧ k_ ≤ (PS.decs S_57).length ∧ m_ = (PS.decs S_57).length - k_) (m := (PS.decs S_57).length - 0) ?_ ?_
      · skip
        exact ⟨_, 0, (.slice none 0 0), non, (upd_of (upd_of (upd_of (upd_of (upd_of (upd_of (upd_of (upd_of (upd_of (upd_of (upd_of (upd_of (upd_of (upd_of (upd_of (upd_of (upd_of (upd_of (upd_of (upd_of (upd_of (upd_of (upd_of (upd_of (upd_of (upd_of (upd_of (upd_of (upd_of (upd_of (upd_of rfl rfl) rfl) rfl) rfl) rfl) rfl) rfl) rfl) rfl) rfl) rfl) rfl) rfl) rfl) rfl) rfl) rfl) rfl) rfl) rfl) rfl) rfl) rfl) rfl) rfl) rfl) rfl) rfl) rfl) rfl) rfl), hmk44, ((((hst470.front 1 rfl rfl).front 3 rfl rfl).front 3 rfl rfl).front 3 rfl rfl), hm474, (by omega), rfl⟩
      · skip
        rintro m491 σ_ w483 ⟨s487, k_488, vo489, co490, rfl, hmk481, hst482, hi485, hf486, rfl⟩
        refine W_seq ?_
        refine W_region_lit ?_
        refine L_val (v := (.bool (decide ((k_488 : Int) < (((PS.decs S_57).length : Nat) : Int))))) (w' := w483) rfl rfl rfl (by kernel_rfl) ?_
        refine L_nil ?_
        refine W_seq ?_
        rcases Bool.eq_false_or_eq_true (decide ((k_488 : Int) < (((PS.decs S_57).length : Nat) : Int))) with c492 | c492
        · skip
          have q493 := of_decide_eq_true c492
          refine W_cond_true (by show Value.bool _ = _; exact congrArg Value.bool c492) ?_
          refine W_skip ?_
          refine W_seq ?_
          refine W_block ?_
          refine W_seq ?_
          refine W_region_lit ?_
          obtain ⟨b494, off495, cap496, cs497, T498, fz499, e500, hc501, hb502, he503⟩ := hrd476.open (by omega)
          cases e500
          obtain ⟨cl504, hs505, hr506⟩ := he503.at k_488 (by omega)
          obtain ⟨d507, hd508⟩ : ∃ d_, d_ = ((PS.decs S_57)[k_488]'(by omega)) := ⟨_, rfl⟩
          rw [← hd508] at hr506
          obtain rfl := tyDec_open hr506
          refine L_val (v := (ptr b494 (off495 + k_488 * 4))) (w' := w483) rfl rfl rfl (x_indexAddr' rfl sl_36 ti_49 rfl rfl (by omega)) ?_
          refine L_val (v := (.agg #[(.int .i64 d507.pl.1), (.int .i64 d507.pl.2), (.int .i64 d507.tier), (.string d507.reason)])) (w' := w483) rfl rfl rfl (x_load rfl rfl (run_loadVar_agg ti_49 (hst482.rle' _ _ hb502) hs505 rfl)) ?_
          refine L_new hst482 (v := fun b => ptr b 0) (ob := .cells #[(.int .i64 0), (.int .i64 0), (.int .i64 0), (.string ⟨#[]⟩)] 49 (0, 0)) rfl rfl rfl (by kernel_rfl) (fun b509 w510 hst511 => ?_)
          refine L_store hst511 0 ti_49 rfl rfl rfl rfl rfl rfl rfl rfl rfl rfl rfl (fun w512 hst513 => ?_)
          change Step _ _ _ _ _ [one b509 (.cells #[(.int .i64 d507.pl.1), (.int .i64 d507.pl.2), (.int .i64 d507.tier), (.string d507.reason)] 49 (0, 0)), c465, cO60, one b39 (.cells #[(.int .i64 1), (.int .i64 1)] 43 (0, 0)), co490] at hst513
          refine L_nil ?_
          refine W_seq ?_
          have hfl_ := filt_len (PS.decs S_57) k_488
          refine W_region_lit ?_
          refine L_val (v := (ptr b509 0)) (w' := w512) rfl rfl rfl (by kernel_rfl) ?_
          refine L_val (v := (.agg #[(.int .i64 d507.pl.1), (.int .i64 d507.pl.2)])) (w' := w512) rfl rfl rfl (x_load rfl rfl (run_loadVar_agg ti_43 (hst513.blk (i := 0) rfl) (l := [(.int .i64 d507.pl.1), (.int .i64 d507.pl.2)]) rfl rfl)) ?_
          refine L_val (v := (.agg #[(.int .i64 1), (.int .i64 1)])) (w' := w512) rfl rfl rfl (x_load rfl rfl (run_loadVar_agg ti_43 (hst513.blk (i := 3) rfl) (l := [(.int .i64 1), (.int .i64 1)]) rfl rfl)) ?_
          refine L_val (v := (.bool ((d507.pl.1 == 1) && (d507.pl.2 == 1)))) (w' := w512) rfl rfl rfl (x_eq43 rfl rfl rfl) ?_
          refine L_nil ?_
          rcases Bool.eq_false_or_eq_true ((d507.pl.1 == 1) && (d507.pl.2 == 1)) with c514 | c514
          · skip
            refine W_cond_true (by show Value.bool _ = _; exact congrArg Value.bool c514) ?_
            refine W_region_lit ?_
            refine L_val (v := vo489) (w' := w512) rfl rfl rfl rfl ?_
            refine L_val (v := (.agg #[(.int .i64 d507.pl.1), (.int .i64 d507.pl.2), (.int .i64 d507.tier), (.string d507.reason)])) (w' := w512) rfl rfl rfl (x_load rfl rfl (run_loadVar_agg ti_49 (hst513.blk (i := 0) rfl) (l := [(.int .i64 d507.pl.1), (.int .i64 d507.pl.2), (.int .i64 d507.tier), (.string d507.reason)]) rfl rfl)) ?_
            refine L_new hst513 (v := fun b => .slice (some ⟨b, 0, none⟩) 1 1) (ob := .cells #[(.int .i64 d507.pl.1), (.int .i64 d507.pl.2), (.int .i64 d507.tier), (.string d507.reason)] 49 (0, 0)) rfl rfl rfl (by kernel_rfl) (fun b515 w516 hst517 => ?_)
            refine L_append hst517 (t := 36) (e := 49) (ys := [Dec.mk d507.pl d507.tier d507.reason]) (src := [(.int .i64 d507.pl.1), (.int .i64 d507.pl.2), (.int .i64 d507.tier), (.string d507.reason)]) 5 rfl rfl rfl rfl rfl rfl sl_36 ti_49 rfl rfl rfl hi485 (src_own (hst517.blk (i := 0) rfl)) (Encs.one (tyDec_mk _ _ _ _ _)) rfl (by first | omega | (simp only [List.length_append, List.length_cons, List.length_nil]; omega)) (by first | (simp only [maxLen]; omega) | (simp only [List.length_append, List.length_cons, List.length_nil, maxLen]; omega)) (fun v518 c519 w520 ho521 hst522 => ?_)
            refine L_val (v := v518) (w' := w520) rfl rfl rfl rfl ?_
            refine L_nil ?_
            refine W_region_lit ?_
            refine L_val (v := (.int .i64 ((k_488 + 1 : Nat) : Int))) (w' := w520) rfl rfl rfl (x_add_nat rfl rfl rfl (by omega)) ?_
            refine L_val (v := (.int .i64 ((k_488 + 1 : Nat) : Int))) (w' := w520) rfl rfl rfl rfl ?_
            refine L_nil ?_
            refine ⟨(PS.decs S_57).length - (k_488 + 1), by first | omega | (simp only [List.length_append, List.length_cons, List.length_nil]; omega), ?_⟩
            exact ⟨_, (k_488 + 1), v518, c519, (upd_of (upd_of (upd_of (upd_of (upd_of (upd_of (upd_of (upd_of (upd_of (upd_of (upd_of (upd_of (upd_of (upd_of (upd_of (upd_of (upd_of (upd_of (upd_of (upd_of (upd_of (upd_of (upd_of (upd_of (upd_of (upd_of (upd_of (upd_of (upd_of (upd_of (upd_of rfl rfl) rfl) rfl) rfl) rfl) rfl) rfl) rfl) rfl) rfl) rfl) rfl) rfl) rfl) rfl) rfl) rfl) rfl) rfl) rfl) rfl) rfl) rfl) rfl) rfl) rfl) rfl) rfl) rfl) rfl) rfl), hmk481, ((((hst522.front 5 rfl rfl).front 5 rfl rfl).front 5 rfl rfl).keepN 4 rfl), (by rw [filt_yes' (by omega) hd508 c514]; exact ho521), (by omega), rfl⟩
          · skip
            refine W_cond_false (by show Value.bool _ = _; exact congrArg Value.bool c514) ?_
            refine W_skip ?_
            refine W_region_lit ?_
            refine L_val (v := (.int .i64 ((k_488 + 1 : Nat) : Int))) (w' := w512) rfl rfl rfl (x_add_nat rfl rfl rfl (by omega)) ?_
            refine L_val (v := (.int .i64 ((k_488 + 1 : Nat) : Int))) (w' := w512) rfl rfl rfl rfl ?_
            refine L_nil ?_
            refine ⟨(PS.decs S_57).length - (k_488 + 1), by first | omega | (simp only [List.length_append, List.length_cons, List.length_nil]; omega), ?_⟩
            exact ⟨_, (k_488 + 1), vo489, co490, (upd_of (upd_of (upd_of (upd_of (upd_of (upd_of (upd_of (upd_of (upd_of (upd_of (upd_of (upd_of (upd_of (upd_of (upd_of (upd_of (upd_of (upd_of (upd_of (upd_of (upd_of (upd_of (upd_of (upd_of (upd_of (upd_of (upd_of (upd_of (upd_of (upd_of (upd_of rfl rfl) rfl) rfl) rfl) rfl) rfl) rfl) rfl) rfl) rfl) rfl) rfl) rfl) rfl) rfl) rfl) rfl) rfl) rfl) rfl) rfl) rfl) rfl) rfl) rfl) rfl) rfl) rfl) rfl) rfl) rfl), hmk481, (((((hst513.front 4 rfl rfl).front 4 rfl rfl).front 4 rfl rfl).front 4 rfl rfl).keepN 4 rfl), (by rw [filt_no' (by omega) hd508 c514]; exact hi485), (by omega), rfl⟩
        · skip
          have q523 := of_decide_eq_false c492
          refine W_cond_false (by show Value.bool _ = _; exact congrArg Value.bool c492) ?_
          refine W_exit ?_
          refine W_seq ?_
          have hk_ : k_488 = (PS.decs S_57).length := by omega
          have ho524 : OwnL tyDec 49 R469 vo489 (List.filter is11 (PS.decs S_57)) co490 := by have h_ := hi485; rw [hk_, List.take_length] at h_; exact h_
          obtain ⟨R525, hst526, hle527, hc528⟩ := Step.frz (hst482.front 3 rfl rfl)
          have hm529 := Prof.lift hm473 hle527
          have hm530 := Prof.lift hm475 hle527
          have hrd531 := OwnL.freeze ho524 hle527 hc528
          have hfl_ : (List.filter is11 (PS.decs S_57)).length ≤ (PS.decs S_57).length := List.length_filter_le _ _
          refine W_region_lit ?_
          refine L_val (v := (ptr p34 0)) (w' := w483) rfl rfl rfl rfl ?_
          have hst532 := (hst526.front 1 rfl rfl)
          refine L_callS [cO60] [c465, one b39 (.cells #[(.int .i64 1), (.int .i64 1)] 43 (0, 0))] hst532 rfl rfl rfl (x_call (vs := #[(ptr p34 0)]) rfl rfl (by kernel_rfl) ent_17) (Decisions_spec (hst532.sats.take 1 rfl) hm530 (by have h_ := hf53; omega)) (fun v533 w534 R535 L536 hp537 hle538 hst539 => ?_)
          have hm540 := Prof.lift hm529 hle538
          obtain ⟨c541, c542, rfl, ho543, hp544⟩ := hp537
          have hprof545 : Prof R535 p34 O_58 c542 := hp544
          rw [hf51.decs] at ho543
          obtain ⟨R546, hst547, hle548, hc549⟩ := Step.frz hst539
          have hm550 := Prof.lift hprof545 hle548
          have hm551 := Prof.lift hm540 hle548
          have hrd552 := OwnL.freeze ho543 hle548 hc549
          refine L_val (v := v533) (w' := w534) rfl rfl rfl rfl ?_
          refine L_nil ?_
          refine W_seq ?_
          refine W_seq ?_
          refine W_region_draw [] (fun w => Le R546 (hp w) ∧ Le (one b39 (.cells #[(.int .i64 1), (.int .i64 1)] 43 (0, 0))) (hp w)) hmix (by decide +kernel) (fun _ _ h => h) ?_
          have hst554 := hst547.draws (w534.drawn + 1)
          generalize draws w534 (w534.drawn + 1) = w553 at hst554 ⊢
          refine LA_takeP (v := v533) 0 rfl rfl rfl (by decide +kernel) (by decide +kernel) (by decide +kernel) (by decide +kernel) (fun _ _ _ h => h) (Want.plain rfl) (fun u556 => rfl) (fun _ => ⟨hst554.rle', hst554.get (i := 2) rfl⟩) ?_
          obtain ⟨a561, cap562, e563, hc564⟩ := hrd552.shape
          subst e563
          refine LA_take (v := (.int .i64 (((List.filter is11 (PS.decs S_57)).length : Nat) : Int))) 1 rfl rfl rfl (by decide +kernel) (by decide +kernel) (by decide +kernel) (by decide +kernel) (by decide +kernel) (fun _ _ _ h => h) (Want.plain rfl) (fun u559 hF560 => (x_len_slice rfl sl_36 rfl)) ⟨hst554.rle', hst554.get (i := 2) rfl⟩ ?_
          refine LA_takeP (v := vo489) 2 rfl rfl rfl (by decide +kernel) (by decide +kernel) (by decide +kernel) (by decide +kernel) (fun _ _ _ h => h) (Want.plain rfl) (fun u566 => rfl) (fun _ => ⟨hst554.rle', hst554.get (i := 2) rfl⟩) ?_
          obtain ⟨a571, cap572, e573, hc574⟩ := hrd531.shape
          subst e573
          refine LA_take (v := (.int .i64 (((List.filter is11 (PS.decs S_57)).length : Nat) : Int))) 3 rfl rfl rfl (by decide +kernel) (by decide +kernel) (by decide +kernel) (by decide +kernel) (by decide +kernel) (fun _ _ _ h => h) (Want.plain rfl) (fun u569 hF570 => (x_len_slice rfl sl_36 rfl)) ⟨hst554.rle', hst554.get (i := 2) rfl⟩ ?_
          refine LA_takeP (v := (.bool ((((List.filter is11 (PS.decs S_57)).length : Nat) : Int) != (((List.filter is11 (PS.decs S_57)).length : Nat) : Int)))) 4 rfl rfl rfl (by decide +kernel) (by decide +kernel) (by decide +kernel) (by decide +kernel) (fun _ _ _ h => h) (Want.plain rfl) (fun u576 => (by kernel_rfl)) (fun _ => ⟨hst554.rle', hst554.get (i := 2) rfl⟩) ?_
          refine LA_takeP (v := (.bool ((((List.filter is11 (PS.decs S_57)).length : Nat) : Int) != (((List.filter is11 (PS.decs S_57)).length : Nat) : Int)))) 5 rfl rfl rfl (by decide +kernel) (by decide +kernel) (by decide +kernel) (by decide +kernel) (fun _ _ _ h => h) (Want.plain rfl) (fun u579 => rfl) (fun _ => ⟨hst554.rle', hst554.get (i := 2) rfl⟩) ?_
          have c582 : ((((List.filter is11 (PS.decs S_57)).length : Nat) : Int) != (((List.filter is11 (PS.decs S_57)).length : Nat) : Int)) = false := bne_self_eq_false _
          refine LA_takeP (v := (ptr p20 0)) 6 rfl rfl rfl (by decide +kernel) (by decide +kernel) (by decide +kernel) (by decide +kernel) (fun _ _ _ h => h) (Want.of rfl rfl rfl rfl (by rw [c582]; rfl)) (fun u585 => rfl) (fun _ => ⟨hst554.rle', hst554.get (i := 2) rfl⟩) ?_
          refine LA_take (v := (.agg #[(.int .i64 1), (.int .i64 1)])) 7 rfl rfl rfl (by decide +kernel) (by decide +kernel) (by decide +kernel) (by decide +kernel) (by decide +kernel) (fun _ _ _ h => h) (Want.of rfl rfl rfl rfl (by rw [c582]; rfl)) (fun u588 hF589 => (x_load rfl rfl (run_loadVar_agg ti_43 (hF589.2 _ _ (one_self _ _)) (l := [(.int .i64 1), (.int .i64 1)]) rfl rfl))) ⟨hst554.rle', hst554.get (i := 2) rfl⟩ ?_
          refine LA_takeP (v := (ptr p34 0)) 9 rfl rfl rfl (by decide +kernel) (by decide +kernel) (by decide +kernel) (by decide +kernel) (fun _ _ _ h => h) (Want.of rfl rfl rfl rfl (by rw [c582]; rfl)) (fun u593 => rfl) (fun _ => ⟨hst554.rle', hst554.get (i := 2) rfl⟩) ?_
          refine LA_take (v := (.agg #[(.int .i64 1), (.int .i64 1)])) 10 rfl rfl rfl (by decide +kernel) (by decide +kernel) (by decide +kernel) (by decide +kernel) (by decide +kernel) (fun _ _ _ h => h) (Want.of rfl rfl rfl rfl (by rw [c582]; rfl)) (fun u598 hF599 => (x_load rfl rfl (run_loadVar_agg ti_43 (hF599.2 _ _ (one_self _ _)) (l := [(.int .i64 1), (.int .i64 1)]) rfl rfl))) ⟨hst554.rle', hst554.get (i := 2) rfl⟩ ?_
          refine LA_all [8] (by decide +kernel) (by simp) ?_
          intro i_ hi_
          simp only [List.mem_cons, List.not_mem_nil, or_false] at hi_
          subst hi_
          have hst603 := (hst554.front 1 rfl rfl)
          refine One_callS (i := 8) [c465] [c542, one b39 (.cells #[(.int .i64 1), (.int .i64 1)] 43 (0, 0))] hst603 rfl rfl rfl (Want.of rfl rfl rfl rfl (by rw [c582]; rfl)) (x_call (vs := #[(ptr p20 0), (.agg #[(.int .i64 1), (.int .i64 1)])]) rfl rfl (by kernel_rfl) ent_18) (Tier_spec (s := S_57) (1, 1)  (hst603.sats.take 1 rfl) hm551 (hT.mono (Le.trans hle10 (Le.trans hle18 (Le.trans hle31 (Le.trans hle47 (Le.trans hle460 (Le.trans hle471 (Le.trans hle527 (Le.trans hle538 hle548))))))))) (by have h_ := hf52; omega)) (fun v604 w605 R606 L607 hp608 hle609 hst610 => ?_)
          have hm611 := Prof.lift hm550 hle609
          obtain ⟨c612, hv613, rfl, hp614⟩ := hp608
          subst hv613
          have hprof615 : Prof R606 p20 S_57 c612 := hp614
          refine ⟨(fun _ => ⟨(Le.trans hle609 hst610.rle'), hst610.get (i := 2) rfl⟩), ?_⟩
          refine LA_all [11] (by decide +kernel) (by simp) ?_
          intro i_ hi_
          simp only [List.mem_cons, List.not_mem_nil, or_false] at hi_
          subst hi_
          have hst619 := (hst610.front 1 rfl rfl)
          refine One_callS (i := 11) [c542] [c612, one b39 (.cells #[(.int .i64 1), (.int .i64 1)] 43 (0, 0))] hst619 rfl rfl rfl (Want.of rfl rfl rfl rfl (by rw [c582]; rfl)) (x_call (vs := #[(ptr p34 0), (.agg #[(.int .i64 1), (.int .i64 1)])]) rfl rfl (by kernel_rfl) ent_18) (Tier_spec (s := O_58) (1, 1)  (hst619.sats.take 1 rfl) hm611 (hT.mono (Le.trans hle10 (Le.trans hle18 (Le.trans hle31 (Le.trans hle47 (Le.trans hle460 (Le.trans hle471 (Le.trans hle527 (Le.trans hle538 (Le.trans hle548 hle609)))))))))) (by have h_ := hf53; omega)) (fun v620 w621 R622 L623 hp624 hle625 hst626 => ?_)
          have hm627 := Prof.lift hprof615 hle625
          obtain ⟨c628, hv629, rfl, hp630⟩ := hp624
          subst hv629
          have hprof631 : Prof R622 p34 O_58 c628 := hp630
          refine ⟨(fun _ => ⟨(Le.trans hle609 (Le.trans hle625 hst626.rle')), hst626.get (i := 2) rfl⟩), ?_⟩
          refine LA_takeP (v := (.bool ((PS.tier S_57 (1, 1)) != (PS.tier O_58 (1, 1))))) 12 rfl rfl rfl (by decide +kernel) (by decide +kernel) (by decide +kernel) (by decide +kernel) (fun _ _ _ h => h) (Want.of rfl rfl rfl rfl (by rw [c582]; rfl)) (fun u633 => (by kernel_rfl)) (fun _ => ⟨(Le.trans hle609 (Le.trans hle625 hst626.rle')), hst626.get (i := 2) rfl⟩) ?_
          refine LA_takeP (v := (.bool ((PS.tier S_57 (1, 1)) != (PS.tier O_58 (1, 1))))) 13 rfl rfl rfl (by decide +kernel) (by decide +kernel) (by decide +kernel) (by decide +kernel) (fun _ _ _ h => h) (Want.plain rfl) (fun u636 => (x_pick rfl rfl (by rw [c582]; rfl))) (fun _ => ⟨(Le.trans hle609 (Le.trans hle625 hst626.rle')), hst626.get (i := 2) rfl⟩) ?_
          refine LA_done (by decide +kernel) ?_
          have c638 : ((PS.tier S_57 (1, 1)) != (PS.tier O_58 (1, 1))) = false := by rw [hf51.tier]; exact bne_self_eq_false _
          have q639 : (PS.tier S_57 (1, 1)) = (PS.tier O_58 (1, 1)) := by simpa using c638
          refine W_cond_false (by show Value.bool _ = _; exact congrArg Value.bool c638) ?_
          refine W_skip ?_
          refine W_seq ?_
          refine W_seq ?_
          refine W_region_lit ?_
          refine L_val (v := (.slice a561 ((List.filter is11 (PS.decs S_57)).length) cap562)) (w' := w621) rfl rfl rfl rfl ?_
          refine L_val (v := (.int .i64 (((List.filter is11 (PS.decs S_57)).length : Nat) : Int))) (w' := w621) rfl rfl rfl (x_len_slice rfl sl_36 rfl) ?_
          refine L_val (v := (.int .i64 0)) (w' := w621) rfl rfl rfl rfl ?_
          refine L_nil ?_
          refine W_block ?_
          refine W_loop (I := fun σ w_ m_ => ∃ (σ0 : Fr) (k_ : Nat), σ = upd (upd (upd (upd (upd (upd (upd (upd (upd (upd (upd (upd (upd (upd (upd (upd (upd (upd (upd (upd (upd (upd (upd (upd (upd (upd (upd (upd (upd (upd (upd (upd (upd (upd (upd (upd (upd (upd (upd (upd (upd (upd (upd (upd (upd (upd (upd (upd (upd (upd (upd (upd σ0 0 (.agg #[(.int .i64 a), (.int .i64 b), (.int .i64 c), (.int .i64 d)])) 1 (.slice a62 xs.length cap63)) 2 (ptr b1 0)) 5 (.bool true)) 6 (ptr p20 0)) 8 (ptr p34 0)) 10 (ptr b39 0)) 11 (.int .i64 (k_56 : Int))) 13 (.slice a571 ((List.filter is11 (PS.decs S_57)).length) cap572)) 16 (.slice a561 ((List.filter is11 (PS.decs S_57)).length) cap562)) 18 (.bool true)) 19 (.tuple #[(ptr p20 0), (ptr m23 0)])) 20 (.agg #[(.int .i64 a), (.int .i64 b), (.int .i64 c), (.int .i64 d)])) 21 (.tuple #[(ptr p20 0), (ptr m23 0)])) 22 (ptr p20 0)) 23 (ptr m23 0)) 24 (.tuple #[(ptr p34 0), (ptr m37 0)])) 25 (.agg #[(.int .i64 a), (.int .i64 b), (.int .i64 c), (.int .i64 d)])) 26 (.tuple #[(ptr p34 0), (ptr m37 0)])) 27 (ptr p34 0)) 28 (ptr m37 0)) 29 (.agg #[(.int .i64 1), (.int .i64 1)])) 30 (.int .i64 (k_56 : Int))) 31 (.slice a62 xs.length cap63)) 32 (.int .i64 (xs.length : Int))) 33 (.bool (decide ((k_56 : Int) < (xs.length : Int))))) 34 (.bool (decide ((k_56 : Int) < (xs.length : Int))))) 37 (.bool false)) 63 (ptr p20 0)) 64 (.slice a477 ((PS.decs S_57).length) cap478)) 65 (.int .i64 (((PS.decs S_57).length : Nat) : Int))) 66 (.int .i64 (k_488 : Int))) 67 (.bool (decide ((k_488 : Int) < (((PS.decs S_57).length : Nat) : Int))))) 79 (ptr p34 0)) 80 (.slice a561 ((List.filter is11 (PS.decs S_57)).length) cap562)) 81 (.slice a561 ((List.filter is11 (PS.decs S_57)).length) cap562)) 82 (.int .i64 (((List.filter is11 (PS.decs S_57)).length : Nat) : Int))) 83 (.slice a571 ((List.filter is11 (PS.decs S_57)).length) cap572)) 84 (.int .i64 (((List.filter is11 (PS.decs S_57)).length : Nat) : Int))) 85 (.bool ((((List.filter is11 (PS.decs S_57)).length : Nat) : Int) != (((List.filter is11 (PS.decs S_57)).length : Nat) : Int)))) 86 (.bool ((((List.filter is11 (PS.decs S_57)).length : Nat) : Int) != (((List.filter is11 (PS.decs S_57)).length : Nat) : Int)))) 87 (ptr p20 0)) 88 (.agg #[(.int .i64 1), (.int .i64 1)])) 89 (.int .i64 (PS.tier S_57 (1, 1)))) 90 (ptr p34 0)) 91 (.agg #[(.int .i64 1), (.int .i64 1)])) 92 (.int .i64 (PS.tier O_58 (1, 1)))) 93 (.bool ((PS.tier S_57 (1, 1)) != (PS.tier O_58 (1, 1))))) 94 (.bool ((PS.tier S_57 (1, 1)) != (PS.tier O_58 (1, 1))))) 95 (.slice a561 ((List.filter is11 (PS.decs S_57)).length) cap562)) 96 (.int .i64 (((List.filter is11 (PS.decs S_57)).length : Nat) : Int))) 97 (.int .i64 (k_ : Int)) ∧ mks (σ0 0) = [] ∧ Step w R [] w_ R622 [] ∧ k_ ≤ (List.filter is11 (PS.decs S_57)).length ∧ m_ = (List.filter is11 (PS.decs S_57)).length - k_) (m := (List.filter is11 (PS.decs S_57)).length - 0) ?_ ?_
          · skip
            exact ⟨_, 0, (upd_of (upd_of (upd_of (upd_of (upd_of (upd_of (upd_of (upd_of (upd_of (upd_of (upd_of (upd_of (upd_of (upd_of (upd_of (upd_of (upd_of (upd_of (upd_of (upd_of (upd_of (upd_of (upd_of (upd_of (upd_of (upd_of (upd_of (upd_of (upd_of (upd_of (upd_of (upd_of (upd_of (upd_of (upd_of (upd_of (upd_of (upd_of (upd_of (upd_of (upd_of (upd_of (upd_of (upd_of (upd_of (upd_of (upd_of (upd_of (upd_of (upd_of (upd_of (upd_of rfl rfl) rfl) rfl) rfl) rfl) rfl) rfl) rfl) rfl) rfl) rfl) rfl) rfl) rfl) rfl) rfl) rfl) rfl) rfl) rfl) rfl) rfl) rfl) rfl) rfl) rfl) rfl) rfl) rfl) rfl) rfl) rfl) rfl) rfl) rfl) rfl) rfl) rfl) rfl) rfl) rfl) rfl) rfl) rfl) rfl) rfl) rfl) rfl) rfl) rfl) rfl) rfl), hmk481, (hst626.keepN 0 rfl), (by omega), rfl⟩
          · skip
            rintro m647 σ_ w642 ⟨s645, k_646, rfl, hmk640, hst641, hf644, rfl⟩
            refine W_seq ?_
            refine W_region_lit ?_
            refine L_val (v := (.bool (decide ((k_646 : Int) < (((List.filter is11 (PS.decs S_57)).length : Nat) : Int))))) (w' := w642) rfl rfl rfl (by kernel_rfl) ?_
            refine L_nil ?_
            refine W_seq ?_
            rcases Bool.eq_false_or_eq_true (decide ((k_646 : Int) < (((List.filter is11 (PS.decs S_57)).length : Nat) : Int))) with c648 | c648
            · skip
              have q649 := of_decide_eq_true c648
              refine W_cond_true (by show Value.bool _ = _; exact congrArg Value.bool c648) ?_
              refine W_skip ?_
              refine W_seq ?_
              refine W_block ?_
              refine W_seq ?_
              refine W_region_lit ?_
              refine L_val (v := (.int .i64 (k_646 : Int))) (w' := w642) rfl rfl rfl rfl ?_
              refine L_val (v := (.int .i64 (k_646 : Int))) (w' := w642) rfl rfl rfl rfl ?_
              refine L_nil ?_
              refine W_seq ?_
              refine W_region_draw [] (fun w => Le R622 (hp w)) hmix (by decide +kernel) (fun _ _ h => h) ?_
              have hst651 := hst641.draws (w642.drawn + 1)
              generalize draws w642 (w642.drawn + 1) = w650 at hst651 ⊢
              refine LA_takeP (v := (.slice a561 ((List.filter is11 (PS.decs S_57)).length) cap562)) 0 rfl rfl rfl (by decide +kernel) (by decide +kernel) (by decide +kernel) (by decide +kernel) (fun _ _ _ h => h) (Want.plain rfl) (fun u653 => rfl) (fun _ => hst651.rle') ?_
              refine LA_takeP (v := (.int .i64 (k_646 : Int))) 1 rfl rfl rfl (by decide +kernel) (by decide +kernel) (by decide +kernel) (by decide +kernel) (fun _ _ _ h => h) (Want.plain rfl) (fun u656 => rfl) (fun _ => hst651.rle') ?_
              obtain ⟨b661, off662, cap663, cs664, T665, fz666, e667, hc668, hb669, he670⟩ := hrd552.open (by omega)
              cases e667
              obtain ⟨cl671, hs672, hr673⟩ := he670.at k_646 (by omega)
              obtain ⟨d674, hd675⟩ : ∃ d_, d_ = ((List.filter is11 (PS.decs S_57))[k_646]'(by omega)) := ⟨_, rfl⟩
              rw [← hd675] at hr673
              obtain rfl := tyDec_open hr673
              refine LA_takeP (v := (ptr b661 (off662 + k_646 * 4))) 2 rfl rfl rfl (by decide +kernel) (by decide +kernel) (by decide +kernel) (by decide +kernel) (fun _ _ _ h => h) (Want.plain rfl) (fun u659 => (x_indexAddr' rfl sl_36 ti_49 rfl rfl (by omega))) (fun _ => hst651.rle') ?_
              refine LA_take (v := (.agg #[(.int .i64 d674.pl.1), (.int .i64 d674.pl.2), (.int .i64 d674.tier), (.string d674.reason)])) 3 rfl rfl rfl (by decide +kernel) (by decide +kernel) (by decide +kernel) (by decide +kernel) (by decide +kernel) (fun _ _ _ h => h) (Want.plain rfl) (fun u677 hF678 => (x_load rfl rfl (run_loadVar_agg ti_49 ((Le.trans hle609 (Le.trans hle625 hF678)) _ _ hb669) hs672 rfl))) hst651.rle' ?_
              refine LA_takeP (v := (.slice a571 ((List.filter is11 (PS.decs S_57)).length) cap572)) 4 rfl rfl rfl (by decide +kernel) (by decide +kernel) (by decide +kernel) (by decide +kernel) (fun _ _ _ h => h) (Want.plain rfl) (fun u680 => rfl) (fun _ => hst651.rle') ?_
              refine LA_takeP (v := (.int .i64 (k_646 : Int))) 5 rfl rfl rfl (by decide +kernel) (by decide +kernel) (by decide +kernel) (by decide +kernel) (fun _ _ _ h => h) (Want.plain rfl) (fun u683 => rfl) (fun _ => hst651.rle') ?_
              obtain ⟨b688, off689, cap690, cs691, T692, fz693, e694, hc695, hb696, he697⟩ := hrd531.open (by omega)
              cases e694
              obtain ⟨cl698, hs699, hr700⟩ := he697.at k_646 (by omega)
              rw [← hd675] at hr700
              obtain rfl := tyDec_open hr700
              refine LA_takeP (v := (ptr b688 (off689 + k_646 * 4))) 6 rfl rfl rfl (by decide +kernel) (by decide +kernel) (by decide +kernel) (by decide +kernel) (fun _ _ _ h => h) (Want.plain rfl) (fun u686 => (x_indexAddr' rfl sl_36 ti_49 rfl rfl (by omega))) (fun _ => hst651.rle') ?_
              refine LA_take (v := (.agg #[(.int .i64 d674.pl.1), (.int .i64 d674.pl.2), (.int .i64 d674.tier), (.string d674.reason)])) 7 rfl rfl rfl (by decide +kernel) (by decide +kernel) (by decide +kernel) (by decide +kernel) (by decide +kernel) (fun _ _ _ h => h) (Want.plain rfl) (fun u702 hF703 => (x_load rfl rfl (run_loadVar_agg ti_49 ((Le.trans hle538 (Le.trans hle548 (Le.trans hle609 (Le.trans hle625 hF703)))) _ _ hb696) hs699 rfl))) hst651.rle' ?_
              refine LA_takeP (v := (.bool false)) 8 rfl rfl rfl (by decide +kernel) (by decide +kernel) (by decide +kernel) (by decide +kernel) (fun _ _ _ h => h) (Want.plain rfl) (fun u705 => (x_neq49 rfl rfl rfl)) (fun _ => hst651.rle') ?_
              refine LA_done (by decide +kernel) ?_
              refine W_cond_false (by show Value.bool _ = _; exact congrArg Value.bool rfl) ?_
              refine W_skip ?_
              refine W_region_lit ?_
              refine L_val (v := (.int .i64 ((k_646 + 1 : Nat) : Int))) (w' := w650) rfl rfl rfl (x_add_nat rfl rfl rfl (by omega)) ?_
              refine L_val (v := (.int .i64 ((k_646 + 1 : Nat) : Int))) (w' := w650) rfl rfl rfl rfl ?_
              refine L_nil ?_
              refine ⟨(List.filter is11 (PS.decs S_57)).length - (k_646 + 1), by first | omega | (simp only [List.length_append, List.length_cons, List.length_nil]; omega), ?_⟩
              exact ⟨_, (k_646 + 1), (upd_of (upd_of (upd_of (upd_of (upd_of (upd_of (upd_of (upd_of (upd_of (upd_of (upd_of (upd_of (upd_of (upd_of (upd_of (upd_of (upd_of (upd_of (upd_of (upd_of (upd_of (upd_of (upd_of (upd_of (upd_of (upd_of (upd_of (upd_of (upd_of (upd_of (upd_of (upd_of (upd_of (upd_of (upd_of (upd_of (upd_of (upd_of (upd_of (upd_of (upd_of (upd_of (upd_of (upd_of (upd_of (upd_of (upd_of (upd_of (upd_of (upd_of (upd_of (upd_of rfl rfl) rfl) rfl) rfl) rfl) rfl) rfl) rfl) rfl) rfl) rfl) rfl) rfl) rfl) rfl) rfl) rfl) rfl) rfl) rfl) rfl) rfl) rfl) rfl) rfl) rfl) rfl) rfl) rfl) rfl) rfl) rfl) rfl) rfl) rfl) rfl) rfl) rfl) rfl) rfl) rfl) rfl) rfl) rfl) rfl) rfl) rfl) rfl) rfl) rfl) rfl) rfl), hmk640, hst651, (by omega), rfl⟩
            · skip
              have q707 := of_decide_eq_false c648
              refine W_cond_false (by show Value.bool _ = _; exact congrArg Value.bool c648) ?_
              refine W_exit ?_
              refine W_seq ?_
              refine W_region_lit ?_
              refine L_val (v := (.bool true)) (w' := w642) rfl rfl rfl rfl ?_
              refine L_val (v := (.bool true)) (w' := w642) rfl rfl rfl rfl ?_
              refine L_nil ?_
              refine W_ret ?_
              refine ⟨_, _, res_run (rs := [.tmp 4]) (vs := [(.bool true)]) Tryd.results5 (.cons (.tmp rfl) .nil) hmk640, ?_⟩
              exact ⟨_, _, [], rfl, hst641.keepN 0 rfl, rfl, rfl⟩

end Go.Fx.YtdkjoljcffkpkaaDoor
