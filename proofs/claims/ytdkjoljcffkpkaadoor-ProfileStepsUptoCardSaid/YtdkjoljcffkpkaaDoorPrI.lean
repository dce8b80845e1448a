/-
  Chapter 14: ProfileSteps, printed by genz.py
-/
import Derived.Test.YtdkjoljcffkpkaaDoorPrH
import Derived.Test.YtdkjoljcffkpkaaDoorPrG
set_option linter.unusedSimpArgs false
set_option linter.unusedVariables false
namespace Go.Fx.YtdkjoljcffkpkaaDoor
open Go Go.Fx Go.Proofs
set_option maxRecDepth 20000

theorem ent_11 : Ent Tryd.prog 11 := fun _ _ => by kernel_rfl
theorem ent_12 : Ent Tryd.prog 12 := fun _ _ => by kernel_rfl
theorem mt_47 : Tryd.prog.underlying 47 = some (.map 43 3) := by kernel_rfl
theorem sl_24 : SL Tryd.prog 24 32 := Tryd.underlying24
theorem ti_23 : TI Tryd.prog 23 true 4 32 (.agg #[(.int .i64 0), (.int .i64 0), (.int .i64 0), (.int .i64 0)]) := ⟨by kernel_rfl, by kernel_rfl⟩

set_option maxHeartbeats 4000000 in
theorem Steps_spec {w : World} {R : Hp} {a b c d : Int} {v : Value} {xs : List Act} (hs : Sats w R []) (hT : Tab R) (ha : I64 a) (hb : I64 b) (hc : I64 c) (hd : I64 d) (hv : RdS tyAct R v xs) (hax : ∀ x ∈ xs, x.Ok) :
    Calls Tryd.prog 4 #[.agg #[int a, int b, int c, int d], v] w (Comes' w R [] fun v' R' L' => v' = .bool true ∧ L' = []) := by
  have hst := Step.refl hs
  refine calls_of_W (n := 165) Tryd.func4 rfl Tryd.ntmps4 (Nat.le_of_ble_eq_true rfl) ?_
  refine W_seq ?_
  refine W_region_lit ?_
  refine L_new hst (v := fun b => ptr b 0) (ob := .cells #[(.int .i64 a), (.int .i64 b), (.int .i64 c), (.int .i64 d)] 23 (0, 0)) rfl rfl rfl (by kernel_rfl) (fun b1 w2 hst3 => ?_)
  refine L_val (v := (.bool false)) (w' := w2) rfl rfl rfl rfl ?_
  refine L_nil ?_
  refine W_seq ?_
  refine W_region_lit ?_
  have hst4 := hst3
  refine L_callS [] [one b1 (.cells #[(.int .i64 a), (.int .i64 b), (.int .i64 c), (.int .i64 d)] 23 (0, 0))] hst4 rfl rfl rfl (x_call (vs := #[]) rfl rfl (by kernel_rfl) ent_10) (sanity_spec (hst4.sats.take 0 rfl) (hT.mono (Le.refl _))) (fun v5 w6 R7 L8 hp9 hle10 hst11 => ?_)
  obtain ⟨rfl, rfl⟩ := hp9
  refine L_val (v := (.bool true)) (w' := w6) rfl rfl rfl rfl ?_
  refine L_nil ?_
  refine W_seq ?_
  refine W_region_lit ?_
  refine L_val (v := (.agg #[(.int .i64 a), (.int .i64 b), (.int .i64 c), (.int .i64 d)])) (w' := w6) rfl rfl rfl (x_load rfl rfl (run_loadVar_agg ti_23 (hst11.blk (i := 0) rfl) (l := [(.int .i64 a), (.int .i64 b), (.int .i64 c), (.int .i64 d)]) rfl rfl)) ?_
  have hst12 := hst11
  refine L_callS [] [one b1 (.cells #[(.int .i64 a), (.int .i64 b), (.int .i64 c), (.int .i64 d)] 23 (0, 0))] hst12 rfl rfl rfl (x_call (vs := #[(.agg #[(.int .i64 a), (.int .i64 b), (.int .i64 c), (.int .i64 d)])]) rfl rfl (by kernel_rfl) ent_11) (made_spec (a := a) (b := b) (c := c) (d := d) (hst12.sats.take 0 rfl) ha hb hc hd) (fun v13 w14 R15 L16 hp17 hle18 hst19 => ?_)
  obtain ⟨p20, c21, m23, rfl, rfl, hp22⟩ := hp17
  have hprof24 : Prof R15 p20 (madeP a b c d) c21 := hp22
  refine L_val (v := (.tuple #[(ptr p20 0), (ptr m23 0)])) (w' := w14) rfl rfl rfl rfl ?_
  refine L_val (v := (ptr p20 0)) (w' := w14) rfl rfl rfl (by kernel_rfl) ?_
  refine L_val (v := (ptr m23 0)) (w' := w14) rfl rfl rfl (by kernel_rfl) ?_
  refine L_val (v := (ptr p20 0)) (w' := w14) rfl rfl rfl rfl ?_
  refine L_val (v := (ptr m23 0)) (w' := w14) rfl rfl rfl rfl ?_
  refine L_nil ?_
  refine W_seq ?_
  refine W_seq ?_
  refine W_region_lit ?_
  refine L_val (v := (.int .i64 0)) (w' := w14) rfl rfl rfl rfl ?_
  refine L_nil ?_
  refine W_block ?_
  refine W_loop (I := fun σ w_ m_ => ∃ (σ0 : Fr) (R_ : Hp) (k_ : Nat) (S_ : PS) (cP : Hp), σ = upd (upd (upd (upd (upd (upd (upd (upd (upd (upd (upd (upd σ0 0 (.agg #[(.int .i64 a), (.int .i64 b), (.int .i64 c), (.int .i64 d)])) 1 v) 2 (ptr b1 0)) 5 (.bool true)) 6 (ptr p20 0)) 8 (.int .i64 (k_ : Int))) 19 (.bool true)) 20 (.tuple #[(ptr p20 0), (ptr m23 0)])) 21 (.agg #[(.int .i64 a), (.int .i64 b), (.int .i64 c), (.int .i64 d)])) 22 (.tuple #[(ptr p20 0), (ptr m23 0)])) 23 (ptr p20 0)) 24 (ptr m23 0) ∧ mks (σ0 0) = [] ∧ Step w R [] w_ R_ [cP] ∧ Le R15 R_ ∧ Prof R_ p20 S_ cP ∧ k_ ≤ 60 ∧ HInv S_ ∧ S_.n ≤ 9 * k_ ∧ m_ = 60 - k_) (m := 60 - 0) ?_ ?_
  · skip
    exact ⟨_, _, 0, (madeP a b c d), c21, (upd_of (upd_of (upd_of (upd_of (upd_of (upd_of (upd_of (upd_of (upd_of (upd_of (upd_of (upd_of rfl rfl) rfl) rfl) rfl) rfl) rfl) rfl) rfl) rfl) rfl) rfl) rfl), rfl, (hst19.keepN 1 rfl), Le.refl _, hprof24, (by omega), (HInv.start _ _ _ _), (Nat.le_refl _), rfl⟩
  · skip
    rintro m38 σ_ w27 ⟨s33, R34, k_35, S_36, cP37, rfl, hmk25, hst26, hle28, hi29, hf30, hf31, hf32, rfl⟩
    refine W_seq ?_
    refine W_seq ?_
    refine W_region_lit ?_
    refine L_val (v := (.int .i64 (k_35 : Int))) (w' := w27) rfl rfl rfl rfl ?_
    refine L_val (v := v) (w' := w27) rfl rfl rfl rfl ?_
    obtain ⟨a39, cap40, e41, hc42⟩ := hv.shape
    subst e41
    refine L_val (v := (.int .i64 (xs.length : Int))) (w' := w27) rfl rfl rfl (x_len_slice rfl sl_24 rfl) ?_
    refine L_val (v := (.bool (decide ((k_35 : Int) < (xs.length : Int))))) (w' := w27) rfl rfl rfl (by kernel_rfl) ?_
    refine L_val (v := (.bool (decide ((k_35 : Int) < (xs.length : Int))))) (w' := w27) rfl rfl rfl rfl ?_
    rcases Bool.eq_false_or_eq_true (decide ((k_35 : Int) < (xs.length : Int))) with c43 | c43
    · skip
      have q44 := of_decide_eq_true c43
      refine L_guard rfl rfl rfl rfl c43 ?_
      refine L_val (v := (.int .i64 (k_35 : Int))) (w' := w27) rfl rfl rfl rfl ?_
      refine L_guard rfl rfl rfl rfl c43 ?_
      refine L_val (v := (.bool (decide ((k_35 : Int) < 60)))) (w' := w27) rfl rfl rfl (by kernel_rfl) ?_
      refine L_val (v := (.bool (decide ((k_35 : Int) < 60)))) (w' := w27) rfl rfl rfl (x_pick rfl rfl (by rw [c43]; rfl)) ?_
      refine L_nil ?_
      rcases Bool.eq_false_or_eq_true (decide ((k_35 : Int) < 60)) with c45 | c45
      · skip
        have q46 := of_decide_eq_true c45
        refine W_cond_true (by show Value.bool _ = _; exact congrArg Value.bool c45) ?_
        refine W_skip ?_
        refine W_seq ?_
        refine W_block ?_
        refine W_seq ?_
        refine W_region_lit ?_
        refine L_val (v := (ptr p20 0)) (w' := w27) rfl rfl rfl rfl ?_
        have hst47 := hst26
        refine L_callS [cP37] [] hst47 rfl rfl rfl (x_call (vs := #[(ptr p20 0)]) rfl rfl (by kernel_rfl) ent_17) (Decisions_spec (hst47.sats.take 1 rfl) hi29 (by have h_ := hf32; omega)) (fun v48 w49 R50 L51 hp52 hle53 hst54 => ?_)
        obtain ⟨c55, c56, rfl, ho57, hp58⟩ := hp52
        have hprof59 : Prof R50 p20 S_36 c56 := hp58
        obtain ⟨a60, cap61, e62, hc63⟩ := ho57.value
        subst e62
        refine L_val (v := (.int .i64 (((PS.decs S_36).length : Nat) : Int))) (w' := w49) rfl rfl rfl (x_len_slice rfl sl_36 rfl) ?_
        refine L_val (v := (.int .i64 (((PS.decs S_36).length : Nat) : Int))) (w' := w49) rfl rfl rfl rfl ?_
        refine L_nil ?_
        refine W_seq ?_
        refine W_region_lit ?_
        refine L_val (v := (ptr p20 0)) (w' := w49) rfl rfl rfl rfl ?_
        refine L_val (v := (.slice a39 xs.length cap40)) (w' := w49) rfl rfl rfl rfl ?_
        refine L_val (v := (.int .i64 (k_35 : Int))) (w' := w49) rfl rfl rfl rfl ?_
        obtain ⟨b64, off65, cap66, cs67, T68, fz69, e70, hc71, hb72, he73⟩ := hv.open (by omega)
        cases e70
        obtain ⟨cl74, hs75, hr76⟩ := he73.at k_35 (by omega)
        obtain ⟨x77, hx78⟩ : ∃ x_, x_ = (xs[k_35]'(by omega)) := ⟨_, rfl⟩
        rw [← hx78] at hr76
        have hx79 : Act.Ok x77 := by rw [hx78]; exact hax _ (List.getElem_mem _)
        obtain rfl := tyAct_open hr76
        refine L_val (v := (ptr b64 (off65 + k_35 * 3))) (w' := w49) rfl rfl rfl (x_indexAddr' rfl sl_24 ti_32 rfl rfl (by omega)) ?_
        refine L_val (v := (.agg #[(.int .i64 x77.what), (.int .i64 x77.a), (.int .i64 x77.n)])) (w' := w49) rfl rfl rfl (x_load rfl rfl (run_loadVar_agg ti_32 ((Le.trans hle10 (Le.trans hle18 (Le.trans hle28 (Le.trans hle53 hst54.rle')))) _ _ hb72) hs75 rfl)) ?_
        have hst80 := (hst54.front 1 rfl rfl)
        refine L_callS [c56] [c55] hst80 rfl rfl rfl (x_call (vs := #[(ptr p20 0), (.agg #[(.int .i64 x77.what), (.int .i64 x77.a), (.int .i64 x77.n)])]) rfl rfl (by kernel_rfl) ent_12) (do_spec (s := S_36) x77 hx79 (hst80.sats.take 1 rfl) hprof59 (hT.mono (Le.trans hle10 (Le.trans hle18 (Le.trans hle28 hle53)))) (by have h_ := hf32; omega)) (fun v81 w82 R83 L84 hp85 hle86 hst87 => ?_)
        have hm88 := OwnL.mono ho57 hle86
        obtain ⟨c89, rfl, rfl, hp90⟩ := hp85
        have hprof91 : Prof R83 p20 (PS.act S_36 x77).1 c89 := hp90
        refine L_val (v := (.int .i64 (((PS.act S_36 x77).2 : Nat) : Int))) (w' := w82) rfl rfl rfl rfl ?_
        refine L_nil ?_
        refine W_seq ?_
        refine W_region_lit ?_
        refine L_val (v := (ptr p20 0)) (w' := w82) rfl rfl rfl rfl ?_
        have hst92 := hst87
        refine L_callS [c89] [c55] hst92 rfl rfl rfl (x_call (vs := #[(ptr p20 0)]) rfl rfl (by kernel_rfl) ent_17) (Decisions_spec (hst92.sats.take 1 rfl) hprof91 (by have h_ := n_act S_36 x77; omega)) (fun v93 w94 R95 L96 hp97 hle98 hst99 => ?_)
        have hm100 := OwnL.mono hm88 hle98
        obtain ⟨c101, c102, rfl, ho103, hp104⟩ := hp97
        have hprof105 : Prof R95 p20 (PS.act S_36 x77).1 c102 := hp104
        obtain ⟨a106, cap107, e108, hc109⟩ := ho103.value
        subst e108
        refine L_val (v := (.int .i64 (((PS.decs ((PS.act S_36 x77).1)).length : Nat) : Int))) (w' := w94) rfl rfl rfl (x_len_slice rfl sl_36 rfl) ?_
        refine L_val (v := (.int .i64 (((PS.decs ((PS.act S_36 x77).1)).length : Nat) : Int))) (w' := w94) rfl rfl rfl rfl ?_
        refine L_nil ?_
        refine W_seq ?_
        have hdl_ := Prof.decs_le hprof105
        obtain ⟨hl1_, hl2_, hl3_⟩ := act_len S_36 x77
        have hl4_ := act_le S_36 x77
        have hna_ := n_act S_36 x77
        refine W_region_lit ?_
        refine L_val (v := (.slice (some ⟨b64, off65, none⟩) xs.length cap40)) (w' := w94) rfl rfl rfl rfl ?_
        refine L_val (v := (.int .i64 (k_35 : Int))) (w' := w94) rfl rfl rfl rfl ?_
        obtain ⟨cl110, hs111, hr112⟩ := he73.at k_35 (by omega)
        rw [← hx78] at hr112
        obtain rfl := tyAct_open hr112
        refine L_val (v := (ptr b64 (off65 + k_35 * 3))) (w' := w94) rfl rfl rfl (x_indexAddr' rfl sl_24 ti_32 rfl rfl (by omega)) ?_
        refine L_val (v := (ptr b64 (off65 + k_35 * 3))) (w' := w94) rfl rfl rfl (by kernel_rfl) ?_
        refine L_val (v := (.int .i64 x77.what)) (w' := w94) rfl rfl rfl (x_load rfl rfl (run_loadVar_one ti_3 ((Le.trans hle10 (Le.trans hle18 (Le.trans hle28 (Le.trans hle53 (Le.trans hle86 (Le.trans hle98 hst99.rle')))))) _ _ hb72) (seg_get (j := 0) hs111 rfl))) ?_
        refine L_callG hst99 (v := (.int .i64 (x77.what % 6))) rfl rfl rfl (x_call (vs := #[(.int .i64 x77.what), (.int .i64 6)]) rfl rfl (by kernel_rfl) ent_20) (Mod_spec x77.what 6 hx79.what (by decide) (by decide) hst99.rle') (fun w113 hst114 => ?_)
        refine L_val (v := (.bool ((x77.what % 6) != 5))) (w' := w113) rfl rfl rfl (by kernel_rfl) ?_
        refine L_val (v := (.bool ((x77.what % 6) != 5))) (w' := w113) rfl rfl rfl rfl ?_
        rcases Bool.eq_false_or_eq_true ((x77.what % 6) != 5) with c115 | c115
        · skip
          have q116 : ¬ x77.what % 6 = 5 := by simpa using c115
          refine L_guard rfl rfl rfl rfl c115 ?_
          refine L_val (v := (.int .i64 (((PS.decs ((PS.act S_36 x77).1)).length : Nat) : Int))) (w' := w113) rfl rfl rfl rfl ?_
          refine L_guard rfl rfl rfl rfl c115 ?_
          refine L_val (v := (.int .i64 (((PS.decs S_36).length : Nat) : Int))) (w' := w113) rfl rfl rfl rfl ?_
          refine L_guard rfl rfl rfl rfl c115 ?_
          refine L_val (v := (.int .i64 (((PS.act S_36 x77).2 : Nat) : Int))) (w' := w113) rfl rfl rfl rfl ?_
          refine L_guard rfl rfl rfl rfl c115 ?_
          refine L_val (v := (.int .i64 (((PS.decs S_36).length + (PS.act S_36 x77).2 : Nat) : Int))) (w' := w113) rfl rfl rfl (x_add_nat rfl rfl rfl (by omega)) ?_
          refine L_guard rfl rfl rfl rfl c115 ?_
          refine L_val (v := (.bool ((((PS.decs ((PS.act S_36 x77).1)).length : Nat) : Int) != (((PS.decs S_36).length + (PS.act S_36 x77).2 : Nat) : Int)))) (w' := w113) rfl rfl rfl (by kernel_rfl) ?_
          refine L_val (v := (.bool ((((PS.decs ((PS.act S_36 x77).1)).length : Nat) : Int) != (((PS.decs S_36).length + (PS.act S_36 x77).2 : Nat) : Int)))) (w' := w113) rfl rfl rfl (x_pick rfl rfl (by rw [c115]; rfl)) ?_
          refine L_val (v := (.bool ((((PS.decs ((PS.act S_36 x77).1)).length : Nat) : Int) != (((PS.decs S_36).length + (PS.act S_36 x77).2 : Nat) : Int)))) (w' := w113) rfl rfl rfl rfl ?_
          have c117 : ((((PS.decs ((PS.act S_36 x77).1)).length : Nat) : Int) != (((PS.decs S_36).length + (PS.act S_36 x77).2 : Nat) : Int)) = false := bne_eq_false_iff_eq.2 (by have := hl1_ (by simpa using c115); omega)
          have q118 : (((PS.decs ((PS.act S_36 x77).1)).length : Nat) : Int) = (((PS.decs S_36).length + (PS.act S_36 x77).2 : Nat) : Int) := by simpa using c117
          refine L_guard rfl rfl rfl rfl c117 ?_
          refine L_val (v := (.int .i64 (((PS.decs ((PS.act S_36 x77).1)).length : Nat) : Int))) (w' := w113) rfl rfl rfl rfl ?_
          refine L_guard rfl rfl rfl rfl c117 ?_
          refine L_val (v := (.int .i64 (((PS.decs S_36).length : Nat) : Int))) (w' := w113) rfl rfl rfl rfl ?_
          refine L_guard rfl rfl rfl rfl c117 ?_
          refine L_val (v := (.bool (decide ((((PS.decs ((PS.act S_36 x77).1)).length : Nat) : Int) < (((PS.decs S_36).length : Nat) : Int))))) (w' := w113) rfl rfl rfl (by kernel_rfl) ?_
          refine L_val (v := (.bool (decide ((((PS.decs ((PS.act S_36 x77).1)).length : Nat) : Int) < (((PS.decs S_36).length : Nat) : Int))))) (w' := w113) rfl rfl rfl (x_pick rfl rfl (by rw [c117]; rfl)) ?_
          refine L_val (v := (.bool (decide ((((PS.decs ((PS.act S_36 x77).1)).length : Nat) : Int) < (((PS.decs S_36).length : Nat) : Int))))) (w' := w113) rfl rfl rfl rfl ?_
          have c119 : (decide ((((PS.decs ((PS.act S_36 x77).1)).length : Nat) : Int) < (((PS.decs S_36).length : Nat) : Int))) = false := decide_eq_false (by omega)
          have q120 := of_decide_eq_false c119
          refine L_guard rfl rfl rfl rfl c119 ?_
          refine L_val (v := (.slice (some ⟨b64, off65, none⟩) xs.length cap40)) (w' := w113) rfl rfl rfl rfl ?_
          refine L_guard rfl rfl rfl rfl c119 ?_
          refine L_val (v := (.int .i64 (k_35 : Int))) (w' := w113) rfl rfl rfl rfl ?_
          refine L_guard rfl rfl rfl rfl c119 ?_
          obtain ⟨cl121, hs122, hr123⟩ := he73.at k_35 (by omega)
          rw [← hx78] at hr123
          obtain rfl := tyAct_open hr123
          refine L_val (v := (ptr b64 (off65 + k_35 * 3))) (w' := w113) rfl rfl rfl (x_indexAddr' rfl sl_24 ti_32 rfl rfl (by omega)) ?_
          refine L_guard rfl rfl rfl rfl c119 ?_
          refine L_val (v := (ptr b64 (off65 + k_35 * 3))) (w' := w113) rfl rfl rfl (by kernel_rfl) ?_
          refine L_guard rfl rfl rfl rfl c119 ?_
          refine L_val (v := (.int .i64 x77.what)) (w' := w113) rfl rfl rfl (x_load rfl rfl (run_loadVar_one ti_3 ((Le.trans hle10 (Le.trans hle18 (Le.trans hle28 (Le.trans hle53 (Le.trans hle86 (Le.trans hle98 hst114.rle')))))) _ _ hb72) (seg_get (j := 0) hs122 rfl))) ?_
          refine L_guard rfl rfl rfl rfl c119 ?_
          refine L_callG hst114 (v := (.int .i64 (x77.what % 6))) rfl rfl rfl (x_call (vs := #[(.int .i64 x77.what), (.int .i64 6)]) rfl rfl (by kernel_rfl) ent_20) (Mod_spec x77.what 6 hx79.what (by decide) (by decide) hst114.rle') (fun w124 hst125 => ?_)
          refine L_guard rfl rfl rfl rfl c119 ?_
          refine L_val (v := (.bool ((x77.what % 6) == 5))) (w' := w124) rfl rfl rfl (by kernel_rfl) ?_
          refine L_guard rfl rfl rfl rfl c119 ?_
          refine L_val (v := (.bool ((x77.what % 6) == 5))) (w' := w124) rfl rfl rfl rfl ?_
          rcases Bool.eq_false_or_eq_true ((x77.what % 6) == 5) with c126 | c126
          · skip
            have q127 := eq_of_beq c126
            refine L_guard rfl rfl rfl rfl c126 ?_
            refine L_val (v := (.int .i64 (((PS.decs ((PS.act S_36 x77).1)).length : Nat) : Int))) (w' := w124) rfl rfl rfl rfl ?_
            refine L_guard rfl rfl rfl rfl c126 ?_
            refine L_val (v := (.int .i64 (((PS.decs S_36).length : Nat) : Int))) (w' := w124) rfl rfl rfl rfl ?_
            refine L_guard rfl rfl rfl rfl c126 ?_
            refine L_val (v := (.int .i64 (((PS.decs S_36).length + 1 : Nat) : Int))) (w' := w124) rfl rfl rfl (x_add_nat rfl rfl rfl (by omega)) ?_
            refine L_guard rfl rfl rfl rfl c126 ?_
            refine L_val (v := (.bool (decide ((((PS.decs ((PS.act S_36 x77).1)).length : Nat) : Int) > (((PS.decs S_36).length + 1 : Nat) : Int))))) (w' := w124) rfl rfl rfl (by kernel_rfl) ?_
            refine L_guard rfl rfl rfl rfl c119 ?_
            refine L_val (v := (.bool (decide ((((PS.decs ((PS.act S_36 x77).1)).length : Nat) : Int) > (((PS.decs S_36).length + 1 : Nat) : Int))))) (w' := w124) rfl rfl rfl (x_pick rfl rfl (by rw [c126]; rfl)) ?_
            refine L_val (v := (.bool (decide ((((PS.decs ((PS.act S_36 x77).1)).length : Nat) : Int) > (((PS.decs S_36).length + 1 : Nat) : Int))))) (w' := w124) rfl rfl rfl (x_pick rfl rfl (by rw [c119]; rfl)) ?_
            refine L_nil ?_
            have c128 : (decide ((((PS.decs ((PS.act S_36 x77).1)).length : Nat) : Int) > (((PS.decs S_36).length + 1 : Nat) : Int))) = false := decide_eq_false (by have := hl3_ (by simpa using c126); omega)
            have q129 := of_decide_eq_false c128
            refine W_cond_false (by show Value.bool _ = _; exact congrArg Value.bool c128) ?_
            refine W_skip ?_
            refine W_region_lit ?_
            refine L_val (v := (.int .i64 (k_35 : Int))) (w' := w124) rfl rfl rfl rfl ?_
            refine L_val (v := (.int .i64 ((k_35 + 1 : Nat) : Int))) (w' := w124) rfl rfl rfl (x_add_nat rfl rfl rfl (by omega)) ?_
            refine L_val (v := (.int .i64 ((k_35 + 1 : Nat) : Int))) (w' := w124) rfl rfl rfl rfl ?_
            refine L_nil ?_
            refine ⟨60 - (k_35 + 1), by first | omega | (simp only [List.length_append, List.length_cons, List.length_nil]; omega), ?_⟩
            exact ⟨_, _, (k_35 + 1), ((PS.act S_36 x77).1), c102, (upd_of (upd_of (upd_of (upd_of (upd_of (upd_of (upd_of (upd_of (upd_of (upd_of (upd_of (upd_of rfl rfl) rfl) rfl) rfl) rfl) rfl) rfl) rfl) rfl) rfl) rfl) rfl), hmk25, ((hst125.front 1 rfl rfl).keepN 1 rfl), (Le.trans hle28 (Le.trans hle53 (Le.trans hle86 hle98))), hprof105, (by omega), (hf31.act x77), (by have h_ := n_act S_36 x77; omega), rfl⟩
          · skip
            have q130 := ne_of_beq_false c126
            refine L_unwanted rfl rfl rfl rfl (by rw [c126]; rfl) rfl rfl ?_
            refine L_unwanted rfl rfl rfl rfl (by rw [c126]; rfl) rfl rfl ?_
            refine L_unwanted rfl rfl rfl rfl (by rw [c126]; rfl) rfl rfl ?_
            refine L_unwanted rfl rfl rfl rfl (by rw [c126]; rfl) rfl rfl ?_
            refine L_guard rfl rfl rfl rfl c119 ?_
            refine L_val (v := (.bool false)) (w' := w124) rfl rfl rfl (x_pick rfl rfl (by rw [c126]; rfl)) ?_
            refine L_val (v := (.bool false)) (w' := w124) rfl rfl rfl (x_pick rfl rfl (by rw [c119]; rfl)) ?_
            refine L_nil ?_
            refine W_cond_false (by show Value.bool _ = _; exact congrArg Value.bool rfl) ?_
            refine W_skip ?_
            refine W_region_lit ?_
            refine L_val (v := (.int .i64 (k_35 : Int))) (w' := w124) rfl rfl rfl rfl ?_
            refine L_val (v := (.int .i64 ((k_35 + 1 : Nat) : Int))) (w' := w124) rfl rfl rfl (x_add_nat rfl rfl rfl (by omega)) ?_
            refine L_val (v := (.int .i64 ((k_35 + 1 : Nat) : Int))) (w' := w124) rfl rfl rfl rfl ?_
            refine L_nil ?_
            refine ⟨60 - (k_35 + 1), by first | omega | (simp only [List.length_append, List.length_cons, List.length_nil]; omega), ?_⟩
            exact ⟨_, _, (k_35 + 1), ((PS.act S_36 x77).1), c102, (upd_of (upd_of (upd_of (upd_of (upd_of (upd_of (upd_of (upd_of (upd_of (upd_of (upd_of (upd_of rfl rfl) rfl) rfl) rfl) rfl) rfl) rfl) rfl) rfl) rfl) rfl) rfl), hmk25, ((hst125.front 1 rfl rfl).keepN 1 rfl), (Le.trans hle28 (Le.trans hle53 (Le.trans hle86 hle98))), hprof105, (by omega), (hf31.act x77), (by have h_ := n_act S_36 x77; omega), rfl⟩
        · skip
          have q131 : x77.what % 6 = 5 := by simpa using c115
          refine L_unwanted rfl rfl rfl rfl (by rw [c115]; rfl) rfl rfl ?_
          refine L_unwanted rfl rfl rfl rfl (by rw [c115]; rfl) rfl rfl ?_
          refine L_unwanted rfl rfl rfl rfl (by rw [c115]; rfl) rfl rfl ?_
          refine L_unwanted rfl rfl rfl rfl (by rw [c115]; rfl) rfl rfl ?_
          refine L_unwanted rfl rfl rfl rfl (by rw [c115]; rfl) rfl rfl ?_
          refine L_val (v := (.bool false)) (w' := w113) rfl rfl rfl (x_pick rfl rfl (by rw [c115]; rfl)) ?_
          refine L_val (v := (.bool false)) (w' := w113) rfl rfl rfl rfl ?_
          refine L_guard rfl rfl rfl rfl rfl ?_
          refine L_val (v := (.int .i64 (((PS.decs ((PS.act S_36 x77).1)).length : Nat) : Int))) (w' := w113) rfl rfl rfl rfl ?_
          refine L_guard rfl rfl rfl rfl rfl ?_
          refine L_val (v := (.int .i64 (((PS.decs S_36).length : Nat) : Int))) (w' := w113) rfl rfl rfl rfl ?_
          refine L_guard rfl rfl rfl rfl rfl ?_
          refine L_val (v := (.bool (decide ((((PS.decs ((PS.act S_36 x77).1)).length : Nat) : Int) < (((PS.decs S_36).length : Nat) : Int))))) (w' := w113) rfl rfl rfl (by kernel_rfl) ?_
          refine L_val (v := (.bool (decide ((((PS.decs ((PS.act S_36 x77).1)).length : Nat) : Int) < (((PS.decs S_36).length : Nat) : Int))))) (w' := w113) rfl rfl rfl rfl ?_
          refine L_val (v := (.bool (decide ((((PS.decs ((PS.act S_36 x77).1)).length : Nat) : Int) < (((PS.decs S_36).length : Nat) : Int))))) (w' := w113) rfl rfl rfl rfl ?_
          have c132 : (decide ((((PS.decs ((PS.act S_36 x77).1)).length : Nat) : Int) < (((PS.decs S_36).length : Nat) : Int))) = false := decide_eq_false (by omega)
          have q133 := of_decide_eq_false c132
          refine L_guard rfl rfl rfl rfl c132 ?_
          refine L_val (v := (.slice (some ⟨b64, off65, none⟩) xs.length cap40)) (w' := w113) rfl rfl rfl rfl ?_
          refine L_guard rfl rfl rfl rfl c132 ?_
          refine L_val (v := (.int .i64 (k_35 : Int))) (w' := w113) rfl rfl rfl rfl ?_
          refine L_guard rfl rfl rfl rfl c132 ?_
          obtain ⟨cl134, hs135, hr136⟩ := he73.at k_35 (by omega)
          rw [← hx78] at hr136
          obtain rfl := tyAct_open hr136
          refine L_val (v := (ptr b64 (off65 + k_35 * 3))) (w' := w113) rfl rfl rfl (x_indexAddr' rfl sl_24 ti_32 rfl rfl (by omega)) ?_
          refine L_guard rfl rfl rfl rfl c132 ?_
          refine L_val (v := (ptr b64 (off65 + k_35 * 3))) (w' := w113) rfl rfl rfl (by kernel_rfl) ?_
          refine L_guard rfl rfl rfl rfl c132 ?_
          refine L_val (v := (.int .i64 x77.what)) (w' := w113) rfl rfl rfl (x_load rfl rfl (run_loadVar_one ti_3 ((Le.trans hle10 (Le.trans hle18 (Le.trans hle28 (Le.trans hle53 (Le.trans hle86 (Le.trans hle98 hst114.rle')))))) _ _ hb72) (seg_get (j := 0) hs135 rfl))) ?_
          refine L_guard rfl rfl rfl rfl c132 ?_
          refine L_callG hst114 (v := (.int .i64 (x77.what % 6))) rfl rfl rfl (x_call (vs := #[(.int .i64 x77.what), (.int .i64 6)]) rfl rfl (by kernel_rfl) ent_20) (Mod_spec x77.what 6 hx79.what (by decide) (by decide) hst114.rle') (fun w137 hst138 => ?_)
          refine L_guard rfl rfl rfl rfl c132 ?_
          refine L_val (v := (.bool ((x77.what % 6) == 5))) (w' := w137) rfl rfl rfl (by kernel_rfl) ?_
          refine L_guard rfl rfl rfl rfl c132 ?_
          refine L_val (v := (.bool ((x77.what % 6) == 5))) (w' := w137) rfl rfl rfl rfl ?_
          rcases Bool.eq_false_or_eq_true ((x77.what % 6) == 5) with c139 | c139
          · skip
            have q140 := eq_of_beq c139
            refine L_guard rfl rfl rfl rfl c139 ?_
            refine L_val (v := (.int .i64 (((PS.decs ((PS.act S_36 x77).1)).length : Nat) : Int))) (w' := w137) rfl rfl rfl rfl ?_
            refine L_guard rfl rfl rfl rfl c139 ?_
            refine L_val (v := (.int .i64 (((PS.decs S_36).length : Nat) : Int))) (w' := w137) rfl rfl rfl rfl ?_
            refine L_guard rfl rfl rfl rfl c139 ?_
            refine L_val (v := (.int .i64 (((PS.decs S_36).length + 1 : Nat) : Int))) (w' := w137) rfl rfl rfl (x_add_nat rfl rfl rfl (by omega)) ?_
            refine L_guard rfl rfl rfl rfl c139 ?_
            refine L_val (v := (.bool (decide ((((PS.decs ((PS.act S_36 x77).1)).length : Nat) : Int) > (((PS.decs S_36).length + 1 : Nat) : Int))))) (w' := w137) rfl rfl rfl (by kernel_rfl) ?_
            refine L_guard rfl rfl rfl rfl c132 ?_
            refine L_val (v := (.bool (decide ((((PS.decs ((PS.act S_36 x77).1)).length : Nat) : Int) > (((PS.decs S_36).length + 1 : Nat) : Int))))) (w' := w137) rfl rfl rfl (x_pick rfl rfl (by rw [c139]; rfl)) ?_
            refine L_val (v := (.bool (decide ((((PS.decs ((PS.act S_36 x77).1)).length : Nat) : Int) > (((PS.decs S_36).length + 1 : Nat) : Int))))) (w' := w137) rfl rfl rfl (x_pick rfl rfl (by rw [c132]; rfl)) ?_
            refine L_nil ?_
            have c141 : (decide ((((PS.decs ((PS.act S_36 x77).1)).length : Nat) : Int) > (((PS.decs S_36).length + 1 : Nat) : Int))) = false := decide_eq_false (by have := hl3_ (by simpa using c139); omega)
            have q142 := of_decide_eq_false c141
            refine W_cond_false (by show Value.bool _ = _; exact congrArg Value.bool c141) ?_
            refine W_skip ?_
            refine W_region_lit ?_
            refine L_val (v := (.int .i64 (k_35 : Int))) (w' := w137) rfl rfl rfl rfl ?_
            refine L_val (v := (.int .i64 ((k_35 + 1 : Nat) : Int))) (w' := w137) rfl rfl rfl (x_add_nat rfl rfl rfl (by omega)) ?_
            refine L_val (v := (.int .i64 ((k_35 + 1 : Nat) : Int))) (w' := w137) rfl rfl rfl rfl ?_
            refine L_nil ?_
            refine ⟨60 - (k_35 + 1), by first | omega | (simp only [List.length_append, List.length_cons, List.length_nil]; omega), ?_⟩
            exact ⟨_, _, (k_35 + 1), ((PS.act S_36 x77).1), c102, (upd_of (upd_of (upd_of (upd_of (upd_of (upd_of (upd_of (upd_of (upd_of (upd_of (upd_of (upd_of rfl rfl) rfl) rfl) rfl) rfl) rfl) rfl) rfl) rfl) rfl) rfl) rfl), hmk25, ((hst138.front 1 rfl rfl).keepN 1 rfl), (Le.trans hle28 (Le.trans hle53 (Le.trans hle86 hle98))), hprof105, (by omega), (hf31.act x77), (by have h_ := n_act S_36 x77; omega), rfl⟩
          · skip
            have q143 := ne_of_beq_false c139
            refine L_unwanted rfl rfl rfl rfl (by rw [c139]; rfl) rfl rfl ?_
            refine L_unwanted rfl rfl rfl rfl (by rw [c139]; rfl) rfl rfl ?_
            refine L_unwanted rfl rfl rfl rfl (by rw [c139]; rfl) rfl rfl ?_
            refine L_unwanted rfl rfl rfl rfl (by rw [c139]; rfl) rfl rfl ?_
            refine L_guard rfl rfl rfl rfl c132 ?_
            refine L_val (v := (.bool false)) (w' := w137) rfl rfl rfl (x_pick rfl rfl (by rw [c139]; rfl)) ?_
            refine L_val (v := (.bool false)) (w' := w137) rfl rfl rfl (x_pick rfl rfl (by rw [c132]; rfl)) ?_
            refine L_nil ?_
            refine W_cond_false (by show Value.bool _ = _; exact congrArg Value.bool rfl) ?_
            refine W_skip ?_
            refine W_region_lit ?_
            refine L_val (v := (.int .i64 (k_35 : Int))) (w' := w137) rfl rfl rfl rfl ?_
            refine L_val (v := (.int .i64 ((k_35 + 1 : Nat) : Int))) (w' := w137) rfl rfl rfl (x_add_nat rfl rfl rfl (by omega)) ?_
            refine L_val (v := (.int .i64 ((k_35 + 1 : Nat) : Int))) (w' := w137) rfl rfl rfl rfl ?_
            refine L_nil ?_
            refine ⟨60 - (k_35 + 1), by first | omega | (simp only [List.length_append, List.length_cons, List.length_nil]; omega), ?_⟩
            exact ⟨_, _, (k_35 + 1), ((PS.act S_36 x77).1), c102, (upd_of (upd_of (upd_of (upd_of (upd_of (upd_of (upd_of (upd_of (upd_of (upd_of (upd_of (upd_of rfl rfl) rfl) rfl) rfl) rfl) rfl) rfl) rfl) rfl) rfl) rfl) rfl), hmk25, ((hst138.front 1 rfl rfl).keepN 1 rfl), (Le.trans hle28 (Le.trans hle53 (Le.trans hle86 hle98))), hprof105, (by omega), (hf31.act x77), (by have h_ := n_act S_36 x77; omega), rfl⟩
      · skip
        have q144 := of_decide_eq_false c45
        refine W_cond_false (by show Value.bool _ = _; exact congrArg Value.bool c45) ?_
        refine W_exit ?_
        refine W_seq ?_
        refine W_region_lit ?_
        refine L_new hst26 (v := fun b => .map (some b)) (ob := .map #[] 0) rfl rfl rfl (by kernel_rfl) (fun b145 w146 hst147 => ?_)
        have hm148 : MapC kk (vE (Value.int .i64)) (some b145) [] _ := MapC.made b145
        generalize one b145 (.map #[] 0) = c149 at hm148 hst147
        refine L_new hst147 (v := fun b => .map (some b)) (ob := .map #[] 0) rfl rfl rfl (by kernel_rfl) (fun b150 w151 hst152 => ?_)
        have hm153 : MapC kk (vE (Value.int .i64)) (some b150) [] _ := MapC.made b150
        generalize one b150 (.map #[] 0) = c154 at hm153 hst152
        refine L_val (v := (.map (some b145))) (w' := w151) rfl rfl rfl rfl ?_
        refine L_val (v := (.map (some b150))) (w' := w151) rfl rfl rfl rfl ?_
        refine L_nil ?_
        refine W_seq ?_
        refine W_seq ?_
        have hdl_ := Prof.decs_le hi29
        refine W_region_lit ?_
        refine L_val (v := (ptr p20 0)) (w' := w151) rfl rfl rfl rfl ?_
        have hst155 := (hst152.front 2 rfl rfl)
        refine L_callS [cP37] [c154, c149] hst155 rfl rfl rfl (x_call (vs := #[(ptr p20 0)]) rfl rfl (by kernel_rfl) ent_17) (Decisions_spec (hst155.sats.take 1 rfl) hi29 (by have h_ := hf32; omega)) (fun v156 w157 R158 L159 hp160 hle161 hst162 => ?_)
        obtain ⟨c163, c164, rfl, ho165, hp166⟩ := hp160
        have hprof167 : Prof R158 p20 S_36 c164 := hp166
        obtain ⟨R168, hst169, hle170, hc171⟩ := Step.frz hst162
        have hm172 := Prof.lift hprof167 hle170
        have hrd173 := OwnL.freeze ho165 hle170 hc171
        obtain ⟨a174, cap175, e176, hc177⟩ := hrd173.shape
        subst e176
        refine L_val (v := (.int .i64 (((PS.decs S_36).length : Nat) : Int))) (w' := w157) rfl rfl rfl (x_len_slice rfl sl_36 rfl) ?_
        refine L_val (v := (.int .i64 0)) (w' := w157) rfl rfl rfl rfl ?_
        refine L_nil ?_
        refine W_block ?_
        refine W_loop (I := fun σ w_ m_ => ∃ (σ0 : Fr) (k_ : Nat) (cT : Hp) (cF : Hp), σ = upd (upd (upd (upd (upd (upd (upd (upd (upd (upd (upd (upd (upd (upd (upd (upd (upd (upd (upd (upd (upd (upd (upd (upd (upd (upd (upd (upd σ0 0 (.agg #[(.int .i64 a), (.int .i64 b), (.int .i64 c), (.int .i64 d)])) 1 (.slice a39 xs.length cap40)) 2 (ptr b1 0)) 5 (.bool true)) 6 (ptr p20 0)) 8 (.int .i64 (k_35 : Int))) 12 (.map (some b145))) 13 (.map (some b150))) 19 (.bool true)) 20 (.tuple #[(ptr p20 0), (ptr m23 0)])) 21 (.agg #[(.int .i64 a), (.int .i64 b), (.int .i64 c), (.int .i64 d)])) 22 (.tuple #[(ptr p20 0), (ptr m23 0)])) 23 (ptr p20 0)) 24 (ptr m23 0)) 25 (.int .i64 (k_35 : Int))) 26 (.slice a39 xs.length cap40)) 27 (.int .i64 (xs.length : Int))) 28 (.bool (decide ((k_35 : Int) < (xs.length : Int))))) 29 (.bool (decide ((k_35 : Int) < (xs.length : Int))))) 30 (.int .i64 (k_35 : Int))) 31 (.bool (decide ((k_35 : Int) < 60)))) 32 (.bool (decide ((k_35 : Int) < 60)))) 81 (.map (some b145))) 82 (.map (some b150))) 83 (ptr p20 0)) 84 (.slice a174 ((PS.decs S_36).length) cap175)) 85 (.int .i64 (((PS.decs S_36).length : Nat) : Int))) 86 (.int .i64 (k_ : Int)) ∧ mks (σ0 0) = [] ∧ Step w R [] w_ R168 [c164, cT, cF] ∧ MapC kk (vE (Value.int .i64)) (some b145) (hist (List.take k_ (PS.decs S_36))).1 cT ∧ MapC kk (vE (Value.int .i64)) (some b150) (hist (List.take k_ (PS.decs S_36))).2 cF ∧ k_ ≤ (PS.decs S_36).length ∧ m_ = (PS.decs S_36).length - k_) (m := (PS.decs S_36).length - 0) ?_ ?_
        · skip
          exact ⟨_, 0, c149, c154, (upd_of (upd_of (upd_of (upd_of (upd_of (upd_of (upd_of (upd_of (upd_of (upd_of (upd_of (upd_of (upd_of (upd_of (upd_of (upd_of (upd_of (upd_of (upd_of (upd_of (upd_of (upd_of (upd_of (upd_of (upd_of (upd_of (upd_of (upd_of rfl rfl) rfl) rfl) rfl) rfl) rfl) rfl) rfl) rfl) rfl) rfl) rfl) rfl) rfl) rfl) rfl) rfl) rfl) rfl) rfl) rfl) rfl) rfl) rfl) rfl) rfl) rfl) rfl), hmk25, (((hst169.front 1 rfl rfl).front 2 rfl rfl).front 2 rfl rfl), hm148, hm153, (by omega), rfl⟩
        · skip
          rintro m189 σ_ w180 ⟨s185, k_186, cT187, cF188, rfl, hmk178, hst179, hi182, hi183, hf184, rfl⟩
          refine W_seq ?_
          refine W_region_lit ?_
          refine L_val (v := (.bool (decide ((k_186 : Int) < (((PS.decs S_36).length : Nat) : Int))))) (w' := w180) rfl rfl rfl (by kernel_rfl) ?_
          refine L_nil ?_
          refine W_seq ?_
          rcases Bool.eq_false_or_eq_true (decide ((k_186 : Int) < (((PS.decs S_36).length : Nat) : Int))) with c190 | c190
          · skip
            have q191 := of_decide_eq_true c190
            refine W_cond_true (by show Value.bool _ = _; exact congrArg Value.bool c190) ?_
            refine W_skip ?_
            refine W_seq ?_
            refine W_block ?_
            refine W_seq ?_
            refine W_region_lit ?_
            obtain ⟨b192, off193, cap194, cs195, T196, fz197, e198, hc199, hb200, he201⟩ := hrd173.open (by omega)
            cases e198
            obtain ⟨cl202, hs203, hr204⟩ := he201.at k_186 (by omega)
            obtain ⟨d205, hd206⟩ : ∃ d_, d_ = ((PS.decs S_36)[k_186]'(by omega)) := ⟨_, rfl⟩
            rw [← hd206] at hr204
            obtain rfl := tyDec_open hr204
            have hch := hf31.chk k_186 (by omega)
            rw [← hd206] at hch
            have hcold := hch.old
            have hctop := hch.top
            have hcup := hch.up
            have hcne := hch.ne
            have hclow := hch.low
            have hcf0 := hch.f0
            have hcf3 := hch.f3
            refine L_val (v := (ptr b192 (off193 + k_186 * 4))) (w' := w180) rfl rfl rfl (x_indexAddr' rfl sl_36 ti_49 rfl rfl (by omega)) ?_
            refine L_val (v := (.agg #[(.int .i64 d205.pl.1), (.int .i64 d205.pl.2), (.int .i64 d205.tier), (.string d205.reason)])) (w' := w180) rfl rfl rfl (x_load rfl rfl (run_loadVar_agg ti_49 (hst179.rle' _ _ hb200) hs203 rfl)) ?_
            refine L_new hst179 (v := fun b => ptr b 0) (ob := .cells #[(.int .i64 0), (.int .i64 0), (.int .i64 0), (.string ⟨#[]⟩)] 49 (0, 0)) rfl rfl rfl (by kernel_rfl) (fun b207 w208 hst209 => ?_)
            refine L_store hst209 0 ti_49 rfl rfl rfl rfl rfl rfl rfl rfl rfl rfl rfl (fun w210 hst211 => ?_)
            change Step _ _ _ _ _ [one b207 (.cells #[(.int .i64 d205.pl.1), (.int .i64 d205.pl.2), (.int .i64 d205.tier), (.string d205.reason)] 49 (0, 0)), c164, cT187, cF188] at hst211
            refine L_nil ?_
            refine W_seq ?_
            refine W_region_lit ?_
            refine L_val (v := (.map (some b145))) (w' := w210) rfl rfl rfl rfl ?_
            refine L_val (v := (ptr b207 0)) (w' := w210) rfl rfl rfl (by kernel_rfl) ?_
            refine L_val (v := (.agg #[(.int .i64 d205.pl.1), (.int .i64 d205.pl.2)])) (w' := w210) rfl rfl rfl (x_load rfl rfl (run_loadVar_agg ti_43 (hst211.blk (i := 0) rfl) (l := [(.int .i64 d205.pl.1), (.int .i64 d205.pl.2)]) rfl rfl)) ?_
            obtain ⟨v212, hr213, hv214⟩ := MapC.lookupD (w := w210) hi182 (hst211.get (i := 2) rfl) law43 mt_47 ti_3 d205.pl false 0 rfl
            have hv214' : v212 = .int .i64 ((AL.get ((hist (List.take k_186 (PS.decs S_36))).1) d205.pl).getD 0) := hv214
            subst hv214'
            refine L_val (v := (.int .i64 ((AL.get ((hist (List.take k_186 (PS.decs S_36))).1) d205.pl).getD 0))) (w' := w210) rfl rfl rfl (x_lookup rfl rfl rfl hr213) ?_
            refine L_val (v := (.int .i64 ((AL.get ((hist (List.take k_186 (PS.decs S_36))).1) d205.pl).getD 0))) (w' := w210) rfl rfl rfl rfl ?_
            refine L_nil ?_
            refine W_seq ?_
            refine W_seq ?_
            refine W_region_lit ?_
            refine L_val (v := (.int .i64 ((AL.get ((hist (List.take k_186 (PS.decs S_36))).1) d205.pl).getD 0))) (w' := w210) rfl rfl rfl rfl ?_
            refine L_val (v := (.bool (decide (((AL.get ((hist (List.take k_186 (PS.decs S_36))).1) d205.pl).getD 0) < 0)))) (w' := w210) rfl rfl rfl (by kernel_rfl) ?_
            refine L_val (v := (.bool (decide (((AL.get ((hist (List.take k_186 (PS.decs S_36))).1) d205.pl).getD 0) < 0)))) (w' := w210) rfl rfl rfl rfl ?_
            have c215 : (decide (((AL.get ((hist (List.take k_186 (PS.decs S_36))).1) d205.pl).getD 0) < 0)) = false := decide_eq_false (by omega)
            have q216 := of_decide_eq_false c215
            refine L_guard rfl rfl rfl rfl c215 ?_
            refine L_val (v := (ptr b207 2)) (w' := w210) rfl rfl rfl (by kernel_rfl) ?_
            refine L_guard rfl rfl rfl rfl c215 ?_
            refine L_val (v := (.int .i64 d205.tier)) (w' := w210) rfl rfl rfl (x_load rfl rfl (run_loadVar_one ti_3 (hst211.blk (i := 0) rfl) rfl)) ?_
            refine L_guard rfl rfl rfl rfl c215 ?_
            refine L_val (v := (.int .i64 ((AL.get ((hist (List.take k_186 (PS.decs S_36))).1) d205.pl).getD 0))) (w' := w210) rfl rfl rfl rfl ?_
            refine L_guard rfl rfl rfl rfl c215 ?_
            refine L_val (v := (.int .i64 (((AL.get ((hist (List.take k_186 (PS.decs S_36))).1) d205.pl).getD 0) + 1))) (w' := w210) rfl rfl rfl (x_add rfl rfl rfl (by constructor <;> omega)) ?_
            refine L_guard rfl rfl rfl rfl c215 ?_
            refine L_val (v := (.bool (decide (d205.tier > ((AL.get ((hist (List.take k_186 (PS.decs S_36))).1) d205.pl).getD 0) + 1)))) (w' := w210) rfl rfl rfl (by kernel_rfl) ?_
            refine L_val (v := (.bool (decide (d205.tier > ((AL.get ((hist (List.take k_186 (PS.decs S_36))).1) d205.pl).getD 0) + 1)))) (w' := w210) rfl rfl rfl (x_pick rfl rfl (by rw [c215]; rfl)) ?_
            refine L_val (v := (.bool (decide (d205.tier > ((AL.get ((hist (List.take k_186 (PS.decs S_36))).1) d205.pl).getD 0) + 1)))) (w' := w210) rfl rfl rfl rfl ?_
            have c217 : (decide (d205.tier > ((AL.get ((hist (List.take k_186 (PS.decs S_36))).1) d205.pl).getD 0) + 1)) = false := decide_eq_false (by omega)
            have q218 := of_decide_eq_false c217
            refine L_guard rfl rfl rfl rfl c217 ?_
            refine L_val (v := (ptr b207 2)) (w' := w210) rfl rfl rfl (by kernel_rfl) ?_
            refine L_guard rfl rfl rfl rfl c217 ?_
            refine L_val (v := (.int .i64 d205.tier)) (w' := w210) rfl rfl rfl (x_load rfl rfl (run_loadVar_one ti_3 (hst211.blk (i := 0) rfl) rfl)) ?_
            refine L_guard rfl rfl rfl rfl c217 ?_
            refine L_val (v := (.int .i64 ((AL.get ((hist (List.take k_186 (PS.decs S_36))).1) d205.pl).getD 0))) (w' := w210) rfl rfl rfl rfl ?_
            refine L_guard rfl rfl rfl rfl c217 ?_
            refine L_val (v := (.bool (d205.tier == ((AL.get ((hist (List.take k_186 (PS.decs S_36))).1) d205.pl).getD 0)))) (w' := w210) rfl rfl rfl (by kernel_rfl) ?_
            refine L_val (v := (.bool (d205.tier == ((AL.get ((hist (List.take k_186 (PS.decs S_36))).1) d205.pl).getD 0)))) (w' := w210) rfl rfl rfl (x_pick rfl rfl (by rw [c217]; rfl)) ?_
            refine L_val (v := (.bool (d205.tier == ((AL.get ((hist (List.take k_186 (PS.decs S_36))).1) d205.pl).getD 0)))) (w' := w210) rfl rfl rfl rfl ?_
            have c219 : (d205.tier == ((AL.get ((hist (List.take k_186 (PS.decs S_36))).1) d205.pl).getD 0)) = false := beq_false_of_ne hcne
            have q220 := ne_of_beq_false c219
            refine L_guard rfl rfl rfl rfl c219 ?_
            refine L_val (v := (ptr b207 2)) (w' := w210) rfl rfl rfl (by kernel_rfl) ?_
            refine L_guard rfl rfl rfl rfl c219 ?_
            refine L_val (v := (.int .i64 d205.tier)) (w' := w210) rfl rfl rfl (x_load rfl rfl (run_loadVar_one ti_3 (hst211.blk (i := 0) rfl) rfl)) ?_
            refine L_guard rfl rfl rfl rfl c219 ?_
            refine L_val (v := (.bool (decide (d205.tier < (-1))))) (w' := w210) rfl rfl rfl (by kernel_rfl) ?_
            refine L_val (v := (.bool (decide (d205.tier < (-1))))) (w' := w210) rfl rfl rfl (x_pick rfl rfl (by rw [c219]; rfl)) ?_
            refine L_val (v := (.bool (decide (d205.tier < (-1))))) (w' := w210) rfl rfl rfl rfl ?_
            have c221 : (decide (d205.tier < (-1))) = false := decide_eq_false (by omega)
            have q222 := of_decide_eq_false c221
            refine L_guard rfl rfl rfl rfl c221 ?_
            refine L_val (v := (ptr b207 3)) (w' := w210) rfl rfl rfl (by kernel_rfl) ?_
            refine L_guard rfl rfl rfl rfl c221 ?_
            refine L_val (v := (.string d205.reason)) (w' := w210) rfl rfl rfl (x_load rfl rfl (run_loadVar_one ti_9 (hst211.blk (i := 0) rfl) rfl)) ?_
            refine L_guard rfl rfl rfl rfl c221 ?_
            refine L_val (v := (.bool ((d205.reason).toList == (⟨#[]⟩ : ByteArray).toList))) (w' := w210) rfl rfl rfl (x_eqlS rfl rfl rfl) ?_
            refine L_val (v := (.bool ((d205.reason).toList == (⟨#[]⟩ : ByteArray).toList))) (w' := w210) rfl rfl rfl (x_pick rfl rfl (by rw [c221]; rfl)) ?_
            refine L_nil ?_
            have c223 : ((d205.reason).toList == (⟨#[]⟩ : ByteArray).toList) = false := toList_ne hch.reason
            refine W_cond_false (by show Value.bool _ = _; exact congrArg Value.bool c223) ?_
            refine W_skip ?_
            refine W_seq ?_
            refine W_seq ?_
            refine W_region_lit ?_
            refine L_val (v := (ptr b207 2)) (w' := w210) rfl rfl rfl (by kernel_rfl) ?_
            refine L_val (v := (.int .i64 d205.tier)) (w' := w210) rfl rfl rfl (x_load rfl rfl (run_loadVar_one ti_3 (hst211.blk (i := 0) rfl) rfl)) ?_
            refine L_val (v := (.int .i64 ((AL.get ((hist (List.take k_186 (PS.decs S_36))).1) d205.pl).getD 0))) (w' := w210) rfl rfl rfl rfl ?_
            refine L_val (v := (.bool (decide (d205.tier < ((AL.get ((hist (List.take k_186 (PS.decs S_36))).1) d205.pl).getD 0))))) (w' := w210) rfl rfl rfl (by kernel_rfl) ?_
            refine L_nil ?_
            rcases Bool.eq_false_or_eq_true (decide (d205.tier < ((AL.get ((hist (List.take k_186 (PS.decs S_36))).1) d205.pl).getD 0))) with c224 | c224
            · skip
              have q225 := of_decide_eq_true c224
              refine W_cond_true (by show Value.bool _ = _; exact congrArg Value.bool c224) ?_
              refine W_region_draw [5, 7] (fun w => Le R168 (hp w) ∧ Le (one b207 (.cells #[(.int .i64 d205.pl.1), (.int .i64 d205.pl.2), (.int .i64 d205.tier), (.string d205.reason)] 49 (0, 0))) (hp w)) hmix (by decide +kernel) (fun _ _ h => h) ?_
              have hst227 := hst211.draws (w210.drawn + 1)
              generalize draws w210 (w210.drawn + 1) = w226 at hst227 ⊢
              refine LA_takeP (v := (.map (some b150))) 0 rfl rfl rfl (by decide +kernel) (by decide +kernel) (by decide +kernel) (by decide +kernel) (fun _ _ _ h => h) (Want.plain rfl) (fun u229 => rfl) (fun _ => ⟨hst227.rle', hst227.get (i := 0) rfl⟩) ?_
              refine LA_takeP (v := (ptr b207 0)) 1 rfl rfl rfl (by decide +kernel) (by decide +kernel) (by decide +kernel) (by decide +kernel) (fun _ _ _ h => h) (Want.plain rfl) (fun u232 => (by kernel_rfl)) (fun _ => ⟨hst227.rle', hst227.get (i := 0) rfl⟩) ?_
              refine LA_take (v := (.agg #[(.int .i64 d205.pl.1), (.int .i64 d205.pl.2)])) 2 rfl rfl rfl (by decide +kernel) (by decide +kernel) (by decide +kernel) (by decide +kernel) (by decide +kernel) (fun _ _ _ h => h) (Want.plain rfl) (fun u235 hF236 => (x_load rfl rfl (run_loadVar_agg ti_43 (hF236.2 _ _ (one_self _ _)) (l := [(.int .i64 d205.pl.1), (.int .i64 d205.pl.2)]) rfl rfl))) ⟨hst227.rle', hst227.get (i := 0) rfl⟩ ?_
              refine LA_all [3, 5] (by decide +kernel) (by simp) ?_
              intro i_ hi_
              simp only [List.mem_cons, List.not_mem_nil, or_false] at hi_
              rcases hi_ with rfl | rfl
              · skip
                obtain ⟨v238, hr239, hv240⟩ := MapC.lookupD (w := w226) hi183 (hst227.get (i := 3) rfl) law43 mt_47 ti_3 d205.pl false 0 rfl
                have hv240' : v238 = .int .i64 ((AL.get ((hist (List.take k_186 (PS.decs S_36))).2) d205.pl).getD 0) := hv240
                subst hv240'
                refine One_val (i := 3) (v := (.int .i64 ((AL.get ((hist (List.take k_186 (PS.decs S_36))).2) d205.pl).getD 0))) rfl rfl rfl (Want.plain rfl) (x_lookup rfl rfl rfl hr239) (fun _ => ⟨hst227.rle', hst227.get (i := 0) rfl⟩) ?_
                refine LA_takeP (v := (.int .i64 (((AL.get ((hist (List.take k_186 (PS.decs S_36))).2) d205.pl).getD 0) + 1))) 4 rfl rfl rfl (by decide +kernel) (by decide +kernel) (by decide +kernel) (by decide +kernel) (fun _ _ _ h => h) (Want.plain rfl) (fun u242 => (x_add rfl rfl rfl (by constructor <;> omega))) (fun _ => ⟨hst227.rle', hst227.get (i := 0) rfl⟩) ?_
                refine LA_all [5] (by decide +kernel) (by simp) ?_
                intro i_ hi_
                simp only [List.mem_cons, List.not_mem_nil, or_false] at hi_
                subst hi_
                obtain ⟨v245, sn246, ob247, w248, hr249, hst250, hk251, hm252⟩ := MapC.entry0 hi183 (hst227.front 3 rfl rfl) law43 mt_47 ti_3 d205.pl 0 rfl
                refine One_val (i := 5) (v := .tuple #[v245, int sn246]) rfl rfl rfl (Want.plain rfl) (x_mapEntry rfl rfl rfl hr249) (fun h => absurd h (by decide +kernel)) ?_
                refine LA_takeP (v := (.int .i64 sn246)) 6 rfl rfl rfl (by decide +kernel) (by decide +kernel) (by decide +kernel) (by decide +kernel) (fun _ _ _ h => h) (Want.plain rfl) (fun u254 => (by kernel_rfl)) (fun h => absurd h (by decide +kernel)) ?_
                refine LA_all [7] (by decide +kernel) (by simp) ?_
                intro i_ hi_
                simp only [List.mem_cons, List.not_mem_nil, or_false] at hi_
                subst hi_
                obtain ⟨c257, w258, hr259, hm260, hst261⟩ := hk251 _ _ _ (((AL.get ((hist (List.take k_186 (PS.decs S_36))).2) d205.pl).getD 0) + 1) (.int .i64 (((AL.get ((hist (List.take k_186 (PS.decs S_36))).2) d205.pl).getD 0) + 1)) hst250 rfl
                refine One_skip (i := 7) rfl rfl (Want.plain rfl) (x_entryStore rfl rfl rfl rfl hr259) (fun h => absurd h (by decide +kernel)) ?_
                refine LA_done (by decide +kernel) ?_
                refine W_seq ?_
                refine W_seq ?_
                have hff := hch.lo (of_decide_eq_true c224)
                refine W_region_draw [] (fun w => Le R168 (hp w) ∧ Le c257 (hp w) ∧ Le (one b207 (.cells #[(.int .i64 d205.pl.1), (.int .i64 d205.pl.2), (.int .i64 d205.tier), (.string d205.reason)] 49 (0, 0))) (hp w) ∧ Le c164 (hp w) ∧ Le cT187 (hp w)) hmix (by decide +kernel) (fun _ _ h => h) ?_
                have hst263 := hst261.draws (w258.drawn + 1)
                generalize draws w258 (w258.drawn + 1) = w262 at hst263 ⊢
                refine LA_takeP (v := (ptr b207 2)) 0 rfl rfl rfl (by decide +kernel) (by decide +kernel) (by decide +kernel) (by decide +kernel) (fun _ _ _ h => h) (Want.plain rfl) (fun u265 => (by kernel_rfl)) (fun _ => ⟨hst263.rle', hst263.get (i := 0) rfl, hst263.get (i := 1) rfl, hst263.get (i := 2) rfl, hst263.get (i := 3) rfl⟩) ?_
                refine LA_take (v := (.int .i64 d205.tier)) 1 rfl rfl rfl (by decide +kernel) (by decide +kernel) (by decide +kernel) (by decide +kernel) (by decide +kernel) (fun _ _ _ h => h) (Want.plain rfl) (fun u268 hF269 => (x_load rfl rfl (run_loadVar_one ti_3 (hF269.2.2.1 _ _ (one_self _ _)) rfl))) ⟨hst263.rle', hst263.get (i := 0) rfl, hst263.get (i := 1) rfl, hst263.get (i := 2) rfl, hst263.get (i := 3) rfl⟩ ?_
                refine LA_takeP (v := (.bool (d205.tier == (-1)))) 2 rfl rfl rfl (by decide +kernel) (by decide +kernel) (by decide +kernel) (by decide +kernel) (fun _ _ _ h => h) (Want.plain rfl) (fun u271 => (by kernel_rfl)) (fun _ => ⟨hst263.rle', hst263.get (i := 0) rfl, hst263.get (i := 1) rfl, hst263.get (i := 2) rfl, hst263.get (i := 3) rfl⟩) ?_
                refine LA_takeP (v := (.map (some b150))) 3 rfl rfl rfl (by decide +kernel) (by decide +kernel) (by decide +kernel) (by decide +kernel) (fun _ _ _ h => h) (Want.plain rfl) (fun u274 => rfl) (fun _ => ⟨hst263.rle', hst263.get (i := 0) rfl, hst263.get (i := 1) rfl, hst263.get (i := 2) rfl, hst263.get (i := 3) rfl⟩) ?_
                refine LA_takeP (v := (ptr b207 0)) 4 rfl rfl rfl (by decide +kernel) (by decide +kernel) (by decide +kernel) (by decide +kernel) (fun _ _ _ h => h) (Want.plain rfl) (fun u277 => (by kernel_rfl)) (fun _ => ⟨hst263.rle', hst263.get (i := 0) rfl, hst263.get (i := 1) rfl, hst263.get (i := 2) rfl, hst263.get (i := 3) rfl⟩) ?_
                refine LA_take (v := (.agg #[(.int .i64 d205.pl.1), (.int .i64 d205.pl.2)])) 5 rfl rfl rfl (by decide +kernel) (by decide +kernel) (by decide +kernel) (by decide +kernel) (by decide +kernel) (fun _ _ _ h => h) (Want.plain rfl) (fun u280 hF281 => (x_load rfl rfl (run_loadVar_agg ti_43 (hF281.2.2.1 _ _ (one_self _ _)) (l := [(.int .i64 d205.pl.1), (.int .i64 d205.pl.2)]) rfl rfl))) ⟨hst263.rle', hst263.get (i := 0) rfl, hst263.get (i := 1) rfl, hst263.get (i := 2) rfl, hst263.get (i := 3) rfl⟩ ?_
                refine LA_take (v := (.int .i64 ((AL.get (AL.set ((hist (List.take k_186 (PS.decs S_36))).2) d205.pl (((AL.get ((hist (List.take k_186 (PS.decs S_36))).2) d205.pl).getD 0) + 1)) d205.pl).getD 0))) 6 rfl rfl rfl (by decide +kernel) (by decide +kernel) (by decide +kernel) (by decide +kernel) (by decide +kernel) (fun _ _ _ h => h) (Want.plain rfl) (fun u283 hF284 => x_lookup rfl rfl rfl (MapC.lookupP hm260 hF284.2.1 law43 mt_47 ti_3 d205.pl false 0 rfl)) ⟨hst263.rle', hst263.get (i := 0) rfl, hst263.get (i := 1) rfl, hst263.get (i := 2) rfl, hst263.get (i := 3) rfl⟩ ?_
                refine LA_takeP (v := (.bool (((AL.get (AL.set ((hist (List.take k_186 (PS.decs S_36))).2) d205.pl (((AL.get ((hist (List.take k_186 (PS.decs S_36))).2) d205.pl).getD 0) + 1)) d205.pl).getD 0) == 3))) 7 rfl rfl rfl (by decide +kernel) (by decide +kernel) (by decide +kernel) (by decide +kernel) (fun _ _ _ h => h) (Want.plain rfl) (fun u286 => (by kernel_rfl)) (fun _ => ⟨hst263.rle', hst263.get (i := 0) rfl, hst263.get (i := 1) rfl, hst263.get (i := 2) rfl, hst263.get (i := 3) rfl⟩) ?_
                refine LA_takeP (v := (.bool ((d205.tier == (-1)) != (((AL.get (AL.set ((hist (List.take k_186 (PS.decs S_36))).2) d205.pl (((AL.get ((hist (List.take k_186 (PS.decs S_36))).2) d205.pl).getD 0) + 1)) d205.pl).getD 0) == 3)))) 8 rfl rfl rfl (by decide +kernel) (by decide +kernel) (by decide +kernel) (by decide +kernel) (fun _ _ _ h => h) (Want.plain rfl) (fun u289 => (by kernel_rfl)) (fun _ => ⟨hst263.rle', hst263.get (i := 0) rfl, hst263.get (i := 1) rfl, hst263.get (i := 2) rfl, hst263.get (i := 3) rfl⟩) ?_
                refine LA_takeP (v := (.bool ((d205.tier == (-1)) != (((AL.get (AL.set ((hist (List.take k_186 (PS.decs S_36))).2) d205.pl (((AL.get ((hist (List.take k_186 (PS.decs S_36))).2) d205.pl).getD 0) + 1)) d205.pl).getD 0) == 3)))) 9 rfl rfl rfl (by decide +kernel) (by decide +kernel) (by decide +kernel) (by decide +kernel) (fun _ _ _ h => h) (Want.plain rfl) (fun u292 => rfl) (fun _ => ⟨hst263.rle', hst263.get (i := 0) rfl, hst263.get (i := 1) rfl, hst263.get (i := 2) rfl, hst263.get (i := 3) rfl⟩) ?_
                have c295 : ((d205.tier == (-1)) != (((AL.get (AL.set ((hist (List.take k_186 (PS.decs S_36))).2) d205.pl (((AL.get ((hist (List.take k_186 (PS.decs S_36))).2) d205.pl).getD 0) + 1)) d205.pl).getD 0) == 3)) = false := hff.1
                refine LA_takeP (v := (.map (some b150))) 10 rfl rfl rfl (by decide +kernel) (by decide +kernel) (by decide +kernel) (by decide +kernel) (fun _ _ _ h => h) (Want.of rfl rfl rfl rfl (by rw [c295]; rfl)) (fun u297 => rfl) (fun _ => ⟨hst263.rle', hst263.get (i := 0) rfl, hst263.get (i := 1) rfl, hst263.get (i := 2) rfl, hst263.get (i := 3) rfl⟩) ?_
                refine LA_takeP (v := (ptr b207 0)) 11 rfl rfl rfl (by decide +kernel) (by decide +kernel) (by decide +kernel) (by decide +kernel) (fun _ _ _ h => h) (Want.of rfl rfl rfl rfl (by rw [c295]; rfl)) (fun u300 => (by kernel_rfl)) (fun _ => ⟨hst263.rle', hst263.get (i := 0) rfl, hst263.get (i := 1) rfl, hst263.get (i := 2) rfl, hst263.get (i := 3) rfl⟩) ?_
                refine LA_take (v := (.agg #[(.int .i64 d205.pl.1), (.int .i64 d205.pl.2)])) 12 rfl rfl rfl (by decide +kernel) (by decide +kernel) (by decide +kernel) (by decide +kernel) (by decide +kernel) (fun _ _ _ h => h) (Want.of rfl rfl rfl rfl (by rw [c295]; rfl)) (fun u303 hF304 => (x_load rfl rfl (run_loadVar_agg ti_43 (hF304.2.2.1 _ _ (one_self _ _)) (l := [(.int .i64 d205.pl.1), (.int .i64 d205.pl.2)]) rfl rfl))) ⟨hst263.rle', hst263.get (i := 0) rfl, hst263.get (i := 1) rfl, hst263.get (i := 2) rfl, hst263.get (i := 3) rfl⟩ ?_
                refine LA_take (v := (.int .i64 ((AL.get (AL.set ((hist (List.take k_186 (PS.decs S_36))).2) d205.pl (((AL.get ((hist (List.take k_186 (PS.decs S_36))).2) d205.pl).getD 0) + 1)) d205.pl).getD 0))) 13 rfl rfl rfl (by decide +kernel) (by decide +kernel) (by decide +kernel) (by decide +kernel) (by decide +kernel) (fun _ _ _ h => h) (Want.of rfl rfl rfl rfl (by rw [c295]; rfl)) (fun u306 hF307 => x_lookup rfl rfl rfl (MapC.lookupP hm260 hF307.2.1 law43 mt_47 ti_3 d205.pl false 0 rfl)) ⟨hst263.rle', hst263.get (i := 0) rfl, hst263.get (i := 1) rfl, hst263.get (i := 2) rfl, hst263.get (i := 3) rfl⟩ ?_
                refine LA_takeP (v := (.bool (decide (((AL.get (AL.set ((hist (List.take k_186 (PS.decs S_36))).2) d205.pl (((AL.get ((hist (List.take k_186 (PS.decs S_36))).2) d205.pl).getD 0) + 1)) d205.pl).getD 0) > 3)))) 14 rfl rfl rfl (by decide +kernel) (by decide +kernel) (by decide +kernel) (by decide +kernel) (fun _ _ _ h => h) (Want.of rfl rfl rfl rfl (by rw [c295]; rfl)) (fun u309 => (by kernel_rfl)) (fun _ => ⟨hst263.rle', hst263.get (i := 0) rfl, hst263.get (i := 1) rfl, hst263.get (i := 2) rfl, hst263.get (i := 3) rfl⟩) ?_
                refine LA_takeP (v := (.bool (decide (((AL.get (AL.set ((hist (List.take k_186 (PS.decs S_36))).2) d205.pl (((AL.get ((hist (List.take k_186 (PS.decs S_36))).2) d205.pl).getD 0) + 1)) d205.pl).getD 0) > 3)))) 15 rfl rfl rfl (by decide +kernel) (by decide +kernel) (by decide +kernel) (by decide +kernel) (fun _ _ _ h => h) (Want.plain rfl) (fun u312 => (x_pick rfl rfl (by rw [c295]; rfl))) (fun _ => ⟨hst263.rle', hst263.get (i := 0) rfl, hst263.get (i := 1) rfl, hst263.get (i := 2) rfl, hst263.get (i := 3) rfl⟩) ?_
                refine LA_done (by decide +kernel) ?_
                have c314 : (decide (((AL.get (AL.set ((hist (List.take k_186 (PS.decs S_36))).2) d205.pl (((AL.get ((hist (List.take k_186 (PS.decs S_36))).2) d205.pl).getD 0) + 1)) d205.pl).getD 0) > 3)) = false := hff.2
                have q315 := of_decide_eq_false c314
                refine W_cond_false (by show Value.bool _ = _; exact congrArg Value.bool c314) ?_
                refine W_skip ?_
                refine W_region_lit ?_
                refine L_val (v := (.map (some b145))) (w' := w262) rfl rfl rfl rfl ?_
                refine L_val (v := (ptr b207 0)) (w' := w262) rfl rfl rfl (by kernel_rfl) ?_
                refine L_val (v := (.agg #[(.int .i64 d205.pl.1), (.int .i64 d205.pl.2)])) (w' := w262) rfl rfl rfl (x_load rfl rfl (run_loadVar_agg ti_43 (hst263.blk (i := 1) rfl) (l := [(.int .i64 d205.pl.1), (.int .i64 d205.pl.2)]) rfl rfl)) ?_
                refine L_val (v := (ptr b207 2)) (w' := w262) rfl rfl rfl (by kernel_rfl) ?_
                refine L_val (v := (.int .i64 d205.tier)) (w' := w262) rfl rfl rfl (x_load rfl rfl (run_loadVar_one ti_3 (hst263.blk (i := 1) rfl) rfl)) ?_
                obtain ⟨c316, w317, hr318, hm319, hst320⟩ := MapC.update hi182 (hst263.front 3 rfl rfl) law43 mt_47 d205.pl d205.tier (.int .i64 d205.tier) rfl
                refine L_skip rfl rfl (x_mapUpdate rfl rfl rfl rfl hr318) ?_
                refine L_nil ?_
                refine W_region_lit ?_
                refine L_val (v := (.int .i64 ((k_186 + 1 : Nat) : Int))) (w' := w317) rfl rfl rfl (x_add_nat rfl rfl rfl (by omega)) ?_
                refine L_val (v := (.int .i64 ((k_186 + 1 : Nat) : Int))) (w' := w317) rfl rfl rfl rfl ?_
                refine L_nil ?_
                refine ⟨(PS.decs S_36).length - (k_186 + 1), by first | omega | (simp only [List.length_append, List.length_cons, List.length_nil]; omega), ?_⟩
                exact ⟨_, (k_186 + 1), c316, c257, (upd_of (upd_of (upd_of (upd_of (upd_of (upd_of (upd_of (upd_of (upd_of (upd_of (upd_of (upd_of (upd_of (upd_of (upd_of (upd_of (upd_of (upd_of (upd_of (upd_of (upd_of (upd_of (upd_of (upd_of (upd_of (upd_of (upd_of (upd_of rfl rfl) rfl) rfl) rfl) rfl) rfl) rfl) rfl) rfl) rfl) rfl) rfl) rfl) rfl) rfl) rfl) rfl) rfl) rfl) rfl) rfl) rfl) rfl) rfl) rfl) rfl) rfl) rfl), hmk178, ((((hst320.front 1 rfl rfl).front 1 rfl rfl).front 3 rfl rfl).keepN 3 rfl), (by rw [hist_take (by omega) hd206]; exact hm319), (by rw [hist_take (by omega) hd206, stepF_lo (of_decide_eq_true c224)]; exact hm260), (by omega), rfl⟩
              · skip
                obtain ⟨v321, sn322, ob323, w324, hr325, hst326, hk327, hm328⟩ := MapC.entry0 hi183 (hst227.front 3 rfl rfl) law43 mt_47 ti_3 d205.pl 0 rfl
                refine One_val (i := 5) (v := .tuple #[v321, int sn322]) rfl rfl rfl (Want.plain rfl) (x_mapEntry rfl rfl rfl hr325) (fun h => absurd h (by decide +kernel)) ?_
                refine LA_takeP (v := (.int .i64 sn322)) 6 rfl rfl rfl (by decide +kernel) (by decide +kernel) (by decide +kernel) (by decide +kernel) (fun _ _ _ h => h) (Want.plain rfl) (fun u330 => (by kernel_rfl)) (fun h => absurd h (by decide +kernel)) ?_
                refine LA_all [3] (by decide +kernel) (by simp) ?_
                intro i_ hi_
                simp only [List.mem_cons, List.not_mem_nil, or_false] at hi_
                subst hi_
                obtain ⟨v333, hr334, hv335⟩ := MapC.lookupD (w := w324) hm328 (hst326.get (i := 0) rfl) law43 mt_47 ti_3 d205.pl false 0 rfl
                rw [AL.get_set, if_pos rfl, Option.getD_some] at hv335
                have hv335' : v333 = .int .i64 ((AL.get ((hist (List.take k_186 (PS.decs S_36))).2) d205.pl).getD 0) := hv335
                subst hv335'
                refine One_val (i := 3) (v := (.int .i64 ((AL.get ((hist (List.take k_186 (PS.decs S_36))).2) d205.pl).getD 0))) rfl rfl rfl (Want.plain rfl) (x_lookup rfl rfl rfl hr334) (fun h => absurd h (by decide +kernel)) ?_
                refine LA_takeP (v := (.int .i64 (((AL.get ((hist (List.take k_186 (PS.decs S_36))).2) d205.pl).getD 0) + 1))) 4 rfl rfl rfl (by decide +kernel) (by decide +kernel) (by decide +kernel) (by decide +kernel) (fun _ _ _ h => h) (Want.plain rfl) (fun u337 => (x_add rfl rfl rfl (by constructor <;> omega))) (fun h => absurd h (by decide +kernel)) ?_
                refine LA_all [7] (by decide +kernel) (by simp) ?_
                intro i_ hi_
                simp only [List.mem_cons, List.not_mem_nil, or_false] at hi_
                subst hi_
                obtain ⟨c340, w341, hr342, hm343, hst344⟩ := hk327 _ _ _ (((AL.get ((hist (List.take k_186 (PS.decs S_36))).2) d205.pl).getD 0) + 1) (.int .i64 (((AL.get ((hist (List.take k_186 (PS.decs S_36))).2) d205.pl).getD 0) + 1)) hst326 rfl
                refine One_skip (i := 7) rfl rfl (Want.plain rfl) (x_entryStore rfl rfl rfl rfl hr342) (fun h => absurd h (by decide +kernel)) ?_
                refine LA_done (by decide +kernel) ?_
                refine W_seq ?_
                refine W_seq ?_
                have hff := hch.lo (of_decide_eq_true c224)
                refine W_region_draw [] (fun w => Le R168 (hp w) ∧ Le c340 (hp w) ∧ Le (one b207 (.cells #[(.int .i64 d205.pl.1), (.int .i64 d205.pl.2), (.int .i64 d205.tier), (.string d205.reason)] 49 (0, 0))) (hp w) ∧ Le c164 (hp w) ∧ Le cT187 (hp w)) hmix (by decide +kernel) (fun _ _ h => h) ?_
                have hst346 := hst344.draws (w341.drawn + 1)
                generalize draws w341 (w341.drawn + 1) = w345 at hst346 ⊢
                refine LA_takeP (v := (ptr b207 2)) 0 rfl rfl rfl (by decide +kernel) (by decide +kernel) (by decide +kernel) (by decide +kernel) (fun _ _ _ h => h) (Want.plain rfl) (fun u348 => (by kernel_rfl)) (fun _ => ⟨hst346.rle', hst346.get (i := 0) rfl, hst346.get (i := 1) rfl, hst346.get (i := 2) rfl, hst346.get (i := 3) rfl⟩) ?_
                refine LA_take (v := (.int .i64 d205.tier)) 1 rfl rfl rfl (by decide +kernel) (by decide +kernel) (by decide +kernel) (by decide +kernel) (by decide +kernel) (fun _ _ _ h => h) (Want.plain rfl) (fun u351 hF352 => (x_load rfl rfl (run_loadVar_one ti_3 (hF352.2.2.1 _ _ (one_self _ _)) rfl))) ⟨hst346.rle', hst346.get (i := 0) rfl, hst346.get (i := 1) rfl, hst346.get (i := 2) rfl, hst346.get (i := 3) rfl⟩ ?_
                refine LA_takeP (v := (.bool (d205.tier == (-1)))) 2 rfl rfl rfl (by decide +kernel) (by decide +kernel) (by decide +kernel) (by decide +kernel) (fun _ _ _ h => h) (Want.plain rfl) (fun u354 => (by kernel_rfl)) (fun _ => ⟨hst346.rle', hst346.get (i := 0) rfl, hst346.get (i := 1) rfl, hst346.get (i := 2) rfl, hst346.get (i := 3) rfl⟩) ?_
                refine LA_takeP (v := (.map (some b150))) 3 rfl rfl rfl (by decide +kernel) (by decide +kernel) (by decide +kernel) (by decide +kernel) (fun _ _ _ h => h) (Want.plain rfl) (fun u357 => rfl) (fun _ => ⟨hst346.rle', hst346.get (i := 0) rfl, hst346.get (i := 1) rfl, hst346.get (i := 2) rfl, hst346.get (i := 3) rfl⟩) ?_
                refine LA_takeP (v := (ptr b207 0)) 4 rfl rfl rfl (by decide +kernel) (by decide +kernel) (by decide +kernel) (by decide +kernel) (fun _ _ _ h => h) (Want.plain rfl) (fun u360 => (by kernel_rfl)) (fun _ => ⟨hst346.rle', hst346.get (i := 0) rfl, hst346.get (i := 1) rfl, hst346.get (i := 2) rfl, hst346.get (i := 3) rfl⟩) ?_
                refine LA_take (v := (.agg #[(.int .i64 d205.pl.1), (.int .i64 d205.pl.2)])) 5 rfl rfl rfl (by decide +kernel) (by decide +kernel) (by decide +kernel) (by decide +kernel) (by decide +kernel) (fun _ _ _ h => h) (Want.plain rfl) (fun u363 hF364 => (x_load rfl rfl (run_loadVar_agg ti_43 (hF364.2.2.1 _ _ (one_self _ _)) (l := [(.int .i64 d205.pl.1), (.int .i64 d205.pl.2)]) rfl rfl))) ⟨hst346.rle', hst346.get (i := 0) rfl, hst346.get (i := 1) rfl, hst346.get (i := 2) rfl, hst346.get (i := 3) rfl⟩ ?_
                refine LA_take (v := (.int .i64 ((AL.get (AL.set ((hist (List.take k_186 (PS.decs S_36))).2) d205.pl (((AL.get ((hist (List.take k_186 (PS.decs S_36))).2) d205.pl).getD 0) + 1)) d205.pl).getD 0))) 6 rfl rfl rfl (by decide +kernel) (by decide +kernel) (by decide +kernel) (by decide +kernel) (by decide +kernel) (fun _ _ _ h => h) (Want.plain rfl) (fun u366 hF367 => x_lookup rfl rfl rfl (MapC.lookupP hm343 hF367.2.1 law43 mt_47 ti_3 d205.pl false 0 rfl)) ⟨hst346.rle', hst346.get (i := 0) rfl, hst346.get (i := 1) rfl, hst346.get (i := 2) rfl, hst346.get (i := 3) rfl⟩ ?_
                refine LA_takeP (v := (.bool (((AL.get (AL.set ((hist (List.take k_186 (PS.decs S_36))).2) d205.pl (((AL.get ((hist (List.take k_186 (PS.decs S_36))).2) d205.pl).getD 0) + 1)) d205.pl).getD 0) == 3))) 7 rfl rfl rfl (by decide +kernel) (by decide +kernel) (by decide +kernel) (by decide +kernel) (fun _ _ _ h => h) (Want.plain rfl) (fun u369 => (by kernel_rfl)) (fun _ => ⟨hst346.rle', hst346.get (i := 0) rfl, hst346.get (i := 1) rfl, hst346.get (i := 2) rfl, hst346.get (i := 3) rfl⟩) ?_
                refine LA_takeP (v := (.bool ((d205.tier == (-1)) != (((AL.get (AL.set ((hist (List.take k_186 (PS.decs S_36))).2) d205.pl (((AL.get ((hist (List.take k_186 (PS.decs S_36))).2) d205.pl).getD 0) + 1)) d205.pl).getD 0) == 3)))) 8 rfl rfl rfl (by decide +kernel) (by decide +kernel) (by decide +kernel) (by decide +kernel) (fun _ _ _ h => h) (Want.plain rfl) (fun u372 => (by kernel_rfl)) (fun _ => ⟨hst346.rle', hst346.get (i := 0) rfl, hst346.get (i := 1) rfl, hst346.get (i := 2) rfl, hst346.get (i := 3) rfl⟩) ?_
                refine LA_takeP (v := (.bool ((d205.tier == (-1)) != (((AL.get (AL.set ((hist (List.take k_186 (PS.decs S_36))).2) d205.pl (((AL.get ((hist (List.take k_186 (PS.decs S_36))).2) d205.pl).getD 0) + 1)) d205.pl).getD 0) == 3)))) 9 rfl rfl rfl (by decide +kernel) (by decide +kernel) (by decide +kernel) (by decide +kernel) (fun _ _ _ h => h) (Want.plain rfl) (fun u375 => rfl) (fun _ => ⟨hst346.rle', hst346.get (i := 0) rfl, hst346.get (i := 1) rfl, hst346.get (i := 2) rfl, hst346.get (i := 3) rfl⟩) ?_
                have c378 : ((d205.tier == (-1)) != (((AL.get (AL.set ((hist (List.take k_186 (PS.decs S_36))).2) d205.pl (((AL.get ((hist (List.take k_186 (PS.decs S_36))).2) d205.pl).getD 0) + 1)) d205.pl).getD 0) == 3)) = false := hff.1
                refine LA_takeP (v := (.map (some b150))) 10 rfl rfl rfl (by decide +kernel) (by decide +kernel) (by decide +kernel) (by decide +kernel) (fun _ _ _ h => h) (Want.of rfl rfl rfl rfl (by rw [c378]; rfl)) (fun u380 => rfl) (fun _ => ⟨hst346.rle', hst346.get (i := 0) rfl, hst346.get (i := 1) rfl, hst346.get (i := 2) rfl, hst346.get (i := 3) rfl⟩) ?_
                refine LA_takeP (v := (ptr b207 0)) 11 rfl rfl rfl (by decide +kernel) (by decide +kernel) (by decide +kernel) (by decide +kernel) (fun _ _ _ h => h) (Want.of rfl rfl rfl rfl (by rw [c378]; rfl)) (fun u383 => (by kernel_rfl)) (fun _ => ⟨hst346.rle', hst346.get (i := 0) rfl, hst346.get (i := 1) rfl, hst346.get (i := 2) rfl, hst346.get (i := 3) rfl⟩) ?_
                refine LA_take (v := (.agg #[(.int .i64 d205.pl.1), (.int .i64 d205.pl.2)])) 12 rfl rfl rfl (by decide +kernel) (by decide +kernel) (by decide +kernel) (by decide +kernel) (by decide +kernel) (fun _ _ _ h => h) (Want.of rfl rfl rfl rfl (by rw [c378]; rfl)) (fun u386 hF387 => (x_load rfl rfl (run_loadVar_agg ti_43 (hF387.2.2.1 _ _ (one_self _ _)) (l := [(.int .i64 d205.pl.1), (.int .i64 d205.pl.2)]) rfl rfl))) ⟨hst346.rle', hst346.get (i := 0) rfl, hst346.get (i := 1) rfl, hst346.get (i := 2) rfl, hst346.get (i := 3) rfl⟩ ?_
                refine LA_take (v := (.int .i64 ((AL.get (AL.set ((hist (List.take k_186 (PS.decs S_36))).2) d205.pl (((AL.get ((hist (List.take k_186 (PS.decs S_36))).2) d205.pl).getD 0) + 1)) d205.pl).getD 0))) 13 rfl rfl rfl (by decide +kernel) (by decide +kernel) (by decide +kernel) (by decide +kernel) (by decide +kernel) (fun _ _ _ h => h) (Want.of rfl rfl rfl rfl (by rw [c378]; rfl)) (fun u389 hF390 => x_lookup rfl rfl rfl (MapC.lookupP hm343 hF390.2.1 law43 mt_47 ti_3 d205.pl false 0 rfl)) ⟨hst346.rle', hst346.get (i := 0) rfl, hst346.get (i := 1) rfl, hst346.get (i := 2) rfl, hst346.get (i := 3) rfl⟩ ?_
                refine LA_takeP (v := (.bool (decide (((AL.get (AL.set ((hist (List.take k_186 (PS.decs S_36))).2) d205.pl (((AL.get ((hist (List.take k_186 (PS.decs S_36))).2) d205.pl).getD 0) + 1)) d205.pl).getD 0) > 3)))) 14 rfl rfl rfl (by decide +kernel) (by decide +kernel) (by decide +kernel) (by decide +kernel) (fun _ _ _ h => h) (Want.of rfl rfl rfl rfl (by rw [c378]; rfl)) (fun u392 => (by kernel_rfl)) (fun _ => ⟨hst346.rle', hst346.get (i := 0) rfl, hst346.get (i := 1) rfl, hst346.get (i := 2) rfl, hst346.get (i := 3) rfl⟩) ?_
                refine LA_takeP (v := (.bool (decide (((AL.get (AL.set ((hist (List.take k_186 (PS.decs S_36))).2) d205.pl (((AL.get ((hist (List.take k_186 (PS.decs S_36))).2) d205.pl).getD 0) + 1)) d205.pl).getD 0) > 3)))) 15 rfl rfl rfl (by decide +kernel) (by decide +kernel) (by decide +kernel) (by decide +kernel) (fun _ _ _ h => h) (Want.plain rfl) (fun u395 => (x_pick rfl rfl (by rw [c378]; rfl))) (fun _ => ⟨hst346.rle', hst346.get (i := 0) rfl, hst346.get (i := 1) rfl, hst346.get (i := 2) rfl, hst346.get (i := 3) rfl⟩) ?_
                refine LA_done (by decide +kernel) ?_
                have c397 : (decide (((AL.get (AL.set ((hist (List.take k_186 (PS.decs S_36))).2) d205.pl (((AL.get ((hist (List.take k_186 (PS.decs S_36))).2) d205.pl).getD 0) + 1)) d205.pl).getD 0) > 3)) = false := hff.2
                have q398 := of_decide_eq_false c397
                refine W_cond_false (by show Value.bool _ = _; exact congrArg Value.bool c397) ?_
                refine W_skip ?_
                refine W_region_lit ?_
                refine L_val (v := (.map (some b145))) (w' := w345) rfl rfl rfl rfl ?_
                refine L_val (v := (ptr b207 0)) (w' := w345) rfl rfl rfl (by kernel_rfl) ?_
                refine L_val (v := (.agg #[(.int .i64 d205.pl.1), (.int .i64 d205.pl.2)])) (w' := w345) rfl rfl rfl (x_load rfl rfl (run_loadVar_agg ti_43 (hst346.blk (i := 1) rfl) (l := [(.int .i64 d205.pl.1), (.int .i64 d205.pl.2)]) rfl rfl)) ?_
                refine L_val (v := (ptr b207 2)) (w' := w345) rfl rfl rfl (by kernel_rfl) ?_
                refine L_val (v := (.int .i64 d205.tier)) (w' := w345) rfl rfl rfl (x_load rfl rfl (run_loadVar_one ti_3 (hst346.blk (i := 1) rfl) rfl)) ?_
                obtain ⟨c399, w400, hr401, hm402, hst403⟩ := MapC.update hi182 (hst346.front 3 rfl rfl) law43 mt_47 d205.pl d205.tier (.int .i64 d205.tier) rfl
                refine L_skip rfl rfl (x_mapUpdate rfl rfl rfl rfl hr401) ?_
                refine L_nil ?_
                refine W_region_lit ?_
                refine L_val (v := (.int .i64 ((k_186 + 1 : Nat) : Int))) (w' := w400) rfl rfl rfl (x_add_nat rfl rfl rfl (by omega)) ?_
                refine L_val (v := (.int .i64 ((k_186 + 1 : Nat) : Int))) (w' := w400) rfl rfl rfl rfl ?_
                refine L_nil ?_
                refine ⟨(PS.decs S_36).length - (k_186 + 1), by first | omega | (simp only [List.length_append, List.length_cons, List.length_nil]; omega), ?_⟩
                exact ⟨_, (k_186 + 1), c399, c340, (upd_of (upd_of (upd_of (upd_of (upd_of (upd_of (upd_of (upd_of (upd_of (upd_of (upd_of (upd_of (upd_of (upd_of (upd_of (upd_of (upd_of (upd_of (upd_of (upd_of (upd_of (upd_of (upd_of (upd_of (upd_of (upd_of (upd_of (upd_of rfl rfl) rfl) rfl) rfl) rfl) rfl) rfl) rfl) rfl) rfl) rfl) rfl) rfl) rfl) rfl) rfl) rfl) rfl) rfl) rfl) rfl) rfl) rfl) rfl) rfl) rfl) rfl) rfl), hmk178, ((((hst403.front 1 rfl rfl).front 1 rfl rfl).front 3 rfl rfl).keepN 3 rfl), (by rw [hist_take (by omega) hd206]; exact hm402), (by rw [hist_take (by omega) hd206, stepF_lo (of_decide_eq_true c224)]; exact hm343), (by omega), rfl⟩
            · skip
              have q404 := of_decide_eq_false c224
              refine W_cond_false (by show Value.bool _ = _; exact congrArg Value.bool c224) ?_
              refine W_skip ?_
              refine W_seq ?_
              refine W_seq ?_
              have hff := hch.hi (of_decide_eq_false c224)
              refine W_region_draw [] (fun w => Le R168 (hp w) ∧ Le (one b207 (.cells #[(.int .i64 d205.pl.1), (.int .i64 d205.pl.2), (.int .i64 d205.tier), (.string d205.reason)] 49 (0, 0))) (hp w) ∧ Le c164 (hp w) ∧ Le cT187 (hp w) ∧ Le cF188 (hp w)) hmix (by decide +kernel) (fun _ _ h => h) ?_
              have hst406 := hst211.draws (w210.drawn + 1)
              generalize draws w210 (w210.drawn + 1) = w405 at hst406 ⊢
              refine LA_takeP (v := (ptr b207 2)) 0 rfl rfl rfl (by decide +kernel) (by decide +kernel) (by decide +kernel) (by decide +kernel) (fun _ _ _ h => h) (Want.plain rfl) (fun u408 => (by kernel_rfl)) (fun _ => ⟨hst406.rle', hst406.get (i := 0) rfl, hst406.get (i := 1) rfl, hst406.get (i := 2) rfl, hst406.get (i := 3) rfl⟩) ?_
              refine LA_take (v := (.int .i64 d205.tier)) 1 rfl rfl rfl (by decide +kernel) (by decide +kernel) (by decide +kernel) (by decide +kernel) (by decide +kernel) (fun _ _ _ h => h) (Want.plain rfl) (fun u411 hF412 => (x_load rfl rfl (run_loadVar_one ti_3 (hF412.2.1 _ _ (one_self _ _)) rfl))) ⟨hst406.rle', hst406.get (i := 0) rfl, hst406.get (i := 1) rfl, hst406.get (i := 2) rfl, hst406.get (i := 3) rfl⟩ ?_
              refine LA_takeP (v := (.bool (d205.tier == (-1)))) 2 rfl rfl rfl (by decide +kernel) (by decide +kernel) (by decide +kernel) (by decide +kernel) (fun _ _ _ h => h) (Want.plain rfl) (fun u414 => (by kernel_rfl)) (fun _ => ⟨hst406.rle', hst406.get (i := 0) rfl, hst406.get (i := 1) rfl, hst406.get (i := 2) rfl, hst406.get (i := 3) rfl⟩) ?_
              refine LA_takeP (v := (.map (some b150))) 3 rfl rfl rfl (by decide +kernel) (by decide +kernel) (by decide +kernel) (by decide +kernel) (fun _ _ _ h => h) (Want.plain rfl) (fun u417 => rfl) (fun _ => ⟨hst406.rle', hst406.get (i := 0) rfl, hst406.get (i := 1) rfl, hst406.get (i := 2) rfl, hst406.get (i := 3) rfl⟩) ?_
              refine LA_takeP (v := (ptr b207 0)) 4 rfl rfl rfl (by decide +kernel) (by decide +kernel) (by decide +kernel) (by decide +kernel) (fun _ _ _ h => h) (Want.plain rfl) (fun u420 => (by kernel_rfl)) (fun _ => ⟨hst406.rle', hst406.get (i := 0) rfl, hst406.get (i := 1) rfl, hst406.get (i := 2) rfl, hst406.get (i := 3) rfl⟩) ?_
              refine LA_take (v := (.agg #[(.int .i64 d205.pl.1), (.int .i64 d205.pl.2)])) 5 rfl rfl rfl (by decide +kernel) (by decide +kernel) (by decide +kernel) (by decide +kernel) (by decide +kernel) (fun _ _ _ h => h) (Want.plain rfl) (fun u423 hF424 => (x_load rfl rfl (run_loadVar_agg ti_43 (hF424.2.1 _ _ (one_self _ _)) (l := [(.int .i64 d205.pl.1), (.int .i64 d205.pl.2)]) rfl rfl))) ⟨hst406.rle', hst406.get (i := 0) rfl, hst406.get (i := 1) rfl, hst406.get (i := 2) rfl, hst406.get (i := 3) rfl⟩ ?_
              refine LA_take (v := (.int .i64 ((AL.get ((hist (List.take k_186 (PS.decs S_36))).2) d205.pl).getD 0))) 6 rfl rfl rfl (by decide +kernel) (by decide +kernel) (by decide +kernel) (by decide +kernel) (by decide +kernel) (fun _ _ _ h => h) (Want.plain rfl) (fun u426 hF427 => x_lookup rfl rfl rfl (MapC.lookupP hi183 hF427.2.2.2.2 law43 mt_47 ti_3 d205.pl false 0 rfl)) ⟨hst406.rle', hst406.get (i := 0) rfl, hst406.get (i := 1) rfl, hst406.get (i := 2) rfl, hst406.get (i := 3) rfl⟩ ?_
              refine LA_takeP (v := (.bool (((AL.get ((hist (List.take k_186 (PS.decs S_36))).2) d205.pl).getD 0) == 3))) 7 rfl rfl rfl (by decide +kernel) (by decide +kernel) (by decide +kernel) (by decide +kernel) (fun _ _ _ h => h) (Want.plain rfl) (fun u429 => (by kernel_rfl)) (fun _ => ⟨hst406.rle', hst406.get (i := 0) rfl, hst406.get (i := 1) rfl, hst406.get (i := 2) rfl, hst406.get (i := 3) rfl⟩) ?_
              refine LA_takeP (v := (.bool ((d205.tier == (-1)) != (((AL.get ((hist (List.take k_186 (PS.decs S_36))).2) d205.pl).getD 0) == 3)))) 8 rfl rfl rfl (by decide +kernel) (by decide +kernel) (by decide +kernel) (by decide +kernel) (fun _ _ _ h => h) (Want.plain rfl) (fun u432 => (by kernel_rfl)) (fun _ => ⟨hst406.rle', hst406.get (i := 0) rfl, hst406.get (i := 1) rfl, hst406.get (i := 2) rfl, hst406.get (i := 3) rfl⟩) ?_
              refine LA_takeP (v := (.bool ((d205.tier == (-1)) != (((AL.get ((hist (List.take k_186 (PS.decs S_36))).2) d205.pl).getD 0) == 3)))) 9 rfl rfl rfl (by decide +kernel) (by decide +kernel) (by decide +kernel) (by decide +kernel) (fun _ _ _ h => h) (Want.plain rfl) (fun u435 => rfl) (fun _ => ⟨hst406.rle', hst406.get (i := 0) rfl, hst406.get (i := 1) rfl, hst406.get (i := 2) rfl, hst406.get (i := 3) rfl⟩) ?_
              have c438 : ((d205.tier == (-1)) != (((AL.get ((hist (List.take k_186 (PS.decs S_36))).2) d205.pl).getD 0) == 3)) = false := hff.1
              refine LA_takeP (v := (.map (some b150))) 10 rfl rfl rfl (by decide +kernel) (by decide +kernel) (by decide +kernel) (by decide +kernel) (fun _ _ _ h => h) (Want.of rfl rfl rfl rfl (by rw [c438]; rfl)) (fun u440 => rfl) (fun _ => ⟨hst406.rle', hst406.get (i := 0) rfl, hst406.get (i := 1) rfl, hst406.get (i := 2) rfl, hst406.get (i := 3) rfl⟩) ?_
              refine LA_takeP (v := (ptr b207 0)) 11 rfl rfl rfl (by decide +kernel) (by decide +kernel) (by decide +kernel) (by decide +kernel) (fun _ _ _ h => h) (Want.of rfl rfl rfl rfl (by rw [c438]; rfl)) (fun u443 => (by kernel_rfl)) (fun _ => ⟨hst406.rle', hst406.get (i := 0) rfl, hst406.get (i := 1) rfl, hst406.get (i := 2) rfl, hst406.get (i := 3) rfl⟩) ?_
              refine LA_take (v := (.agg #[(.int .i64 d205.pl.1), (.int .i64 d205.pl.2)])) 12 rfl rfl rfl (by decide +kernel) (by decide +kernel) (by decide +kernel) (by decide +kernel) (by decide +kernel) (fun _ _ _ h => h) (Want.of rfl rfl rfl rfl (by rw [c438]; rfl)) (fun u446 hF447 => (x_load rfl rfl (run_loadVar_agg ti_43 (hF447.2.1 _ _ (one_self _ _)) (l := [(.int .i64 d205.pl.1), (.int .i64 d205.pl.2)]) rfl rfl))) ⟨hst406.rle', hst406.get (i := 0) rfl, hst406.get (i := 1) rfl, hst406.get (i := 2) rfl, hst406.get (i := 3) rfl⟩ ?_
              refine LA_take (v := (.int .i64 ((AL.get ((hist (List.take k_186 (PS.decs S_36))).2) d205.pl).getD 0))) 13 rfl rfl rfl (by decide +kernel) (by decide +kernel) (by decide +kernel) (by decide +kernel) (by decide +kernel) (fun _ _ _ h => h) (Want.of rfl rfl rfl rfl (by rw [c438]; rfl)) (fun u449 hF450 => x_lookup rfl rfl rfl (MapC.lookupP hi183 hF450.2.2.2.2 law43 mt_47 ti_3 d205.pl false 0 rfl)) ⟨hst406.rle', hst406.get (i := 0) rfl, hst406.get (i := 1) rfl, hst406.get (i := 2) rfl, hst406.get (i := 3) rfl⟩ ?_
              refine LA_takeP (v := (.bool (decide (((AL.get ((hist (List.take k_186 (PS.decs S_36))).2) d205.pl).getD 0) > 3)))) 14 rfl rfl rfl (by decide +kernel) (by decide +kernel) (by decide +kernel) (by decide +kernel) (fun _ _ _ h => h) (Want.of rfl rfl rfl rfl (by rw [c438]; rfl)) (fun u452 => (by kernel_rfl)) (fun _ => ⟨hst406.rle', hst406.get (i := 0) rfl, hst406.get (i := 1) rfl, hst406.get (i := 2) rfl, hst406.get (i := 3) rfl⟩) ?_
              refine LA_takeP (v := (.bool (decide (((AL.get ((hist (List.take k_186 (PS.decs S_36))).2) d205.pl).getD 0) > 3)))) 15 rfl rfl rfl (by decide +kernel) (by decide +kernel) (by decide +kernel) (by decide +kernel) (fun _ _ _ h => h) (Want.plain rfl) (fun u455 => (x_pick rfl rfl (by rw [c438]; rfl))) (fun _ => ⟨hst406.rle', hst406.get (i := 0) rfl, hst406.get (i := 1) rfl, hst406.get (i := 2) rfl, hst406.get (i := 3) rfl⟩) ?_
              refine LA_done (by decide +kernel) ?_
              have c457 : (decide (((AL.get ((hist (List.take k_186 (PS.decs S_36))).2) d205.pl).getD 0) > 3)) = false := hff.2
              have q458 := of_decide_eq_false c457
              refine W_cond_false (by show Value.bool _ = _; exact congrArg Value.bool c457) ?_
              refine W_skip ?_
              refine W_region_lit ?_
              refine L_val (v := (.map (some b145))) (w' := w405) rfl rfl rfl rfl ?_
              refine L_val (v := (ptr b207 0)) (w' := w405) rfl rfl rfl (by kernel_rfl) ?_
              refine L_val (v := (.agg #[(.int .i64 d205.pl.1), (.int .i64 d205.pl.2)])) (w' := w405) rfl rfl rfl (x_load rfl rfl (run_loadVar_agg ti_43 (hst406.blk (i := 0) rfl) (l := [(.int .i64 d205.pl.1), (.int .i64 d205.pl.2)]) rfl rfl)) ?_
              refine L_val (v := (ptr b207 2)) (w' := w405) rfl rfl rfl (by kernel_rfl) ?_
              refine L_val (v := (.int .i64 d205.tier)) (w' := w405) rfl rfl rfl (x_load rfl rfl (run_loadVar_one ti_3 (hst406.blk (i := 0) rfl) rfl)) ?_
              obtain ⟨c459, w460, hr461, hm462, hst463⟩ := MapC.update hi182 (hst406.front 2 rfl rfl) law43 mt_47 d205.pl d205.tier (.int .i64 d205.tier) rfl
              refine L_skip rfl rfl (x_mapUpdate rfl rfl rfl rfl hr461) ?_
              refine L_nil ?_
              refine W_region_lit ?_
              refine L_val (v := (.int .i64 ((k_186 + 1 : Nat) : Int))) (w' := w460) rfl rfl rfl (x_add_nat rfl rfl rfl (by omega)) ?_
              refine L_val (v := (.int .i64 ((k_186 + 1 : Nat) : Int))) (w' := w460) rfl rfl rfl rfl ?_
              refine L_nil ?_
              refine ⟨(PS.decs S_36).length - (k_186 + 1), by first | omega | (simp only [List.length_append, List.length_cons, List.length_nil]; omega), ?_⟩
              exact ⟨_, (k_186 + 1), c459, cF188, (upd_of (upd_of (upd_of (upd_of (upd_of (upd_of (upd_of (upd_of (upd_of (upd_of (upd_of (upd_of (upd_of (upd_of (upd_of (upd_of (upd_of (upd_of (upd_of (upd_of (upd_of (upd_of (upd_of (upd_of (upd_of (upd_of (upd_of (upd_of rfl rfl) rfl) rfl) rfl) rfl) rfl) rfl) rfl) rfl) rfl) rfl) rfl) rfl) rfl) rfl) rfl) rfl) rfl) rfl) rfl) rfl) rfl) rfl) rfl) rfl) rfl) rfl) rfl), hmk178, ((((hst463.front 3 rfl rfl).front 1 rfl rfl).front 3 rfl rfl).keepN 3 rfl), (by rw [hist_take (by omega) hd206]; exact hm462), (by rw [hist_take (by omega) hd206, stepF_hi (of_decide_eq_false c224)]; exact hi183), (by omega), rfl⟩
          · skip
            have q464 := of_decide_eq_false c190
            refine W_cond_false (by show Value.bool _ = _; exact congrArg Value.bool c190) ?_
            refine W_exit ?_
            refine W_seq ?_
            refine W_seq ?_
            have hk_ : k_186 = (PS.decs S_36).length := by omega
            have hfs465 : MapC kk (vE (Value.int .i64)) (some b145) (hist (PS.decs S_36)).1 cT187 := by have h_ := hi182; rw [hk_, List.take_length] at h_; exact h_
            refine W_region_lit ?_
            refine L_val (v := (.map (some b145))) (w' := w180) rfl rfl rfl rfl ?_
            obtain ⟨es466, ck467, hE468⟩ := MapC.open hfs465
            refine L_new hst179 (v := fun b => ptr b 0) rfl rfl rfl (x_range rfl rfl (run_range mt_47 hE468 (hst179.get (i := 1) rfl))) (fun r469 w470 hst471 => ?_)
            have hI473 := It.start b145 r469 es466 ck467 ((hist (PS.decs S_36)).1)
            generalize one r469 (.mapIter (some b145) ck467 #[] ck467) = ci472 at hI473 hst471
            refine L_nil ?_
            refine W_block ?_
            refine W_loop (I := fun σ w_ m_ => ∃ (σ0 : Fr) (R_ : Hp) (xs_ : List (Pl × Int)) (zs_ : List (Pl × Int)) (ci_ : Hp) (cP : Hp), σ = upd (upd (upd (upd (upd (upd (upd (upd (upd (upd (upd (upd (upd (upd (upd (upd (upd (upd (upd (upd (upd (upd (upd (upd (upd (upd (upd (upd (upd (upd (upd σ0 0 (.agg #[(.int .i64 a), (.int .i64 b), (.int .i64 c), (.int .i64 d)])) 1 (.slice a39 xs.length cap40)) 2 (ptr b1 0)) 5 (.bool true)) 6 (ptr p20 0)) 8 (.int .i64 (k_35 : Int))) 12 (.map (some b145))) 13 (.map (some b150))) 19 (.bool true)) 20 (.tuple #[(ptr p20 0), (ptr m23 0)])) 21 (.agg #[(.int .i64 a), (.int .i64 b), (.int .i64 c), (.int .i64 d)])) 22 (.tuple #[(ptr p20 0), (ptr m23 0)])) 23 (ptr p20 0)) 24 (ptr m23 0)) 25 (.int .i64 (k_35 : Int))) 26 (.slice a39 xs.length cap40)) 27 (.int .i64 (xs.length : Int))) 28 (.bool (decide ((k_35 : Int) < (xs.length : Int))))) 29 (.bool (decide ((k_35 : Int) < (xs.length : Int))))) 30 (.int .i64 (k_35 : Int))) 31 (.bool (decide ((k_35 : Int) < 60)))) 32 (.bool (decide ((k_35 : Int) < 60)))) 81 (.map (some b145))) 82 (.map (some b150))) 83 (ptr p20 0)) 84 (.slice a174 ((PS.decs S_36).length) cap175)) 85 (.int .i64 (((PS.decs S_36).length : Nat) : Int))) 86 (.int .i64 (k_186 : Int))) 87 (.bool (decide ((k_186 : Int) < (((PS.decs S_36).length : Nat) : Int))))) 152 (.map (some b145))) 153 (ptr r469 0) ∧ mks (σ0 0) = [] ∧ Step w R [] w_ R_ [ci_, cP, cT187] ∧ Le R168 R_ ∧ It b145 r469 es466 ck467 ((hist (PS.decs S_36)).1) xs_ ci_ ∧ Prof R_ p20 S_36 cP ∧ (xs_ ++ zs_).Perm (hist (PS.decs S_36)).1 ∧ m_ = (hist (PS.decs S_36)).1.length - xs_.length) (m := (hist (PS.decs S_36)).1.length - ([] : List (Pl × Int)).length) ?_ ?_
            · skip
              exact ⟨_, _, [], ((hist (PS.decs S_36)).1), ci472, c164, (upd_of (upd_of (upd_of (upd_of (upd_of (upd_of (upd_of (upd_of (upd_of (upd_of (upd_of (upd_of (upd_of (upd_of (upd_of (upd_of (upd_of (upd_of (upd_of (upd_of (upd_of (upd_of (upd_of (upd_of (upd_of (upd_of (upd_of (upd_of (upd_of (upd_of (upd_of rfl rfl) rfl) rfl) rfl) rfl) rfl) rfl) rfl) rfl) rfl) rfl) rfl) rfl) rfl) rfl) rfl) rfl) rfl) rfl) rfl) rfl) rfl) rfl) rfl) rfl) rfl) rfl) rfl) rfl) rfl) rfl), hmk178, ((((hst471.front 2 rfl rfl).front 2 rfl rfl).front 2 rfl rfl).keepN 3 rfl), Le.refl _, hI473, hm172, (List.Perm.refl _), rfl⟩
            · skip
              rintro m487 σ_ w476 ⟨s481, R482, xs_483, zs_484, ci_485, cP486, rfl, hmk474, hst475, hle477, hi478, hi479, hf480, rfl⟩
              refine W_seq ?_
              refine W_region_lit ?_
              have hst500 := hst475
              rcases run_next (P := Tryd.prog) 0 hE468 (hst500.get (i := 2) rfl) hi478 hst500 with ⟨hq488, hr489⟩ | ⟨p490, v491, w492, ci493, hr489, hv494, hm495, hsub496, hI497, hst498, he499⟩
              · skip
                refine L_val (v := .tuple #[.bool false]) rfl rfl rfl (x_next rfl rfl hr489) ?_
                refine L_val (v := (.bool false)) (w' := w476) rfl rfl rfl (by kernel_rfl) ?_
                refine L_nil ?_
                refine W_seq ?_
                refine W_cond_false (by show Value.bool _ = _; exact congrArg Value.bool rfl) ?_
                refine W_exit ?_
                refine W_seq ?_
                refine W_region_lit ?_
                refine L_val (v := (.bool true)) (w' := w476) rfl rfl rfl rfl ?_
                refine L_val (v := (.bool true)) (w' := w476) rfl rfl rfl rfl ?_
                refine L_nil ?_
                refine W_ret ?_
                refine ⟨_, _, res_run (rs := [.tmp 4]) (vs := [(.bool true)]) Tryd.results4 (.cons (.tmp rfl) .nil) hmk474, ?_⟩
                exact ⟨_, _, [], rfl, hst500.keepN 0 rfl, rfl, rfl⟩
              · skip
                have hv494' : v491 = .int .i64 p490.2 := hv494
                subst hv494'
                refine L_val (v := .tuple #[.bool true, (.agg #[(.int .i64 p490.1.1), (.int .i64 p490.1.2)]), (.int .i64 p490.2)]) rfl rfl rfl (x_next rfl rfl hr489) ?_
                refine L_val (v := (.bool true)) (w' := w492) rfl rfl rfl (by kernel_rfl) ?_
                refine L_nil ?_
                refine W_seq ?_
                refine W_cond_true (by show Value.bool _ = _; exact congrArg Value.bool rfl) ?_
                refine W_skip ?_
                refine W_block ?_
                refine W_seq ?_
                obtain ⟨zs501, hz502⟩ := hsub496
                have hlast_ := hf31.last hm495
                have hpl_ := hz502.length_eq
                simp only [List.length_append, List.length_cons] at hpl_
                refine W_region_lit ?_
                refine L_val (v := .tuple #[(.agg #[(.int .i64 p490.1.1), (.int .i64 p490.1.2)]), (.int .i64 p490.2)]) (w' := w492) rfl rfl rfl (x_entry rfl rfl (he499 _ (hst498.get (i := 2) rfl) (hst498.get (i := 0) rfl))) ?_
                refine L_val (v := (.agg #[(.int .i64 p490.1.1), (.int .i64 p490.1.2)])) (w' := w492) rfl rfl rfl (by kernel_rfl) ?_
                refine L_val (v := (.int .i64 p490.2)) (w' := w492) rfl rfl rfl (by kernel_rfl) ?_
                refine L_new hst498 (v := fun b => ptr b 0) (ob := .cells #[(.int .i64 0), (.int .i64 0)] 43 (0, 0)) rfl rfl rfl (by kernel_rfl) (fun b503 w504 hst505 => ?_)
                refine L_store hst505 0 ti_43 rfl rfl rfl rfl rfl rfl rfl rfl rfl rfl rfl (fun w506 hst507 => ?_)
                change Step _ _ _ _ _ [one b503 (.cells #[(.int .i64 p490.1.1), (.int .i64 p490.1.2)] 43 (0, 0)), ci493, cP486, cT187] at hst507
                refine L_val (v := (.int .i64 p490.2)) (w' := w506) rfl rfl rfl rfl ?_
                refine L_nil ?_
                refine W_seq ?_
                refine W_region_lit ?_
                refine L_val (v := (ptr p20 0)) (w' := w506) rfl rfl rfl rfl ?_
                refine L_val (v := (.agg #[(.int .i64 p490.1.1), (.int .i64 p490.1.2)])) (w' := w506) rfl rfl rfl (x_load rfl rfl (run_loadVar_agg ti_43 (hst507.blk (i := 0) rfl) (l := [(.int .i64 p490.1.1), (.int .i64 p490.1.2)]) rfl rfl)) ?_
                have hst508 := (hst507.front 2 rfl rfl)
                refine L_callS [cP486] [one b503 (.cells #[(.int .i64 p490.1.1), (.int .i64 p490.1.2)] 43 (0, 0)), ci493, cT187] hst508 rfl rfl rfl (x_call (vs := #[(ptr p20 0), (.agg #[(.int .i64 p490.1.1), (.int .i64 p490.1.2)])]) rfl rfl (by kernel_rfl) ent_18) (Tier_spec (s := S_36) p490.1  (hst508.sats.take 1 rfl) hi479 (hT.mono (Le.trans hle10 (Le.trans hle18 (Le.trans hle28 (Le.trans hle161 (Le.trans hle170 hle477)))))) (by have h_ := hf32; omega)) (fun v509 w510 R511 L512 hp513 hle514 hst515 => ?_)
                obtain ⟨c516, hv517, rfl, hp518⟩ := hp513
                subst hv517
                have hprof519 : Prof R511 p20 S_36 c516 := hp518
                refine L_val (v := (.int .i64 p490.2)) (w' := w510) rfl rfl rfl rfl ?_
                refine L_val (v := (.bool ((PS.tier S_36 p490.1) != p490.2))) (w' := w510) rfl rfl rfl (by kernel_rfl) ?_
                refine L_nil ?_
                have c520 : ((PS.tier S_36 p490.1) != p490.2) = false := by rw [hlast_]; exact bne_self_eq_false _
                have q521 : (PS.tier S_36 p490.1) = p490.2 := by simpa using c520
                refine W_cond_false (by show Value.bool _ = _; exact congrArg Value.bool c520) ?_
                refine W_skip ?_
                refine ⟨(hist (PS.decs S_36)).1.length - (xs_483 ++ [p490]).length, by first | omega | (simp only [List.length_append, List.length_cons, List.length_nil]; omega), ?_⟩
                exact ⟨_, _, (xs_483 ++ [p490]), zs501, ci493, c516, (upd_of (upd_of (upd_of (upd_of (upd_of (upd_of (upd_of (upd_of (upd_of (upd_of (upd_of (upd_of (upd_of (upd_of (upd_of (upd_of (upd_of (upd_of (upd_of (upd_of (upd_of (upd_of (upd_of (upd_of (upd_of (upd_of (upd_of (upd_of (upd_of (upd_of (upd_of rfl rfl) rfl) rfl) rfl) rfl) rfl) rfl) rfl) rfl) rfl) rfl) rfl) rfl) rfl) rfl) rfl) rfl) rfl) rfl) rfl) rfl) rfl) rfl) rfl) rfl) rfl) rfl) rfl) rfl) rfl) rfl), hmk474, ((((hst515.front 3 rfl rfl).front 1 rfl rfl).front 3 rfl rfl).keepN 3 rfl), (Le.trans hle477 hle514), hI497, hprof519, (by simpa using hz502), rfl⟩
    · skip
      have q522 := of_decide_eq_false c43
      refine L_unwanted rfl rfl rfl rfl (by rw [c43]; rfl) rfl rfl ?_
      refine L_unwanted rfl rfl rfl rfl (by rw [c43]; rfl) rfl rfl ?_
      refine L_val (v := (.bool false)) (w' := w27) rfl rfl rfl (x_pick rfl rfl (by rw [c43]; rfl)) ?_
      refine L_nil ?_
      refine W_cond_false (by show Value.bool _ = _; exact congrArg Value.bool rfl) ?_
      refine W_exit ?_
      refine W_seq ?_
      refine W_region_lit ?_
      refine L_new hst26 (v := fun b => .map (some b)) (ob := .map #[] 0) rfl rfl rfl (by kernel_rfl) (fun b523 w524 hst525 => ?_)
      have hm526 : MapC kk (vE (Value.int .i64)) (some b523) [] _ := MapC.made b523
      generalize one b523 (.map #[] 0) = c527 at hm526 hst525
      refine L_new hst525 (v := fun b => .map (some b)) (ob := .map #[] 0) rfl rfl rfl (by kernel_rfl) (fun b528 w529 hst530 => ?_)
      have hm531 : MapC kk (vE (Value.int .i64)) (some b528) [] _ := MapC.made b528
      generalize one b528 (.map #[] 0) = c532 at hm531 hst530
      refine L_val (v := (.map (some b523))) (w' := w529) rfl rfl rfl rfl ?_
      refine L_val (v := (.map (some b528))) (w' := w529) rfl rfl rfl rfl ?_
      refine L_nil ?_
      refine W_seq ?_
      refine W_seq ?_
      have hdl_ := Prof.decs_le hi29
      refine W_region_lit ?_
      refine L_val (v := (ptr p20 0)) (w' := w529) rfl rfl rfl rfl ?_
      have hst533 := (hst530.front 2 rfl rfl)
      refine L_callS [cP37] [c532, c527] hst533 rfl rfl rfl (x_call (vs := #[(ptr p20 0)]) rfl rfl (by kernel_rfl) ent_17) (Decisions_spec (hst533.sats.take 1 rfl) hi29 (by have h_ := hf32; omega)) (fun v534 w535 R536 L537 hp538 hle539 hst540 => ?_)
      obtain ⟨c541, c542, rfl, ho543, hp544⟩ := hp538
      have hprof545 : Prof R536 p20 S_36 c542 := hp544
      obtain ⟨R546, hst547, hle548, hc549⟩ := Step.frz hst540
      have hm550 := Prof.lift hprof545 hle548
      have hrd551 := OwnL.freeze ho543 hle548 hc549
      obtain ⟨a552, cap553, e554, hc555⟩ := hrd551.shape
      subst e554
      refine L_val (v := (.int .i64 (((PS.decs S_36).length : Nat) : Int))) (w' := w535) rfl rfl rfl (x_len_slice rfl sl_36 rfl) ?_
      refine L_val (v := (.int .i64 0)) (w' := w535) rfl rfl rfl rfl ?_
      refine L_nil ?_
      refine W_block ?_
      refine W_loop (I := fun σ w_ m_ => ∃ (σ0 : Fr) (k_ : Nat) (cT : Hp) (cF : Hp), σ = upd (upd (upd (upd (upd (upd (upd (upd (upd (upd (upd (upd (upd (upd (upd (upd (upd (upd (upd (upd (upd (upd (upd (upd (upd (upd σ0 0 (.agg #[(.int .i64 a), (.int .i64 b), (.int .i64 c), (.int .i64 d)])) 1 (.slice a39 xs.length cap40)) 2 (ptr b1 0)) 5 (.bool true)) 6 (ptr p20 0)) 8 (.int .i64 (k_35 : Int))) 12 (.map (some b523))) 13 (.map (some b528))) 19 (.bool true)) 20 (.tuple #[(ptr p20 0), (ptr m23 0)])) 21 (.agg #[(.int .i64 a), (.int .i64 b), (.int .i64 c), (.int .i64 d)])) 22 (.tuple #[(ptr p20 0), (ptr m23 0)])) 23 (ptr p20 0)) 24 (ptr m23 0)) 25 (.int .i64 (k_35 : Int))) 26 (.slice a39 xs.length cap40)) 27 (.int .i64 (xs.length : Int))) 28 (.bool (decide ((k_35 : Int) < (xs.length : Int))))) 29 (.bool (decide ((k_35 : Int) < (xs.length : Int))))) 32 (.bool false)) 81 (.map (some b523))) 82 (.map (some b528))) 83 (ptr p20 0)) 84 (.slice a552 ((PS.decs S_36).length) cap553)) 85 (.int .i64 (((PS.decs S_36).length : Nat) : Int))) 86 (.int .i64 (k_ : Int)) ∧ mks (σ0 0) = [] ∧ Step w R [] w_ R546 [c542, cT, cF] ∧ MapC kk (vE (Value.int .i64)) (some b523) (hist (List.take k_ (PS.decs S_36))).1 cT ∧ MapC kk (vE (Value.int .i64)) (some b528) (hist (List.take k_ (PS.decs S_36))).2 cF ∧ k_ ≤ (PS.decs S_36).length ∧ m_ = (PS.decs S_36).length - k_) (m := (PS.decs S_36).length - 0) ?_ ?_
      · skip
        exact ⟨_, 0, c527, c532, (upd_of (upd_of (upd_of (upd_of (upd_of (upd_of (upd_of (upd_of (upd_of (upd_of (upd_of (upd_of (upd_of (upd_of (upd_of (upd_of (upd_of (upd_of (upd_of (upd_of (upd_of (upd_of (upd_of (upd_of (upd_of (upd_of rfl rfl) rfl) rfl) rfl) rfl) rfl) rfl) rfl) rfl) rfl) rfl) rfl) rfl) rfl) rfl) rfl) rfl) rfl) rfl) rfl) rfl) rfl) rfl) rfl) rfl) rfl), hmk25, (((hst547.front 1 rfl rfl).front 2 rfl rfl).front 2 rfl rfl), hm526, hm531, (by omega), rfl⟩
      · skip
        rintro m567 σ_ w558 ⟨s563, k_564, cT565, cF566, rfl, hmk556, hst557, hi560, hi561, hf562, rfl⟩
        refine W_seq ?_
        refine W_region_lit ?_
        refine L_val (v := (.bool (decide ((k_564 : Int) < (((PS.decs S_36).length : Nat) : Int))))) (w' := w558) rfl rfl rfl (by kernel_rfl) ?_
        refine L_nil ?_
        refine W_seq ?_
        rcases Bool.eq_false_or_eq_true (decide ((k_564 : Int) < (((PS.decs S_36).length : Nat) : Int))) with c568 | c568
        · skip
          have q569 := of_decide_eq_true c568
          refine W_cond_true (by show Value.bool _ = _; exact congrArg Value.bool c568) ?_
          refine W_skip ?_
          refine W_seq ?_
          refine W_block ?_
          refine W_seq ?_
          refine W_region_lit ?_
          obtain ⟨b570, off571, cap572, cs573, T574, fz575, e576, hc577, hb578, he579⟩ := hrd551.open (by omega)
          cases e576
          obtain ⟨cl580, hs581, hr582⟩ := he579.at k_564 (by omega)
          obtain ⟨d583, hd584⟩ : ∃ d_, d_ = ((PS.decs S_36)[k_564]'(by omega)) := ⟨_, rfl⟩
          rw [← hd584] at hr582
          obtain rfl := tyDec_open hr582
          have hch := hf31.chk k_564 (by omega)
          rw [← hd584] at hch
          have hcold := hch.old
          have hctop := hch.top
          have hcup := hch.up
          have hcne := hch.ne
          have hclow := hch.low
          have hcf0 := hch.f0
          have hcf3 := hch.f3
          refine L_val (v := (ptr b570 (off571 + k_564 * 4))) (w' := w558) rfl rfl rfl (x_indexAddr' rfl sl_36 ti_49 rfl rfl (by omega)) ?_
          refine L_val (v := (.agg #[(.int .i64 d583.pl.1), (.int .i64 d583.pl.2), (.int .i64 d583.tier), (.string d583.reason)])) (w' := w558) rfl rfl rfl (x_load rfl rfl (run_loadVar_agg ti_49 (hst557.rle' _ _ hb578) hs581 rfl)) ?_
          refine L_new hst557 (v := fun b => ptr b 0) (ob := .cells #[(.int .i64 0), (.int .i64 0), (.int .i64 0), (.string ⟨#[]⟩)] 49 (0, 0)) rfl rfl rfl (by kernel_rfl) (fun b585 w586 hst587 => ?_)
          refine L_store hst587 0 ti_49 rfl rfl rfl rfl rfl rfl rfl rfl rfl rfl rfl (fun w588 hst589 => ?_)
          change Step _ _ _ _ _ [one b585 (.cells #[(.int .i64 d583.pl.1), (.int .i64 d583.pl.2), (.int .i64 d583.tier), (.string d583.reason)] 49 (0, 0)), c542, cT565, cF566] at hst589
          refine L_nil ?_
          refine W_seq ?_
          refine W_region_lit ?_
          refine L_val (v := (.map (some b523))) (w' := w588) rfl rfl rfl rfl ?_
          refine L_val (v := (ptr b585 0)) (w' := w588) rfl rfl rfl (by kernel_rfl) ?_
          refine L_val (v := (.agg #[(.int .i64 d583.pl.1), (.int .i64 d583.pl.2)])) (w' := w588) rfl rfl rfl (x_load rfl rfl (run_loadVar_agg ti_43 (hst589.blk (i := 0) rfl) (l := [(.int .i64 d583.pl.1), (.int .i64 d583.pl.2)]) rfl rfl)) ?_
          obtain ⟨v590, hr591, hv592⟩ := MapC.lookupD (w := w588) hi560 (hst589.get (i := 2) rfl) law43 mt_47 ti_3 d583.pl false 0 rfl
          have hv592' : v590 = .int .i64 ((AL.get ((hist (List.take k_564 (PS.decs S_36))).1) d583.pl).getD 0) := hv592
          subst hv592'
          refine L_val (v := (.int .i64 ((AL.get ((hist (List.take k_564 (PS.decs S_36))).1) d583.pl).getD 0))) (w' := w588) rfl rfl rfl (x_lookup rfl rfl rfl hr591) ?_
          refine L_val (v := (.int .i64 ((AL.get ((hist (List.take k_564 (PS.decs S_36))).1) d583.pl).getD 0))) (w' := w588) rfl rfl rfl rfl ?_
          refine L_nil ?_
          refine W_seq ?_
          refine W_seq ?_
          refine W_region_lit ?_
          refine L_val (v := (.int .i64 ((AL.get ((hist (List.take k_564 (PS.decs S_36))).1) d583.pl).getD 0))) (w' := w588) rfl rfl rfl rfl ?_
          refine L_val (v := (.bool (decide (((AL.get ((hist (List.take k_564 (PS.decs S_36))).1) d583.pl).getD 0) < 0)))) (w' := w588) rfl rfl rfl (by kernel_rfl) ?_
          refine L_val (v := (.bool (decide (((AL.get ((hist (List.take k_564 (PS.decs S_36))).1) d583.pl).getD 0) < 0)))) (w' := w588) rfl rfl rfl rfl ?_
          have c593 : (decide (((AL.get ((hist (List.take k_564 (PS.decs S_36))).1) d583.pl).getD 0) < 0)) = false := decide_eq_false (by omega)
          have q594 := of_decide_eq_false c593
          refine L_guard rfl rfl rfl rfl c593 ?_
          refine L_val (v := (ptr b585 2)) (w' := w588) rfl rfl rfl (by kernel_rfl) ?_
          refine L_guard rfl rfl rfl rfl c593 ?_
          refine L_val (v := (.int .i64 d583.tier)) (w' := w588) rfl rfl rfl (x_load rfl rfl (run_loadVar_one ti_3 (hst589.blk (i := 0) rfl) rfl)) ?_
          refine L_guard rfl rfl rfl rfl c593 ?_
          refine L_val (v := (.int .i64 ((AL.get ((hist (List.take k_564 (PS.decs S_36))).1) d583.pl).getD 0))) (w' := w588) rfl rfl rfl rfl ?_
          refine L_guard rfl rfl rfl rfl c593 ?_
          refine L_val (v := (.int .i64 (((AL.get ((hist (List.take k_564 (PS.decs S_36))).1) d583.pl).getD 0) + 1))) (w' := w588) rfl rfl rfl (x_add rfl rfl rfl (by constructor <;> omega)) ?_
          refine L_guard rfl rfl rfl rfl c593 ?_
          refine L_val (v := (.bool (decide (d583.tier > ((AL.get ((hist (List.take k_564 (PS.decs S_36))).1) d583.pl).getD 0) + 1)))) (w' := w588) rfl rfl rfl (by kernel_rfl) ?_
          refine L_val (v := (.bool (decide (d583.tier > ((AL.get ((hist (List.take k_564 (PS.decs S_36))).1) d583.pl).getD 0) + 1)))) (w' := w588) rfl rfl rfl (x_pick rfl rfl (by rw [c593]; rfl)) ?_
          refine L_val (v := (.bool (decide (d583.tier > ((AL.get ((hist (List.take k_564 (PS.decs S_36))).1) d583.pl).getD 0) + 1)))) (w' := w588) rfl rfl rfl rfl ?_
          have c595 : (decide (d583.tier > ((AL.get ((hist (List.take k_564 (PS.decs S_36))).1) d583.pl).getD 0) + 1)) = false := decide_eq_false (by omega)
          have q596 := of_decide_eq_false c595
          refine L_guard rfl rfl rfl rfl c595 ?_
          refine L_val (v := (ptr b585 2)) (w' := w588) rfl rfl rfl (by kernel_rfl) ?_
          refine L_guard rfl rfl rfl rfl c595 ?_
          refine L_val (v := (.int .i64 d583.tier)) (w' := w588) rfl rfl rfl (x_load rfl rfl (run_loadVar_one ti_3 (hst589.blk (i := 0) rfl) rfl)) ?_
          refine L_guard rfl rfl rfl rfl c595 ?_
          refine L_val (v := (.int .i64 ((AL.get ((hist (List.take k_564 (PS.decs S_36))).1) d583.pl).getD 0))) (w' := w588) rfl rfl rfl rfl ?_
          refine L_guard rfl rfl rfl rfl c595 ?_
          refine L_val (v := (.bool (d583.tier == ((AL.get ((hist (List.take k_564 (PS.decs S_36))).1) d583.pl).getD 0)))) (w' := w588) rfl rfl rfl (by kernel_rfl) ?_
          refine L_val (v := (.bool (d583.tier == ((AL.get ((hist (List.take k_564 (PS.decs S_36))).1) d583.pl).getD 0)))) (w' := w588) rfl rfl rfl (x_pick rfl rfl (by rw [c595]; rfl)) ?_
          refine L_val (v := (.bool (d583.tier == ((AL.get ((hist (List.take k_564 (PS.decs S_36))).1) d583.pl).getD 0)))) (w' := w588) rfl rfl rfl rfl ?_
          have c597 : (d583.tier == ((AL.get ((hist (List.take k_564 (PS.decs S_36))).1) d583.pl).getD 0)) = false := beq_false_of_ne hcne
          have q598 := ne_of_beq_false c597
          refine L_guard rfl rfl rfl rfl c597 ?_
          refine L_val (v := (ptr b585 2)) (w' := w588) rfl rfl rfl (by kernel_rfl) ?_
          refine L_guard rfl rfl rfl rfl c597 ?_
          refine L_val (v := (.int .i64 d583.tier)) (w' := w588) rfl rfl rfl (x_load rfl rfl (run_loadVar_one ti_3 (hst589.blk (i := 0) rfl) rfl)) ?_
          refine L_guard rfl rfl rfl rfl c597 ?_
          refine L_val (v := (.bool (decide (d583.tier < (-1))))) (w' := w588) rfl rfl rfl (by kernel_rfl) ?_
          refine L_val (v := (.bool (decide (d583.tier < (-1))))) (w' := w588) rfl rfl rfl (x_pick rfl rfl (by rw [c597]; rfl)) ?_
          refine L_val (v := (.bool (decide (d583.tier < (-1))))) (w' := w588) rfl rfl rfl rfl ?_
          have c599 : (decide (d583.tier < (-1))) = false := decide_eq_false (by omega)
          have q600 := of_decide_eq_false c599
          refine L_guard rfl rfl rfl rfl c599 ?_
          refine L_val (v := (ptr b585 3)) (w' := w588) rfl rfl rfl (by kernel_rfl) ?_
          refine L_guard rfl rfl rfl rfl c599 ?_
          refine L_val (v := (.string d583.reason)) (w' := w588) rfl rfl rfl (x_load rfl rfl (run_loadVar_one ti_9 (hst589.blk (i := 0) rfl) rfl)) ?_
          refine L_guard rfl rfl rfl rfl c599 ?_
          refine L_val (v := (.bool ((d583.reason).toList == (⟨#[]⟩ : ByteArray).toList))) (w' := w588) rfl rfl rfl (x_eqlS rfl rfl rfl) ?_
          refine L_val (v := (.bool ((d583.reason).toList == (⟨#[]⟩ : ByteArray).toList))) (w' := w588) rfl rfl rfl (x_pick rfl rfl (by rw [c599]; rfl)) ?_
          refine L_nil ?_
          have c601 : ((d583.reason).toList == (⟨#[]⟩ : ByteArray).toList) = false := toList_ne hch.reason
          refine W_cond_false (by show Value.bool _ = _; exact congrArg Value.bool c601) ?_
          refine W_skip ?_
          refine W_seq ?_
          refine W_seq ?_
          refine W_region_lit ?_
          refine L_val (v := (ptr b585 2)) (w' := w588) rfl rfl rfl (by kernel_rfl) ?_
          refine L_val (v := (.int .i64 d583.tier)) (w' := w588) rfl rfl rfl (x_load rfl rfl (run_loadVar_one ti_3 (hst589.blk (i := 0) rfl) rfl)) ?_
          refine L_val (v := (.int .i64 ((AL.get ((hist (List.take k_564 (PS.decs S_36))).1) d583.pl).getD 0))) (w' := w588) rfl rfl rfl rfl ?_
          refine L_val (v := (.bool (decide (d583.tier < ((AL.get ((hist (List.take k_564 (PS.decs S_36))).1) d583.pl).getD 0))))) (w' := w588) rfl rfl rfl (by kernel_rfl) ?_
          refine L_nil ?_
          rcases Bool.eq_false_or_eq_true (decide (d583.tier < ((AL.get ((hist (List.take k_564 (PS.decs S_36))).1) d583.pl).getD 0))) with c602 | c602
          · skip
            have q603 := of_decide_eq_true c602
            refine W_cond_true (by show Value.bool _ = _; exact congrArg Value.bool c602) ?_
            refine W_region_draw [5, 7] (fun w => Le R546 (hp w) ∧ Le (one b585 (.cells #[(.int .i64 d583.pl.1), (.int .i64 d583.pl.2), (.int .i64 d583.tier), (.string d583.reason)] 49 (0, 0))) (hp w)) hmix (by decide +kernel) (fun _ _ h => h) ?_
            have hst605 := hst589.draws (w588.drawn + 1)
            generalize draws w588 (w588.drawn + 1) = w604 at hst605 ⊢
            refine LA_takeP (v := (.map (some b528))) 0 rfl rfl rfl (by decide +kernel) (by decide +kernel) (by decide +kernel) (by decide +kernel) (fun _ _ _ h => h) (Want.plain rfl) (fun u607 => rfl) (fun _ => ⟨hst605.rle', hst605.get (i := 0) rfl⟩) ?_
            refine LA_takeP (v := (ptr b585 0)) 1 rfl rfl rfl (by decide +kernel) (by decide +kernel) (by decide +kernel) (by decide +kernel) (fun _ _ _ h => h) (Want.plain rfl) (fun u610 => (by kernel_rfl)) (fun _ => ⟨hst605.rle', hst605.get (i := 0) rfl⟩) ?_
            refine LA_take (v := (.agg #[(.int .i64 d583.pl.1), (.int .i64 d583.pl.2)])) 2 rfl rfl rfl (by decide +kernel) (by decide +kernel) (by decide +kernel) (by decide +kernel) (by decide +kernel) (fun _ _ _ h => h) (Want.plain rfl) (fun u613 hF614 => (x_load rfl rfl (run_loadVar_agg ti_43 (hF614.2 _ _ (one_self _ _)) (l := [(.int .i64 d583.pl.1), (.int .i64 d583.pl.2)]) rfl rfl))) ⟨hst605.rle', hst605.get (i := 0) rfl⟩ ?_
            refine LA_all [3, 5] (by decide +kernel) (by simp) ?_
            intro i_ hi_
            simp only [List.mem_cons, List.not_mem_nil, or_false] at hi_
            rcases hi_ with rfl | rfl
            · skip
              obtain ⟨v616, hr617, hv618⟩ := MapC.lookupD (w := w604) hi561 (hst605.get (i := 3) rfl) law43 mt_47 ti_3 d583.pl false 0 rfl
              have hv618' : v616 = .int .i64 ((AL.get ((hist (List.take k_564 (PS.decs S_36))).2) d583.pl).getD 0) := hv618
              subst hv618'
              refine One_val (i := 3) (v := (.int .i64 ((AL.get ((hist (List.take k_564 (PS.decs S_36))).2) d583.pl).getD 0))) rfl rfl rfl (Want.plain rfl) (x_lookup rfl rfl rfl hr617) (fun _ => ⟨hst605.rle', hst605.get (i := 0) rfl⟩) ?_
              refine LA_takeP (v := (.int .i64 (((AL.get ((hist (List.take k_564 (PS.decs S_36))).2) d583.pl).getD 0) + 1))) 4 rfl rfl rfl (by decide +kernel) (by decide +kernel) (by decide +kernel) (by decide +kernel) (fun _ _ _ h => h) (Want.plain rfl) (fun u620 => (x_add rfl rfl rfl (by constructor <;> omega))) (fun _ => ⟨hst605.rle', hst605.get (i := 0) rfl⟩) ?_
              refine LA_all [5] (by decide +kernel) (by simp) ?_
              intro i_ hi_
              simp only [List.mem_cons, List.not_mem_nil, or_false] at hi_
              subst hi_
              obtain ⟨v623, sn624, ob625, w626, hr627, hst628, hk629, hm630⟩ := MapC.entry0 hi561 (hst605.front 3 rfl rfl) law43 mt_47 ti_3 d583.pl 0 rfl
              refine One_val (i := 5) (v := .tuple #[v623, int sn624]) rfl rfl rfl (Want.plain rfl) (x_mapEntry rfl rfl rfl hr627) (fun h => absurd h (by decide +kernel)) ?_
              refine LA_takeP (v := (.int .i64 sn624)) 6 rfl rfl rfl (by decide +kernel) (by decide +kernel) (by decide +kernel) (by decide +kernel) (fun _ _ _ h => h) (Want.plain rfl) (fun u632 => (by kernel_rfl)) (fun h => absurd h (by decide +kernel)) ?_
              refine LA_all [7] (by decide +kernel) (by simp) ?_
              intro i_ hi_
              simp only [List.mem_cons, List.not_mem_nil, or_false] at hi_
              subst hi_
              obtain ⟨c635, w636, hr637, hm638, hst639⟩ := hk629 _ _ _ (((AL.get ((hist (List.take k_564 (PS.decs S_36))).2) d583.pl).getD 0) + 1) (.int .i64 (((AL.get ((hist (List.take k_564 (PS.decs S_36))).2) d583.pl).getD 0) + 1)) hst628 rfl
              refine One_skip (i := 7) rfl rfl (Want.plain rfl) (x_entryStore rfl rfl rfl rfl hr637) (fun h => absurd h (by decide +kernel)) ?_
              refine LA_done (by decide +kernel) ?_
              refine W_seq ?_
              refine W_seq ?_
              have hff := hch.lo (of_decide_eq_true c602)
              refine W_region_draw [] (fun w => Le R546 (hp w) ∧ Le c635 (hp w) ∧ Le (one b585 (.cells #[(.int .i64 d583.pl.1), (.int .i64 d583.pl.2), (.int .i64 d583.tier), (.string d583.reason)] 49 (0, 0))) (hp w) ∧ Le c542 (hp w) ∧ Le cT565 (hp w)) hmix (by decide +kernel) (fun _ _ h => h) ?_
              have hst641 := hst639.draws (w636.drawn + 1)
              generalize draws w636 (w636.drawn + 1) = w640 at hst641 ⊢
              refine LA_takeP (v := (ptr b585 2)) 0 rfl rfl rfl (by decide +kernel) (by decide +kernel) (by decide +kernel) (by decide +kernel) (fun _ _ _ h => h) (Want.plain rfl) (fun u643 => (by kernel_rfl)) (fun _ => ⟨hst641.rle', hst641.get (i := 0) rfl, hst641.get (i := 1) rfl, hst641.get (i := 2) rfl, hst641.get (i := 3) rfl⟩) ?_
              refine LA_take (v := (.int .i64 d583.tier)) 1 rfl rfl rfl (by decide +kernel) (by decide +kernel) (by decide +kernel) (by decide +kernel) (by decide +kernel) (fun _ _ _ h => h) (Want.plain rfl) (fun u646 hF647 => (x_load rfl rfl (run_loadVar_one ti_3 (hF647.2.2.1 _ _ (one_self _ _)) rfl))) ⟨hst641.rle', hst641.get (i := 0) rfl, hst641.get (i := 1) rfl, hst641.get (i := 2) rfl, hst641.get (i := 3) rfl⟩ ?_
              refine LA_takeP (v := (.bool (d583.tier == (-1)))) 2 rfl rfl rfl (by decide +kernel) (by decide +kernel) (by decide +kernel) (by decide +kernel) (fun _ _ _ h => h) (Want.plain rfl) (fun u649 => (by kernel_rfl)) (fun _ => ⟨hst641.rle', hst641.get (i := 0) rfl, hst641.get (i := 1) rfl, hst641.get (i := 2) rfl, hst641.get (i := 3) rfl⟩) ?_
              refine LA_takeP (v := (.map (some b528))) 3 rfl rfl rfl (by decide +kernel) (by decide +kernel) (by decide +kernel) (by decide +kernel) (fun _ _ _ h => h) (Want.plain rfl) (fun u652 => rfl) (fun _ => ⟨hst641.rle', hst641.get (i := 0) rfl, hst641.get (i := 1) rfl, hst641.get (i := 2) rfl, hst641.get (i := 3) rfl⟩) ?_
              refine LA_takeP (v := (ptr b585 0)) 4 rfl rfl rfl (by decide +kernel) (by decide +kernel) (by decide +kernel) (by decide +kernel) (fun _ _ _ h => h) (Want.plain rfl) (fun u655 => (by kernel_rfl)) (fun _ => ⟨hst641.rle', hst641.get (i := 0) rfl, hst641.get (i := 1) rfl, hst641.get (i := 2) rfl, hst641.get (i := 3) rfl⟩) ?_
              refine LA_take (v := (.agg #[(.int .i64 d583.pl.1), (.int .i64 d583.pl.2)])) 5 rfl rfl rfl (by decide +kernel) (by decide +kernel) (by decide +kernel) (by decide +kernel) (by decide +kernel) (fun _ _ _ h => h) (Want.plain rfl) (fun u658 hF659 => (x_load rfl rfl (run_loadVar_agg ti_43 (hF659.2.2.1 _ _ (one_self _ _)) (l := [(.int .i64 d583.pl.1), (.int .i64 d583.pl.2)]) rfl rfl))) ⟨hst641.rle', hst641.get (i := 0) rfl, hst641.get (i := 1) rfl, hst641.get (i := 2) rfl, hst641.get (i := 3) rfl⟩ ?_
              refine LA_take (v := (.int .i64 ((AL.get (AL.set ((hist (List.take k_564 (PS.decs S_36))).2) d583.pl (((AL.get ((hist (List.take k_564 (PS.decs S_36))).2) d583.pl).getD 0) + 1)) d583.pl).getD 0))) 6 rfl rfl rfl (by decide +kernel) (by decide +kernel) (by decide +kernel) (by decide +kernel) (by decide +kernel) (fun _ _ _ h => h) (Want.plain rfl) (fun u661 hF662 => x_lookup rfl rfl rfl (MapC.lookupP hm638 hF662.2.1 law43 mt_47 ti_3 d583.pl false 0 rfl)) ⟨hst641.rle', hst641.get (i := 0) rfl, hst641.get (i := 1) rfl, hst641.get (i := 2) rfl, hst641.get (i := 3) rfl⟩ ?_
              refine LA_takeP (v := (.bool (((AL.get (AL.set ((hist (List.take k_564 (PS.decs S_36))).2) d583.pl (((AL.get ((hist (List.take k_564 (PS.decs S_36))).2) d583.pl).getD 0) + 1)) d583.pl).getD 0) == 3))) 7 rfl rfl rfl (by decide +kernel) (by decide +kernel) (by decide +kernel) (by decide +kernel) (fun _ _ _ h => h) (Want.plain rfl) (fun u664 => (by kernel_rfl)) (fun _ => ⟨hst641.rle', hst641.get (i := 0) rfl, hst641.get (i := 1) rfl, hst641.get (i := 2) rfl, hst641.get (i := 3) rfl⟩) ?_
              refine LA_takeP (v := (.bool ((d583.tier == (-1)) != (((AL.get (AL.set ((hist (List.take k_564 (PS.decs S_36))).2) d583.pl (((AL.get ((hist (List.take k_564 (PS.decs S_36))).2) d583.pl).getD 0) + 1)) d583.pl).getD 0) == 3)))) 8 rfl rfl rfl (by decide +kernel) (by decide +kernel) (by decide +kernel) (by decide +kernel) (fun _ _ _ h => h) (Want.plain rfl) (fun u667 => (by kernel_rfl)) (fun _ => ⟨hst641.rle', hst641.get (i := 0) rfl, hst641.get (i := 1) rfl, hst641.get (i := 2) rfl, hst641.get (i := 3) rfl⟩) ?_
              refine LA_takeP (v := (.bool ((d583.tier == (-1)) != (((AL.get (AL.set ((hist (List.take k_564 (PS.decs S_36))).2) d583.pl (((AL.get ((hist (List.take k_564 (PS.decs S_36))).2) d583.pl).getD 0) + 1)) d583.pl).getD 0) == 3)))) 9 rfl rfl rfl (by decide +kernel) (by decide +kernel) (by decide +kernel) (by decide +kernel) (fun _ _ _ h => h) (Want.plain rfl) (fun u670 => rfl) (fun _ => ⟨hst641.rle', hst641.get (i := 0) rfl, hst641.get (i := 1) rfl, hst641.get (i := 2) rfl, hst641.get (i := 3) rfl⟩) ?_
              have c673 : ((d583.tier == (-1)) != (((AL.get (AL.set ((hist (List.take k_564 (PS.decs S_36))).2) d583.pl (((AL.get ((hist (List.take k_564 (PS.decs S_36))).2) d583.pl).getD 0) + 1)) d583.pl).getD 0) == 3)) = false := hff.1
              refine LA_takeP (v := (.map (some b528))) 10 rfl rfl rfl (by decide +kernel) (by decide +kernel) (by decide +kernel) (by decide +kernel) (fun _ _ _ h => h) (Want.of rfl rfl rfl rfl (by rw [c673]; rfl)) (fun u675 => rfl) (fun _ => ⟨hst641.rle', hst641.get (i := 0) rfl, hst641.get (i := 1) rfl, hst641.get (i := 2) rfl, hst641.get (i := 3) rfl⟩) ?_
              refine LA_takeP (v := (ptr b585 0)) 11 rfl rfl rfl (by decide +kernel) (by decide +kernel) (by decide +kernel) (by decide +kernel) (fun _ _ _ h => h) (Want.of rfl rfl rfl rfl (by rw [c673]; rfl)) (fun u678 => (by kernel_rfl)) (fun _ => ⟨hst641.rle', hst641.get (i := 0) rfl, hst641.get (i := 1) rfl, hst641.get (i := 2) rfl, hst641.get (i := 3) rfl⟩) ?_
              refine LA_take (v := (.agg #[(.int .i64 d583.pl.1), (.int .i64 d583.pl.2)])) 12 rfl rfl rfl (by decide +kernel) (by decide +kernel) (by decide +kernel) (by decide +kernel) (by decide +kernel) (fun _ _ _ h => h) (Want.of rfl rfl rfl rfl (by rw [c673]; rfl)) (fun u681 hF682 => (x_load rfl rfl (run_loadVar_agg ti_43 (hF682.2.2.1 _ _ (one_self _ _)) (l := [(.int .i64 d583.pl.1), (.int .i64 d583.pl.2)]) rfl rfl))) ⟨hst641.rle', hst641.get (i := 0) rfl, hst641.get (i := 1) rfl, hst641.get (i := 2) rfl, hst641.get (i := 3) rfl⟩ ?_
              refine LA_take (v := (.int .i64 ((AL.get (AL.set ((hist (List.take k_564 (PS.decs S_36))).2) d583.pl (((AL.get ((hist (List.take k_564 (PS.decs S_36))).2) d583.pl).getD 0) + 1)) d583.pl).getD 0))) 13 rfl rfl rfl (by decide +kernel) (by decide +kernel) (by decide +kernel) (by decide +kernel) (by decide +kernel) (fun _ _ _ h => h) (Want.of rfl rfl rfl rfl (by rw [c673]; rfl)) (fun u684 hF685 => x_lookup rfl rfl rfl (MapC.lookupP hm638 hF685.2.1 law43 mt_47 ti_3 d583.pl false 0 rfl)) ⟨hst641.rle', hst641.get (i := 0) rfl, hst641.get (i := 1) rfl, hst641.get (i := 2) rfl, hst641.get (i := 3) rfl⟩ ?_
              refine LA_takeP (v := (.bool (decide (((AL.get (AL.set ((hist (List.take k_564 (PS.decs S_36))).2) d583.pl (((AL.get ((hist (List.take k_564 (PS.decs S_36))).2) d583.pl).getD 0) + 1)) d583.pl).getD 0) > 3)))) 14 rfl rfl rfl (by decide +kernel) (by decide +kernel) (by decide +kernel) (by decide +kernel) (fun _ _ _ h => h) (Want.of rfl rfl rfl rfl (by rw [c673]; rfl)) (fun u687 => (by kernel_rfl)) (fun _ => ⟨hst641.rle', hst641.get (i := 0) rfl, hst641.get (i := 1) rfl, hst641.get (i := 2) rfl, hst641.get (i := 3) rfl⟩) ?_
              refine LA_takeP (v := (.bool (decide (((AL.get (AL.set ((hist (List.take k_564 (PS.decs S_36))).2) d583.pl (((AL.get ((hist (List.take k_564 (PS.decs S_36))).2) d583.pl).getD 0) + 1)) d583.pl).getD 0) > 3)))) 15 rfl rfl rfl (by decide +kernel) (by decide +kernel) (by decide +kernel) (by decide +kernel) (fun _ _ _ h => h) (Want.plain rfl) (fun u690 => (x_pick rfl rfl (by rw [c673]; rfl))) (fun _ => ⟨hst641.rle', hst641.get (i := 0) rfl, hst641.get (i := 1) rfl, hst641.get (i := 2) rfl, hst641.get (i := 3) rfl⟩) ?_
              refine LA_done (by decide +kernel) ?_
              have c692 : (decide (((AL.get (AL.set ((hist (List.take k_564 (PS.decs S_36))).2) d583.pl (((AL.get ((hist (List.take k_564 (PS.decs S_36))).2) d583.pl).getD 0) + 1)) d583.pl).getD 0) > 3)) = false := hff.2
              have q693 := of_decide_eq_false c692
              refine W_cond_false (by show Value.bool _ = _; exact congrArg Value.bool c692) ?_
              refine W_skip ?_
              refine W_region_lit ?_
              refine L_val (v := (.map (some b523))) (w' := w640) rfl rfl rfl rfl ?_
              refine L_val (v := (ptr b585 0)) (w' := w640) rfl rfl rfl (by kernel_rfl) ?_
              refine L_val (v := (.agg #[(.int .i64 d583.pl.1), (.int .i64 d583.pl.2)])) (w' := w640) rfl rfl rfl (x_load rfl rfl (run_loadVar_agg ti_43 (hst641.blk (i := 1) rfl) (l := [(.int .i64 d583.pl.1), (.int .i64 d583.pl.2)]) rfl rfl)) ?_
              refine L_val (v := (ptr b585 2)) (w' := w640) rfl rfl rfl (by kernel_rfl) ?_
              refine L_val (v := (.int .i64 d583.tier)) (w' := w640) rfl rfl rfl (x_load rfl rfl (run_loadVar_one ti_3 (hst641.blk (i := 1) rfl) rfl)) ?_
              obtain ⟨c694, w695, hr696, hm697, hst698⟩ := MapC.update hi560 (hst641.front 3 rfl rfl) law43 mt_47 d583.pl d583.tier (.int .i64 d583.tier) rfl
              refine L_skip rfl rfl (x_mapUpdate rfl rfl rfl rfl hr696) ?_
              refine L_nil ?_
              refine W_region_lit ?_
              refine L_val (v := (.int .i64 ((k_564 + 1 : Nat) : Int))) (w' := w695) rfl rfl rfl (x_add_nat rfl rfl rfl (by omega)) ?_
              refine L_val (v := (.int .i64 ((k_564 + 1 : Nat) : Int))) (w' := w695) rfl rfl rfl rfl ?_
              refine L_nil ?_
              refine ⟨(PS.decs S_36).length - (k_564 + 1), by first | omega | (simp only [List.length_append, List.length_cons, List.length_nil]; omega), ?_⟩
              exact ⟨_, (k_564 + 1), c694, c635, (upd_of (upd_of (upd_of (upd_of (upd_of (upd_of (upd_of (upd_of (upd_of (upd_of (upd_of (upd_of (upd_of (upd_of (upd_of (upd_of (upd_of (upd_of (upd_of (upd_of (upd_of (upd_of (upd_of (upd_of (upd_of (upd_of rfl rfl) rfl) rfl) rfl) rfl) rfl) rfl) rfl) rfl) rfl) rfl) rfl) rfl) rfl) rfl) rfl) rfl) rfl) rfl) rfl) rfl) rfl) rfl) rfl) rfl) rfl), hmk556, ((((hst698.front 1 rfl rfl).front 1 rfl rfl).front 3 rfl rfl).keepN 3 rfl), (by rw [hist_take (by omega) hd584]; exact hm697), (by rw [hist_take (by omega) hd584, stepF_lo (of_decide_eq_true c602)]; exact hm638), (by omega), rfl⟩
            · skip
              obtain ⟨v699, sn700, ob701, w702, hr703, hst704, hk705, hm706⟩ := MapC.entry0 hi561 (hst605.front 3 rfl rfl) law43 mt_47 ti_3 d583.pl 0 rfl
              refine One_val (i := 5) (v := .tuple #[v699, int sn700]) rfl rfl rfl (Want.plain rfl) (x_mapEntry rfl rfl rfl hr703) (fun h => absurd h (by decide +kernel)) ?_
              refine LA_takeP (v := (.int .i64 sn700)) 6 rfl rfl rfl (by decide +kernel) (by decide +kernel) (by decide +kernel) (by decide +kernel) (fun _ _ _ h => h) (Want.plain rfl) (fun u708 => (by kernel_rfl)) (fun h => absurd h (by decide +kernel)) ?_
              refine LA_all [3] (by decide +kernel) (by simp) ?_
              intro i_ hi_
              simp only [List.mem_cons, List.not_mem_nil, or_false] at hi_
              subst hi_
              obtain ⟨v711, hr712, hv713⟩ := MapC.lookupD (w := w702) hm706 (hst704.get (i := 0) rfl) law43 mt_47 ti_3 d583.pl false 0 rfl
              rw [AL.get_set, if_pos rfl, Option.getD_some] at hv713
              have hv713' : v711 = .int .i64 ((AL.get ((hist (List.take k_564 (PS.decs S_36))).2) d583.pl).getD 0) := hv713
              subst hv713'
              refine One_val (i := 3) (v := (.int .i64 ((AL.get ((hist (List.take k_564 (PS.decs S_36))).2) d583.pl).getD 0))) rfl rfl rfl (Want.plain rfl) (x_lookup rfl rfl rfl hr712) (fun h => absurd h (by decide +kernel)) ?_
              refine LA_takeP (v := (.int .i64 (((AL.get ((hist (List.take k_564 (PS.decs S_36))).2) d583.pl).getD 0) + 1))) 4 rfl rfl rfl (by decide +kernel) (by decide +kernel) (by decide +kernel) (by decide +kernel) (fun _ _ _ h => h) (Want.plain rfl) (fun u715 => (x_add rfl rfl rfl (by constructor <;> omega))) (fun h => absurd h (by decide +kernel)) ?_
              refine LA_all [7] (by decide +kernel) (by simp) ?_
              intro i_ hi_
              simp only [List.mem_cons, List.not_mem_nil, or_false] at hi_
              subst hi_
              obtain ⟨c718, w719, hr720, hm721, hst722⟩ := hk705 _ _ _ (((AL.get ((hist (List.take k_564 (PS.decs S_36))).2) d583.pl).getD 0) + 1) (.int .i64 (((AL.get ((hist (List.take k_564 (PS.decs S_36))).2) d583.pl).getD 0) + 1)) hst704 rfl
              refine One_skip (i := 7) rfl rfl (Want.plain rfl) (x_entryStore rfl rfl rfl rfl hr720) (fun h => absurd h (by decide +kernel)) ?_
              refine LA_done (by decide +kernel) ?_
              refine W_seq ?_
              refine W_seq ?_
              have hff := hch.lo (of_decide_eq_true c602)
              refine W_region_draw [] (fun w => Le R546 (hp w) ∧ Le c718 (hp w) ∧ Le (one b585 (.cells #[(.int .i64 d583.pl.1), (.int .i64 d583.pl.2), (.int .i64 d583.tier), (.string d583.reason)] 49 (0, 0))) (hp w) ∧ Le c542 (hp w) ∧ Le cT565 (hp w)) hmix (by decide +kernel) (fun _ _ h => h) ?_
              have hst724 := hst722.draws (w719.drawn + 1)
              generalize draws w719 (w719.drawn + 1) = w723 at hst724 ⊢
              refine LA_takeP (v := (ptr b585 2)) 0 rfl rfl rfl (by decide +kernel) (by decide +kernel) (by decide +kernel) (by decide +kernel) (fun _ _ _ h => h) (Want.plain rfl) (fun u726 => (by kernel_rfl)) (fun _ => ⟨hst724.rle', hst724.get (i := 0) rfl, hst724.get (i := 1) rfl, hst724.get (i := 2) rfl, hst724.get (i := 3) rfl⟩) ?_
              refine LA_take (v := (.int .i64 d583.tier)) 1 rfl rfl rfl (by decide +kernel) (by decide +kernel) (by decide +kernel) (by decide +kernel) (by decide +kernel) (fun _ _ _ h => h) (Want.plain rfl) (fun u729 hF730 => (x_load rfl rfl (run_loadVar_one ti_3 (hF730.2.2.1 _ _ (one_self _ _)) rfl))) ⟨hst724.rle', hst724.get (i := 0) rfl, hst724.get (i := 1) rfl, hst724.get (i := 2) rfl, hst724.get (i := 3) rfl⟩ ?_
              refine LA_takeP (v := (.bool (d583.tier == (-1)))) 2 rfl rfl rfl (by decide +kernel) (by decide +kernel) (by decide +kernel) (by decide +kernel) (fun _ _ _ h => h) (Want.plain rfl) (fun u732 => (by kernel_rfl)) (fun _ => ⟨hst724.rle', hst724.get (i := 0) rfl, hst724.get (i := 1) rfl, hst724.get (i := 2) rfl, hst724.get (i := 3) rfl⟩) ?_
              refine LA_takeP (v := (.map (some b528))) 3 rfl rfl rfl (by decide +kernel) (by decide +kernel) (by decide +kernel) (by decide +kernel) (fun _ _ _ h => h) (Want.plain rfl) (fun u735 => rfl) (fun _ => ⟨hst724.rle', hst724.get (i := 0) rfl, hst724.get (i := 1) rfl, hst724.get (i := 2) rfl, hst724.get (i := 3) rfl⟩) ?_
              refine LA_takeP (v := (ptr b585 0)) 4 rfl rfl rfl (by decide +kernel) (by decide +kernel) (by decide +kernel) (by decide +kernel) (fun _ _ _ h => h) (Want.plain rfl) (fun u738 => (by kernel_rfl)) (fun _ => ⟨hst724.rle', hst724.get (i := 0) rfl, hst724.get (i := 1) rfl, hst724.get (i := 2) rfl, hst724.get (i := 3) rfl⟩) ?_
              refine LA_take (v := (.agg #[(.int .i64 d583.pl.1), (.int .i64 d583.pl.2)])) 5 rfl rfl rfl (by decide +kernel) (by decide +kernel) (by decide +kernel) (by decide +kernel) (by decide +kernel) (fun _ _ _ h => h) (Want.plain rfl) (fun u741 hF742 => (x_load rfl rfl (run_loadVar_agg ti_43 (hF742.2.2.1 _ _ (one_self _ _)) (l := [(.int .i64 d583.pl.1), (.int .i64 d583.pl.2)]) rfl rfl))) ⟨hst724.rle', hst724.get (i := 0) rfl, hst724.get (i := 1) rfl, hst724.get (i := 2) rfl, hst724.get (i := 3) rfl⟩ ?_
              refine LA_take (v := (.int .i64 ((AL.get (AL.set ((hist (List.take k_564 (PS.decs S_36))).2) d583.pl (((AL.get ((hist (List.take k_564 (PS.decs S_36))).2) d583.pl).getD 0) + 1)) d583.pl).getD 0))) 6 rfl rfl rfl (by decide +kernel) (by decide +kernel) (by decide +kernel) (by decide +kernel) (by decide +kernel) (fun _ _ _ h => h) (Want.plain rfl) (fun u744 hF745 => x_lookup rfl rfl rfl (MapC.lookupP hm721 hF745.2.1 law43 mt_47 ti_3 d583.pl false 0 rfl)) ⟨hst724.rle', hst724.get (i := 0) rfl, hst724.get (i := 1) rfl, hst724.get (i := 2) rfl, hst724.get (i := 3) rfl⟩ ?_
              refine LA_takeP (v := (.bool (((AL.get (AL.set ((hist (List.take k_564 (PS.decs S_36))).2) d583.pl (((AL.get ((hist (List.take k_564 (PS.decs S_36))).2) d583.pl).getD 0) + 1)) d583.pl).getD 0) == 3))) 7 rfl rfl rfl (by decide +kernel) (by decide +kernel) (by decide +kernel) (by decide +kernel) (fun _ _ _ h => h) (Want.plain rfl) (fun u747 => (by kernel_rfl)) (fun _ => ⟨hst724.rle', hst724.get (i := 0) rfl, hst724.get (i := 1) rfl, hst724.get (i := 2) rfl, hst724.get (i := 3) rfl⟩) ?_
              refine LA_takeP (v := (.bool ((d583.tier == (-1)) != (((AL.get (AL.set ((hist (List.take k_564 (PS.decs S_36))).2) d583.pl (((AL.get ((hist (List.take k_564 (PS.decs S_36))).2) d583.pl).getD 0) + 1)) d583.pl).getD 0) == 3)))) 8 rfl rfl rfl (by decide +kernel) (by decide +kernel) (by decide +kernel) (by decide +kernel) (fun _ _ _ h => h) (Want.plain rfl) (fun u750 => (by kernel_rfl)) (fun _ => ⟨hst724.rle', hst724.get (i := 0) rfl, hst724.get (i := 1) rfl, hst724.get (i := 2) rfl, hst724.get (i := 3) rfl⟩) ?_
              refine LA_takeP (v := (.bool ((d583.tier == (-1)) != (((AL.get (AL.set ((hist (List.take k_564 (PS.decs S_36))).2) d583.pl (((AL.get ((hist (List.take k_564 (PS.decs S_36))).2) d583.pl).getD 0) + 1)) d583.pl).getD 0) == 3)))) 9 rfl rfl rfl (by decide +kernel) (by decide +kernel) (by decide +kernel) (by decide +kernel) (fun _ _ _ h => h) (Want.plain rfl) (fun u753 => rfl) (fun _ => ⟨hst724.rle', hst724.get (i := 0) rfl, hst724.get (i := 1) rfl, hst724.get (i := 2) rfl, hst724.get (i := 3) rfl⟩) ?_
              have c756 : ((d583.tier == (-1)) != (((AL.get (AL.set ((hist (List.take k_564 (PS.decs S_36))).2) d583.pl (((AL.get ((hist (List.take k_564 (PS.decs S_36))).2) d583.pl).getD 0) + 1)) d583.pl).getD 0) == 3)) = false := hff.1
              refine LA_takeP (v := (.map (some b528))) 10 rfl rfl rfl (by decide +kernel) (by decide +kernel) (by decide +kernel) (by decide +kernel) (fun _ _ _ h => h) (Want.of rfl rfl rfl rfl (by rw [c756]; rfl)) (fun u758 => rfl) (fun _ => ⟨hst724.rle', hst724.get (i := 0) rfl, hst724.get (i := 1) rfl, hst724.get (i := 2) rfl, hst724.get (i := 3) rfl⟩) ?_
              refine LA_takeP (v := (ptr b585 0)) 11 rfl rfl rfl (by decide +kernel) (by decide +kernel) (by decide +kernel) (by decide +kernel) (fun _ _ _ h => h) (Want.of rfl rfl rfl rfl (by rw [c756]; rfl)) (fun u761 => (by kernel_rfl)) (fun _ => ⟨hst724.rle', hst724.get (i := 0) rfl, hst724.get (i := 1) rfl, hst724.get (i := 2) rfl, hst724.get (i := 3) rfl⟩) ?_
              refine LA_take (v := (.agg #[(.int .i64 d583.pl.1), (.int .i64 d583.pl.2)])) 12 rfl rfl rfl (by decide +kernel) (by decide +kernel) (by decide +kernel) (by decide +kernel) (by decide +kernel) (fun _ _ _ h => h) (Want.of rfl rfl rfl rfl (by rw [c756]; rfl)) (fun u764 hF765 => (x_load rfl rfl (run_loadVar_agg ti_43 (hF765.2.2.1 _ _ (one_self _ _)) (l := [(.int .i64 d583.pl.1), (.int .i64 d583.pl.2)]) rfl rfl))) ⟨hst724.rle', hst724.get (i := 0) rfl, hst724.get (i := 1) rfl, hst724.get (i := 2) rfl, hst724.get (i := 3) rfl⟩ ?_
              refine LA_take (v := (.int .i64 ((AL.get (AL.set ((hist (List.take k_564 (PS.decs S_36))).2) d583.pl (((AL.get ((hist (List.take k_564 (PS.decs S_36))).2) d583.pl).getD 0) + 1)) d583.pl).getD 0))) 13 rfl rfl rfl (by decide +kernel) (by decide +kernel) (by decide +kernel) (by decide +kernel) (by decide +kernel) (fun _ _ _ h => h) (Want.of rfl rfl rfl rfl (by rw [c756]; rfl)) (fun u767 hF768 => x_lookup rfl rfl rfl (MapC.lookupP hm721 hF768.2.1 law43 mt_47 ti_3 d583.pl false 0 rfl)) ⟨hst724.rle', hst724.get (i := 0) rfl, hst724.get (i := 1) rfl, hst724.get (i := 2) rfl, hst724.get (i := 3) rfl⟩ ?_
              refine LA_takeP (v := (.bool (decide (((AL.get (AL.set ((hist (List.take k_564 (PS.decs S_36))).2) d583.pl (((AL.get ((hist (List.take k_564 (PS.decs S_36))).2) d583.pl).getD 0) + 1)) d583.pl).getD 0) > 3)))) 14 rfl rfl rfl (by decide +kernel) (by decide +kernel) (by decide +kernel) (by decide +kernel) (fun _ _ _ h => h) (Want.of rfl rfl rfl rfl (by rw [c756]; rfl)) (fun u770 => (by kernel_rfl)) (fun _ => ⟨hst724.rle', hst724.get (i := 0) rfl, hst724.get (i := 1) rfl, hst724.get (i := 2) rfl, hst724.get (i := 3) rfl⟩) ?_
              refine LA_takeP (v := (.bool (decide (((AL.get (AL.set ((hist (List.take k_564 (PS.decs S_36))).2) d583.pl (((AL.get ((hist (List.take k_564 (PS.decs S_36))).2) d583.pl).getD 0) + 1)) d583.pl).getD 0) > 3)))) 15 rfl rfl rfl (by decide +kernel) (by decide +kernel) (by decide +kernel) (by decide +kernel) (fun _ _ _ h => h) (Want.plain rfl) (fun u773 => (x_pick rfl rfl (by rw [c756]; rfl))) (fun _ => ⟨hst724.rle', hst724.get (i := 0) rfl, hst724.get (i := 1) rfl, hst724.get (i := 2) rfl, hst724.get (i := 3) rfl⟩) ?_
              refine LA_done (by decide +kernel) ?_
              have c775 : (decide (((AL.get (AL.set ((hist (List.take k_564 (PS.decs S_36))).2) d583.pl (((AL.get ((hist (List.take k_564 (PS.decs S_36))).2) d583.pl).getD 0) + 1)) d583.pl).getD 0) > 3)) = false := hff.2
              have q776 := of_decide_eq_false c775
              refine W_cond_false (by show Value.bool _ = _; exact congrArg Value.bool c775) ?_
              refine W_skip ?_
              refine W_region_lit ?_
              refine L_val (v := (.map (some b523))) (w' := w723) rfl rfl rfl rfl ?_
              refine L_val (v := (ptr b585 0)) (w' := w723) rfl rfl rfl (by kernel_rfl) ?_
              refine L_val (v := (.agg #[(.int .i64 d583.pl.1), (.int .i64 d583.pl.2)])) (w' := w723) rfl rfl rfl (x_load rfl rfl (run_loadVar_agg ti_43 (hst724.blk (i := 1) rfl) (l := [(.int .i64 d583.pl.1), (.int .i64 d583.pl.2)]) rfl rfl)) ?_
              refine L_val (v := (ptr b585 2)) (w' := w723) rfl rfl rfl (by kernel_rfl) ?_
              refine L_val (v := (.int .i64 d583.tier)) (w' := w723) rfl rfl rfl (x_load rfl rfl (run_loadVar_one ti_3 (hst724.blk (i := 1) rfl) rfl)) ?_
              obtain ⟨c777, w778, hr779, hm780, hst781⟩ := MapC.update hi560 (hst724.front 3 rfl rfl) law43 mt_47 d583.pl d583.tier (.int .i64 d583.tier) rfl
              refine L_skip rfl rfl (x_mapUpdate rfl rfl rfl rfl hr779) ?_
              refine L_nil ?_
              refine W_region_lit ?_
              refine L_val (v := (.int .i64 ((k_564 + 1 : Nat) : Int))) (w' := w778) rfl rfl rfl (x_add_nat rfl rfl rfl (by omega)) ?_
              refine L_val (v := (.int .i64 ((k_564 + 1 : Nat) : Int))) (w' := w778) rfl rfl rfl rfl ?_
              refine L_nil ?_
              refine ⟨(PS.decs S_36).length - (k_564 + 1), by first | omega | (simp only [List.length_append, List.length_cons, List.length_nil]; omega), ?_⟩
              exact ⟨_, (k_564 + 1), c777, c718, (upd_of (upd_of (upd_of (upd_of (upd_of (upd_of (upd_of (upd_of (upd_of (upd_of (upd_of (upd_of (upd_of (upd_of (upd_of (upd_of (upd_of (upd_of (upd_of (upd_of (upd_of (upd_of (upd_of (upd_of (upd_of (upd_of rfl rfl) rfl) rfl) rfl) rfl) rfl) rfl) rfl) rfl) rfl) rfl) rfl) rfl) rfl) rfl) rfl) rfl) rfl) rfl) rfl) rfl) rfl) rfl) rfl) rfl) rfl), hmk556, ((((hst781.front 1 rfl rfl).front 1 rfl rfl).front 3 rfl rfl).keepN 3 rfl), (by rw [hist_take (by omega) hd584]; exact hm780), (by rw [hist_take (by omega) hd584, stepF_lo (of_decide_eq_true c602)]; exact hm721), (by omega), rfl⟩
          · skip
            have q782 := of_decide_eq_false c602
            refine W_cond_false (by show Value.bool _ = _; exact congrArg Value.bool c602) ?_
            refine W_skip ?_
            refine W_seq ?_
            refine W_seq ?_
            have hff := hch.hi (of_decide_eq_false c602)
            refine W_region_draw [] (fun w => Le R546 (hp w) ∧ Le (one b585 (.cells #[(.int .i64 d583.pl.1), (.int .i64 d583.pl.2), (.int .i64 d583.tier), (.string d583.reason)] 49 (0, 0))) (hp w) ∧ Le c542 (hp w) ∧ Le cT565 (hp w) ∧ Le cF566 (hp w)) hmix (by decide +kernel) (fun _ _ h => h) ?_
            have hst784 := hst589.draws (w588.drawn + 1)
            generalize draws w588 (w588.drawn + 1) = w783 at hst784 ⊢
            refine LA_takeP (v := (ptr b585 2)) 0 rfl rfl rfl (by decide +kernel) (by decide +kernel) (by decide +kernel) (by decide +kernel) (fun _ _ _ h => h) (Want.plain rfl) (fun u786 => (by kernel_rfl)) (fun _ => ⟨hst784.rle', hst784.get (i := 0) rfl, hst784.get (i := 1) rfl, hst784.get (i := 2) rfl, hst784.get (i := 3) rfl⟩) ?_
            refine LA_take (v := (.int .i64 d583.tier)) 1 rfl rfl rfl (by decide +kernel) (by decide +kernel) (by decide +kernel) (by decide +kernel) (by decide +kernel) (fun _ _ _ h => h) (Want.plain rfl) (fun u789 hF790 => (x_load rfl rfl (run_loadVar_one ti_3 (hF790.2.1 _ _ (one_self _ _)) rfl))) ⟨hst784.rle', hst784.get (i := 0) rfl, hst784.get (i := 1) rfl, hst784.get (i := 2) rfl, hst784.get (i := 3) rfl⟩ ?_
            refine LA_takeP (v := (.bool (d583.tier == (-1)))) 2 rfl rfl rfl (by decide +kernel) (by decide +kernel) (by decide +kernel) (by decide +kernel) (fun _ _ _ h => h) (Want.plain rfl) (fun u792 => (by kernel_rfl)) (fun _ => ⟨hst784.rle', hst784.get (i := 0) rfl, hst784.get (i := 1) rfl, hst784.get (i := 2) rfl, hst784.get (i := 3) rfl⟩) ?_
            refine LA_takeP (v := (.map (some b528))) 3 rfl rfl rfl (by decide +kernel) (by decide +kernel) (by decide +kernel) (by decide +kernel) (fun _ _ _ h => h) (Want.plain rfl) (fun u795 => rfl) (fun _ => ⟨hst784.rle', hst784.get (i := 0) rfl, hst784.get (i := 1) rfl, hst784.get (i := 2) rfl, hst784.get (i := 3) rfl⟩) ?_
            refine LA_takeP (v := (ptr b585 0)) 4 rfl rfl rfl (by decide +kernel) (by decide +kernel) (by decide +kernel) (by decide +kernel) (fun _ _ _ h => h) (Want.plain rfl) (fun u798 => (by kernel_rfl)) (fun _ => ⟨hst784.rle', hst784.get (i := 0) rfl, hst784.get (i := 1) rfl, hst784.get (i := 2) rfl, hst784.get (i := 3) rfl⟩) ?_
            refine LA_take (v := (.agg #[(.int .i64 d583.pl.1), (.int .i64 d583.pl.2)])) 5 rfl rfl rfl (by decide +kernel) (by decide +kernel) (by decide +kernel) (by decide +kernel) (by decide +kernel) (fun _ _ _ h => h) (Want.plain rfl) (fun u801 hF802 => (x_load rfl rfl (run_loadVar_agg ti_43 (hF802.2.1 _ _ (one_self _ _)) (l := [(.int .i64 d583.pl.1), (.int .i64 d583.pl.2)]) rfl rfl))) ⟨hst784.rle', hst784.get (i := 0) rfl, hst784.get (i := 1) rfl, hst784.get (i := 2) rfl, hst784.get (i := 3) rfl⟩ ?_
            refine LA_take (v := (.int .i64 ((AL.get ((hist (List.take k_564 (PS.decs S_36))).2) d583.pl).getD 0))) 6 rfl rfl rfl (by decide +kernel) (by decide +kernel) (by decide +kernel) (by decide +kernel) (by decide +kernel) (fun _ _ _ h => h) (Want.plain rfl) (fun u804 hF805 => x_lookup rfl rfl rfl (MapC.lookupP hi561 hF805.2.2.2.2 law43 mt_47 ti_3 d583.pl false 0 rfl)) ⟨hst784.rle', hst784.get (i := 0) rfl, hst784.get (i := 1) rfl, hst784.get (i := 2) rfl, hst784.get (i := 3) rfl⟩ ?_
            refine LA_takeP (v := (.bool (((AL.get ((hist (List.take k_564 (PS.decs S_36))).2) d583.pl).getD 0) == 3))) 7 rfl rfl rfl (by decide +kernel) (by decide +kernel) (by decide +kernel) (by decide +kernel) (fun _ _ _ h => h) (Want.plain rfl) (fun u807 => (by kernel_rfl)) (fun _ => ⟨hst784.rle', hst784.get (i := 0) rfl, hst784.get (i := 1) rfl, hst784.get (i := 2) rfl, hst784.get (i := 3) rfl⟩) ?_
            refine LA_takeP (v := (.bool ((d583.tier == (-1)) != (((AL.get ((hist (List.take k_564 (PS.decs S_36))).2) d583.pl).getD 0) == 3)))) 8 rfl rfl rfl (by decide +kernel) (by decide +kernel) (by decide +kernel) (by decide +kernel) (fun _ _ _ h => h) (Want.plain rfl) (fun u810 => (by kernel_rfl)) (fun _ => ⟨hst784.rle', hst784.get (i := 0) rfl, hst784.get (i := 1) rfl, hst784.get (i := 2) rfl, hst784.get (i := 3) rfl⟩) ?_
            refine LA_takeP (v := (.bool ((d583.tier == (-1)) != (((AL.get ((hist (List.take k_564 (PS.decs S_36))).2) d583.pl).getD 0) == 3)))) 9 rfl rfl rfl (by decide +kernel) (by decide +kernel) (by decide +kernel) (by decide +kernel) (fun _ _ _ h => h) (Want.plain rfl) (fun u813 => rfl) (fun _ => ⟨hst784.rle', hst784.get (i := 0) rfl, hst784.get (i := 1) rfl, hst784.get (i := 2) rfl, hst784.get (i := 3) rfl⟩) ?_
            have c816 : ((d583.tier == (-1)) != (((AL.get ((hist (List.take k_564 (PS.decs S_36))).2) d583.pl).getD 0) == 3)) = false := hff.1
            refine LA_takeP (v := (.map (some b528))) 10 rfl rfl rfl (by decide +kernel) (by decide +kernel) (by decide +kernel) (by decide +kernel) (fun _ _ _ h => h) (Want.of rfl rfl rfl rfl (by rw [c816]; rfl)) (fun u818 => rfl) (fun _ => ⟨hst784.rle', hst784.get (i := 0) rfl, hst784.get (i := 1) rfl, hst784.get (i := 2) rfl, hst784.get (i := 3) rfl⟩) ?_
            refine LA_takeP (v := (ptr b585 0)) 11 rfl rfl rfl (by decide +kernel) (by decide +kernel) (by decide +kernel) (by decide +kernel) (fun _ _ _ h => h) (Want.of rfl rfl rfl rfl (by rw [c816]; rfl)) (fun u821 => (by kernel_rfl)) (fun _ => ⟨hst784.rle', hst784.get (i := 0) rfl, hst784.get (i := 1) rfl, hst784.get (i := 2) rfl, hst784.get (i := 3) rfl⟩) ?_
            refine LA_take (v := (.agg #[(.int .i64 d583.pl.1), (.int .i64 d583.pl.2)])) 12 rfl rfl rfl (by decide +kernel) (by decide +kernel) (by decide +kernel) (by decide +kernel) (by decide +kernel) (fun _ _ _ h => h) (Want.of rfl rfl rfl rfl (by rw [c816]; rfl)) (fun u824 hF825 => (x_load rfl rfl (run_loadVar_agg ti_43 (hF825.2.1 _ _ (one_self _ _)) (l := [(.int .i64 d583.pl.1), (.int .i64 d583.pl.2)]) rfl rfl))) ⟨hst784.rle', hst784.get (i := 0) rfl, hst784.get (i := 1) rfl, hst784.get (i := 2) rfl, hst784.get (i := 3) rfl⟩ ?_
            refine LA_take (v := (.int .i64 ((AL.get ((hist (List.take k_564 (PS.decs S_36))).2) d583.pl).getD 0))) 13 rfl rfl rfl (by decide +kernel) (by decide +kernel) (by decide +kernel) (by decide +kernel) (by decide +kernel) (fun _ _ _ h => h) (Want.of rfl rfl rfl rfl (by rw [c816]; rfl)) (fun u827 hF828 => x_lookup rfl rfl rfl (MapC.lookupP hi561 hF828.2.2.2.2 law43 mt_47 ti_3 d583.pl false 0 rfl)) ⟨hst784.rle', hst784.get (i := 0) rfl, hst784.get (i := 1) rfl, hst784.get (i := 2) rfl, hst784.get (i := 3) rfl⟩ ?_
            refine LA_takeP (v := (.bool (decide (((AL.get ((hist (List.take k_564 (PS.decs S_36))).2) d583.pl).getD 0) > 3)))) 14 rfl rfl rfl (by decide +kernel) (by decide +kernel) (by decide +kernel) (by decide +kernel) (fun _ _ _ h => h) (Want.of rfl rfl rfl rfl (by rw [c816]; rfl)) (fun u830 => (by kernel_rfl)) (fun _ => ⟨hst784.rle', hst784.get (i := 0) rfl, hst784.get (i := 1) rfl, hst784.get (i := 2) rfl, hst784.get (i := 3) rfl⟩) ?_
            refine LA_takeP (v := (.bool (decide (((AL.get ((hist (List.take k_564 (PS.decs S_36))).2) d583.pl).getD 0) > 3)))) 15 rfl rfl rfl (by decide +kernel) (by decide +kernel) (by decide +kernel) (by decide +kernel) (fun _ _ _ h => h) (Want.plain rfl) (fun u833 => (x_pick rfl rfl (by rw [c816]; rfl))) (fun _ => ⟨hst784.rle', hst784.get (i := 0) rfl, hst784.get (i := 1) rfl, hst784.get (i := 2) rfl, hst784.get (i := 3) rfl⟩) ?_
            refine LA_done (by decide +kernel) ?_
            have c835 : (decide (((AL.get ((hist (List.take k_564 (PS.decs S_36))).2) d583.pl).getD 0) > 3)) = false := hff.2
            have q836 := of_decide_eq_false c835
            refine W_cond_false (by show Value.bool _ = _; exact congrArg Value.bool c835) ?_
            refine W_skip ?_
            refine W_region_lit ?_
            refine L_val (v := (.map (some b523))) (w' := w783) rfl rfl rfl rfl ?_
            refine L_val (v := (ptr b585 0)) (w' := w783) rfl rfl rfl (by kernel_rfl) ?_
            refine L_val (v := (.agg #[(.int .i64 d583.pl.1), (.int .i64 d583.pl.2)])) (w' := w783) rfl rfl rfl (x_load rfl rfl (run_loadVar_agg ti_43 (hst784.blk (i := 0) rfl) (l := [(.int .i64 d583.pl.1), (.int .i64 d583.pl.2)]) rfl rfl)) ?_
            refine L_val (v := (ptr b585 2)) (w' := w783) rfl rfl rfl (by kernel_rfl) ?_
            refine L_val (v := (.int .i64 d583.tier)) (w' := w783) rfl rfl rfl (x_load rfl rfl (run_loadVar_one ti_3 (hst784.blk (i := 0) rfl) rfl)) ?_
            obtain ⟨c837, w838, hr839, hm840, hst841⟩ := MapC.update hi560 (hst784.front 2 rfl rfl) law43 mt_47 d583.pl d583.tier (.int .i64 d583.tier) rfl
            refine L_skip rfl rfl (x_mapUpdate rfl rfl rfl rfl hr839) ?_
            refine L_nil ?_
            refine W_region_lit ?_
            refine L_val (v := (.int .i64 ((k_564 + 1 : Nat) : Int))) (w' := w838) rfl rfl rfl (x_add_nat rfl rfl rfl (by omega)) ?_
            refine L_val (v := (.int .i64 ((k_564 + 1 : Nat) : Int))) (w' := w838) rfl rfl rfl rfl ?_
            refine L_nil ?_
            refine ⟨(PS.decs S_36).length - (k_564 + 1), by first | omega | (simp only [List.length_append, List.length_cons, List.length_nil]; omega), ?_⟩
            exact ⟨_, (k_564 + 1), c837, cF566, (upd_of (upd_of (upd_of (upd_of (upd_of (upd_of (upd_of (upd_of (upd_of (upd_of (upd_of (upd_of (upd_of (upd_of (upd_of (upd_of (upd_of (upd_of (upd_of (upd_of (upd_of (upd_of (upd_of (upd_of (upd_of (upd_of rfl rfl) rfl) rfl) rfl) rfl) rfl) rfl) rfl) rfl) rfl) rfl) rfl) rfl) rfl) rfl) rfl) rfl) rfl) rfl) rfl) rfl) rfl) rfl) rfl) rfl) rfl), hmk556, ((((hst841.front 3 rfl rfl).front 1 rfl rfl).front 3 rfl rfl).keepN 3 rfl), (by rw [hist_take (by omega) hd584]; exact hm840), (by rw [hist_take (by omega) hd584, stepF_hi (of_decide_eq_false c602)]; exact hi561), (by omega), rfl⟩
        · skip
          have q842 := of_decide_eq_false c568
          refine W_cond_false (by show Value.bool _ = _; exact congrArg Value.bool c568) ?_
          refine W_exit ?_
          refine W_seq ?_
          refine W_seq ?_
          have hk_ : k_564 = (PS.decs S_36).length := by omega
          have hfs843 : MapC kk (vE (Value.int .i64)) (some b523) (hist (PS.decs S_36)).1 cT565 := by have h_ := hi560; rw [hk_, List.take_length] at h_; exact h_
          refine W_region_lit ?_
          refine L_val (v := (.map (some b523))) (w' := w558) rfl rfl rfl rfl ?_
          obtain ⟨es844, ck845, hE846⟩ := MapC.open hfs843
          refine L_new hst557 (v := fun b => ptr b 0) rfl rfl rfl (x_range rfl rfl (run_range mt_47 hE846 (hst557.get (i := 1) rfl))) (fun r847 w848 hst849 => ?_)
          have hI851 := It.start b523 r847 es844 ck845 ((hist (PS.decs S_36)).1)
          generalize one r847 (.mapIter (some b523) ck845 #[] ck845) = ci850 at hI851 hst849
          refine L_nil ?_
          refine W_block ?_
          refine W_loop (I := fun σ w_ m_ => ∃ (σ0 : Fr) (R_ : Hp) (xs_ : List (Pl × Int)) (zs_ : List (Pl × Int)) (ci_ : Hp) (cP : Hp), σ = upd (upd (upd (upd (upd (upd (upd (upd (upd (upd (upd (upd (upd (upd (upd (upd (upd (upd (upd (upd (upd (upd (upd (upd (upd (upd (upd (upd (upd σ0 0 (.agg #[(.int .i64 a), (.int .i64 b), (.int .i64 c), (.int .i64 d)])) 1 (.slice a39 xs.length cap40)) 2 (ptr b1 0)) 5 (.bool true)) 6 (ptr p20 0)) 8 (.int .i64 (k_35 : Int))) 12 (.map (some b523))) 13 (.map (some b528))) 19 (.bool true)) 20 (.tuple #[(ptr p20 0), (ptr m23 0)])) 21 (.agg #[(.int .i64 a), (.int .i64 b), (.int .i64 c), (.int .i64 d)])) 22 (.tuple #[(ptr p20 0), (ptr m23 0)])) 23 (ptr p20 0)) 24 (ptr m23 0)) 25 (.int .i64 (k_35 : Int))) 26 (.slice a39 xs.length cap40)) 27 (.int .i64 (xs.length : Int))) 28 (.bool (decide ((k_35 : Int) < (xs.length : Int))))) 29 (.bool (decide ((k_35 : Int) < (xs.length : Int))))) 32 (.bool false)) 81 (.map (some b523))) 82 (.map (some b528))) 83 (ptr p20 0)) 84 (.slice a552 ((PS.decs S_36).length) cap553)) 85 (.int .i64 (((PS.decs S_36).length : Nat) : Int))) 86 (.int .i64 (k_564 : Int))) 87 (.bool (decide ((k_564 : Int) < (((PS.decs S_36).length : Nat) : Int))))) 152 (.map (some b523))) 153 (ptr r847 0) ∧ mks (σ0 0) = [] ∧ Step w R [] w_ R_ [ci_, cP, cT565] ∧ Le R546 R_ ∧ It b523 r847 es844 ck845 ((hist (PS.decs S_36)).1) xs_ ci_ ∧ Prof R_ p20 S_36 cP ∧ (xs_ ++ zs_).Perm (hist (PS.decs S_36)).1 ∧ m_ = (hist (PS.decs S_36)).1.length - xs_.length) (m := (hist (PS.decs S_36)).1.length - ([] : List (Pl × Int)).length) ?_ ?_
          · skip
            exact ⟨_, _, [], ((hist (PS.decs S_36)).1), ci850, c542, (upd_of (upd_of (upd_of (upd_of (upd_of (upd_of (upd_of (upd_of (upd_of (upd_of (upd_of (upd_of (upd_of (upd_of (upd_of (upd_of (upd_of (upd_of (upd_of (upd_of (upd_of (upd_of (upd_of (upd_of (upd_of (upd_of (upd_of (upd_of (upd_of rfl rfl) rfl) rfl) rfl) rfl) rfl) rfl) rfl) rfl) rfl) rfl) rfl) rfl) rfl) rfl) rfl) rfl) rfl) rfl) rfl) rfl) rfl) rfl) rfl) rfl) rfl) rfl) rfl) rfl), hmk556, ((((hst849.front 2 rfl rfl).front 2 rfl rfl).front 2 rfl rfl).keepN 3 rfl), Le.refl _, hI851, hm550, (List.Perm.refl _), rfl⟩
          · skip
            rintro m865 σ_ w854 ⟨s859, R860, xs_861, zs_862, ci_863, cP864, rfl, hmk852, hst853, hle855, hi856, hi857, hf858, rfl⟩
            refine W_seq ?_
            refine W_region_lit ?_
            have hst878 := hst853
            rcases run_next (P := Tryd.prog) 0 hE846 (hst878.get (i := 2) rfl) hi856 hst878 with ⟨hq866, hr867⟩ | ⟨p868, v869, w870, ci871, hr867, hv872, hm873, hsub874, hI875, hst876, he877⟩
            · skip
              refine L_val (v := .tuple #[.bool false]) rfl rfl rfl (x_next rfl rfl hr867) ?_
              refine L_val (v := (.bool false)) (w' := w854) rfl rfl rfl (by kernel_rfl) ?_
              refine L_nil ?_
              refine W_seq ?_
              refine W_cond_false (by show Value.bool _ = _; exact congrArg Value.bool rfl) ?_
              refine W_exit ?_
              refine W_seq ?_
              refine W_region_lit ?_
              refine L_val (v := (.bool true)) (w' := w854) rfl rfl rfl rfl ?_
              refine L_val (v := (.bool true)) (w' := w854) rfl rfl rfl rfl ?_
              refine L_nil ?_
              refine W_ret ?_
              refine ⟨_, _, res_run (rs := [.tmp 4]) (vs := [(.bool true)]) Tryd.results4 (.cons (.tmp rfl) .nil) hmk852, ?_⟩
              exact ⟨_, _, [], rfl, hst878.keepN 0 rfl, rfl, rfl⟩
            · skip
              have hv872' : v869 = .int .i64 p868.2 := hv872
              subst hv872'
              refine L_val (v := .tuple #[.bool true, (.agg #[(.int .i64 p868.1.1), (.int .i64 p868.1.2)]), (.int .i64 p868.2)]) rfl rfl rfl (x_next rfl rfl hr867) ?_
              refine L_val (v := (.bool true)) (w' := w870) rfl rfl rfl (by kernel_rfl) ?_
              refine L_nil ?_
              refine W_seq ?_
              refine W_cond_true (by show Value.bool _ = _; exact congrArg Value.bool rfl) ?_
              refine W_skip ?_
              refine W_block ?_
              refine W_seq ?_
              obtain ⟨zs879, hz880⟩ := hsub874
              have hlast_ := hf31.last hm873
              have hpl_ := hz880.length_eq
              simp only [List.length_append, List.length_cons] at hpl_
              refine W_region_lit ?_
              refine L_val (v := .tuple #[(.agg #[(.int .i64 p868.1.1), (.int .i64 p868.1.2)]), (.int .i64 p868.2)]) (w' := w870) rfl rfl rfl (x_entry rfl rfl (he877 _ (hst876.get (i := 2) rfl) (hst876.get (i := 0) rfl))) ?_
              refine L_val (v := (.agg #[(.int .i64 p868.1.1), (.int .i64 p868.1.2)])) (w' := w870) rfl rfl rfl (by kernel_rfl) ?_
              refine L_val (v := (.int .i64 p868.2)) (w' := w870) rfl rfl rfl (by kernel_rfl) ?_
              refine L_new hst876 (v := fun b => ptr b 0) (ob := .cells #[(.int .i64 0), (.int .i64 0)] 43 (0, 0)) rfl rfl rfl (by kernel_rfl) (fun b881 w882 hst883 => ?_)
              refine L_store hst883 0 ti_43 rfl rfl rfl rfl rfl rfl rfl rfl rfl rfl rfl (fun w884 hst885 => ?_)
              change Step _ _ _ _ _ [one b881 (.cells #[(.int .i64 p868.1.1), (.int .i64 p868.1.2)] 43 (0, 0)), ci871, cP864, cT565] at hst885
              refine L_val (v := (.int .i64 p868.2)) (w' := w884) rfl rfl rfl rfl ?_
              refine L_nil ?_
              refine W_seq ?_
              refine W_region_lit ?_
              refine L_val (v := (ptr p20 0)) (w' := w884) rfl rfl rfl rfl ?_
              refine L_val (v := (.agg #[(.int .i64 p868.1.1), (.int .i64 p868.1.2)])) (w' := w884) rfl rfl rfl (x_load rfl rfl (run_loadVar_agg ti_43 (hst885.blk (i := 0) rfl) (l := [(.int .i64 p868.1.1), (.int .i64 p868.1.2)]) rfl rfl)) ?_
              have hst886 := (hst885.front 2 rfl rfl)
              refine L_callS [cP864] [one b881 (.cells #[(.int .i64 p868.1.1), (.int .i64 p868.1.2)] 43 (0, 0)), ci871, cT565] hst886 rfl rfl rfl (x_call (vs := #[(ptr p20 0), (.agg #[(.int .i64 p868.1.1), (.int .i64 p868.1.2)])]) rfl rfl (by kernel_rfl) ent_18) (Tier_spec (s := S_36) p868.1  (hst886.sats.take 1 rfl) hi857 (hT.mono (Le.trans hle10 (Le.trans hle18 (Le.trans hle28 (Le.trans hle539 (Le.trans hle548 hle855)))))) (by have h_ := hf32; omega)) (fun v887 w888 R889 L890 hp891 hle892 hst893 => ?_)
              obtain ⟨c894, hv895, rfl, hp896⟩ := hp891
              subst hv895
              have hprof897 : Prof R889 p20 S_36 c894 := hp896
              refine L_val (v := (.int .i64 p868.2)) (w' := w888) rfl rfl rfl rfl ?_
              refine L_val (v := (.bool ((PS.tier S_36 p868.1) != p868.2))) (w' := w888) rfl rfl rfl (by kernel_rfl) ?_
              refine L_nil ?_
              have c898 : ((PS.tier S_36 p868.1) != p868.2) = false := by rw [hlast_]; exact bne_self_eq_false _
              have q899 : (PS.tier S_36 p868.1) = p868.2 := by simpa using c898
              refine W_cond_false (by show Value.bool _ = _; exact congrArg Value.bool c898) ?_
              refine W_skip ?_
              refine ⟨(hist (PS.decs S_36)).1.length - (xs_861 ++ [p868]).length, by first | omega | (simp only [List.length_append, List.length_cons, List.length_nil]; omega), ?_⟩
              exact ⟨_, _, (xs_861 ++ [p868]), zs879, ci871, c894, (upd_of (upd_of (upd_of (upd_of (upd_of (upd_of (upd_of (upd_of (upd_of (upd_of (upd_of (upd_of (upd_of (upd_of (upd_of (upd_of (upd_of (upd_of (upd_of (upd_of (upd_of (upd_of (upd_of (upd_of (upd_of (upd_of (upd_of (upd_of (upd_of rfl rfl) rfl) rfl) rfl) rfl) rfl) rfl) rfl) rfl) rfl) rfl) rfl) rfl) rfl) rfl) rfl) rfl) rfl) rfl) rfl) rfl) rfl) rfl) rfl) rfl) rfl) rfl) rfl) rfl), hmk852, ((((hst893.front 3 rfl rfl).front 1 rfl rfl).front 3 rfl rfl).keepN 3 rfl), (Le.trans hle855 hle892), hI875, hprof897, (by simpa using hz880), rfl⟩

end Go.Fx.YtdkjoljcffkpkaaDoor
