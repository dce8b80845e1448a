/-
  Chapter 27: AssumeBreaks, printed by gen21.py.
-/
import Derived.Test.YtlfabjfajcbdcaaAs20
set_option linter.unusedSimpArgs false
set_option linter.unusedVariables false
namespace Go.Fx.Ytlfabjfajcbdcaa
open Go Go.Fx Go.Proofs
set_option maxRecDepth 20000

theorem ent_25 : Ent Try.prog 25 := fun _ _ => by kernel_rfl
theorem sl_41 : SL Try.prog 41 46 := Try.underlying41
theorem ti_46 : TI Try.prog 46 true 3 40 (.agg #[(.int .i64 0), (.int .i64 0), (.slice none 0 0)]) := ⟨by kernel_rfl, by kernel_rfl⟩

theorem Breaks_walk {w : World} {R : Hp} {v : Value} {acts : List Act} {kind n : Int} (hs : Sats w R []) (hv : RdS tyAct R v acts) (hlen : acts.length ≤ 1048576) (hmax : ∀ a ∈ acts, a.facts.length ≤ 1048576) :
    Calls Try.prog 8 #[v, int kind, int n] w (Comes' w R [] fun v' R' L' => v' = .bool true ∧ L' = []) := by
  have hst := Step.refl hs
  refine calls_of_W (n := 175) Try.func8 rfl Try.ntmps8 (Nat.le_of_ble_eq_true rfl) ?_
  refine W_seq ?_
  refine W_region_lit ?_
  refine L_val (v := (.bool false)) (w' := w) rfl rfl rfl rfl ?_
  refine L_nil ?_
  refine W_seq ?_
  refine W_region_lit ?_
  have hst1 := hst
  refine L_callS [] [] hst1 rfl rfl rfl (x_call (vs := #[]) rfl rfl (by kernel_rfl) ent_9) (sanity_spec (hst1.sats.take 0 rfl)) (fun v2 w3 R4 L5 hp6 hle7 hst8 => ?_)
  obtain ⟨rfl, rfl⟩ := hp6
  refine L_val (v := (.bool true)) (w' := w3) rfl rfl rfl rfl ?_
  refine L_nil ?_
  refine W_seq ?_
  refine W_region_lit ?_
  have hst9 := hst8
  refine L_callS [] [] hst9 rfl rfl rfl (x_call (vs := #[(.int .i64 4), (.int .i64 3)]) rfl rfl (by kernel_rfl) ent_10) (New_spec (f := 4) (c := 3) (hst9.sats.take 0 rfl) (by decide) (by decide)) (fun v10 w11 R12 L13 hp14 hle15 hst16 => ?_)
  obtain ⟨p17, c18, rfl, rfl, hreg19⟩ := hp14
  have hreg20 : Reg R12 p17 (RS.new 4 3) c18 := hreg19
  refine L_val (v := (ptr p17 0)) (w' := w11) rfl rfl rfl rfl ?_
  refine L_nil ?_
  refine W_seq ?_
  refine W_seq ?_
  refine W_region_lit ?_
  refine L_val (v := (ptr p17 0)) (w' := w11) rfl rfl rfl rfl ?_
  refine L_val (v := (.bool false)) (w' := w11) rfl rfl rfl (by kernel_rfl) ?_
  refine L_nil ?_
  refine W_cond_false (by show Value.bool _ = _; exact congrArg Value.bool rfl) ?_
  refine W_skip ?_
  refine W_seq ?_
  refine W_region_lit ?_
  refine L_new hst16 (v := fun b => .map (some b)) (ob := .map #[] 0) rfl rfl rfl (by kernel_rfl) (fun b21 w22 hst23 => ?_)
  have hm24 : MapC (Value.int .i64) (vS R12) (some b21) [] _ := MapC.made b21
  generalize one b21 (.map #[] 0) = c25 at hm24 hst23
  refine L_val (v := (.map (some b21))) (w' := w22) rfl rfl rfl rfl ?_
  refine L_nil ?_
  refine W_seq ?_
  refine W_seq ?_
  refine W_region_lit ?_
  refine L_val (v := (.int .i64 0)) (w' := w22) rfl rfl rfl rfl ?_
  refine L_nil ?_
  refine W_block ?_
  refine W_loop (I := fun σ w_ m_ => ∃ (σ0 : Fr) (R_ : Hp) (k_ : Nat) (sa : RS) (fa : List (Int × List Fact)) (cA : Hp) (cF : Hp), σ = upd (upd (upd (upd (upd (upd (upd (upd (upd (upd (upd (upd (upd σ0 0 v) 1 (.int .i64 kind)) 2 (.int .i64 n)) 6 (.bool false)) 7 (.bool true)) 8 (ptr p17 0)) 9 (.map (some b21))) 10 (.int .i64 (k_ : Int))) 20 (.bool true)) 21 (ptr p17 0)) 22 (ptr p17 0)) 23 (.bool false)) 24 (.map (some b21)) ∧ mks (σ0 0) = [] ∧ Step w R [] w_ R_ [cA, cF] ∧ Le R12 R_ ∧ Reg R_ p17 sa cA ∧ MapC (Value.int .i64) (vS R_) (some b21) fa cF ∧ k_ ≤ acts.length ∧ k_ ≤ 30 ∧ BI sa fa ∧ sa.mods.length ≤ k_ ∧ sa.cnt ≤ k_ ∧ sa.vers ≠ [] ∧ m_ = acts.length - k_) (m := acts.length - 0) ?_ ?_
  · skip
    exact ⟨_, _, 0, (RS.new 4 3), [], c18, c25, (upd_of (upd_of (upd_of (upd_of (upd_of (upd_of (upd_of (upd_of (upd_of (upd_of (upd_of (upd_of (upd_of rfl rfl) rfl) rfl) rfl) rfl) rfl) rfl) rfl) rfl) rfl) rfl) rfl) rfl), rfl, (hst23.front 1 rfl rfl), Le.refl _, hreg20, hm24, (by omega), (by omega), (BI.start 4 3), (by decide), (by decide), (by decide), rfl⟩
  · skip
    rintro m45 σ_ w28 ⟨s38, R39, k_40, sa41, fa42, cA43, cF44, rfl, hmk26, hst27, hle29, hi30, hi31, hf32, hf33, hf34, hf35, hf36, hf37, rfl⟩
    refine W_seq ?_
    refine W_seq ?_
    refine W_region_lit ?_
    refine L_val (v := (.int .i64 (k_40 : Int))) (w' := w28) rfl rfl rfl rfl ?_
    refine L_val (v := v) (w' := w28) rfl rfl rfl rfl ?_
    obtain ⟨a46, cap47, e48, hc49⟩ := hv.shape
    subst e48
    refine L_val (v := (.int .i64 (acts.length : Int))) (w' := w28) rfl rfl rfl (x_len_slice rfl sl_41 rfl) ?_
    refine L_val (v := (.bool (decide ((k_40 : Int) < (acts.length : Int))))) (w' := w28) rfl rfl rfl (by kernel_rfl) ?_
    refine L_val (v := (.bool (decide ((k_40 : Int) < (acts.length : Int))))) (w' := w28) rfl rfl rfl rfl ?_
    rcases Bool.eq_false_or_eq_true (decide ((k_40 : Int) < (acts.length : Int))) with c50 | c50
    · skip
      have q51 := of_decide_eq_true c50
      refine L_guard rfl rfl rfl rfl c50 ?_
      refine L_val (v := (.int .i64 (k_40 : Int))) (w' := w28) rfl rfl rfl rfl ?_
      refine L_guard rfl rfl rfl rfl c50 ?_
      refine L_val (v := (.bool (decide ((k_40 : Int) < 30)))) (w' := w28) rfl rfl rfl (by kernel_rfl) ?_
      refine L_val (v := (.bool (decide ((k_40 : Int) < 30)))) (w' := w28) rfl rfl rfl (x_pick rfl rfl (by rw [c50]; rfl)) ?_
      refine L_nil ?_
      rcases Bool.eq_false_or_eq_true (decide ((k_40 : Int) < 30)) with c52 | c52
      · skip
        have q53 := of_decide_eq_true c52
        refine W_cond_true (by show Value.bool _ = _; exact congrArg Value.bool c52) ?_
        refine W_skip ?_
        refine W_seq ?_
        refine W_block ?_
        refine W_seq ?_
        refine W_region_lit ?_
        refine L_val (v := (.slice a46 acts.length cap47)) (w' := w28) rfl rfl rfl rfl ?_
        refine L_val (v := (.int .i64 (k_40 : Int))) (w' := w28) rfl rfl rfl rfl ?_
        obtain ⟨b54, off55, cap56, cs57, T58, fz59, e60, hc61, hb62, he63⟩ := hv.open (by omega)
        cases e60
        obtain ⟨cl64, hs65, hr66⟩ := he63.at k_40 (by omega)
        obtain ⟨u67, e68, hu69⟩ := tyAct_open hr66
        subst e68
        obtain ⟨a70, cap71, e72, hc73⟩ := hu69.shape
        subst e72
        refine L_val (v := (ptr b54 (off55 + k_40 * 3))) (w' := w28) rfl rfl rfl (x_indexAddr' rfl sl_41 ti_46 rfl rfl (by omega)) ?_
        refine L_val (v := (.agg #[(.int .i64 ((acts[k_40]'(by omega)).what)), (.int .i64 ((acts[k_40]'(by omega)).module)), (.slice a70 (((acts[k_40]'(by omega)).facts).length) cap71)])) (w' := w28) rfl rfl rfl (x_load rfl rfl (run_loadVar_agg ti_46 ((Le.trans hle7 (Le.trans hle15 (Le.trans hle29 hst27.rle'))) _ _ hb62) hs65 rfl)) ?_
        refine L_new hst27 (v := fun b => ptr b 0) (ob := .cells #[(.int .i64 0), (.int .i64 0), (.slice none 0 0)] 46 (0, 0)) rfl rfl rfl (by kernel_rfl) (fun b74 w75 hst76 => ?_)
        refine L_store hst76 0 ti_46 rfl rfl rfl rfl rfl rfl rfl rfl rfl rfl rfl (fun w77 hst78 => ?_)
        change Step _ _ _ _ _ [one b74 (.cells #[(.int .i64 ((acts[k_40]'(by omega)).what)), (.int .i64 ((acts[k_40]'(by omega)).module)), (.slice a70 (((acts[k_40]'(by omega)).facts).length) cap71)] 46 (0, 0)), cA43, cF44] at hst78
        refine L_nil ?_
        refine W_seq ?_
        have ht6 := tmod6 ((acts[k_40]'(by omega)).what)
        refine W_region_lit ?_
        refine L_val (v := (ptr b74 0)) (w' := w77) rfl rfl rfl (by kernel_rfl) ?_
        refine L_val (v := (.int .i64 ((acts[k_40]'(by omega)).what))) (w' := w77) rfl rfl rfl (x_load rfl rfl (run_loadVar_one ti_3 (hst78.blk (i := 0) rfl) rfl)) ?_
        refine L_val (v := (.int .i64 (Int.tmod ((acts[k_40]'(by omega)).what) 6))) (w' := w77) rfl rfl rfl (x_rem rfl rfl rfl (by omega)) ?_
        refine L_val (v := (.int .i64 (Int.tmod ((acts[k_40]'(by omega)).what) 6 + 6))) (w' := w77) rfl rfl rfl (x_add rfl rfl rfl (by constructor <;> omega)) ?_
        refine L_val (v := (.int .i64 (Int.tmod (Int.tmod ((acts[k_40]'(by omega)).what) 6 + 6) 6))) (w' := w77) rfl rfl rfl (x_rem rfl rfl rfl (by omega)) ?_
        refine L_val (v := (.bool (decide (Int.tmod (Int.tmod ((acts[k_40]'(by omega)).what) 6 + 6) 6 < 3)))) (w' := w77) rfl rfl rfl (by kernel_rfl) ?_
        refine L_nil ?_
        rcases Bool.eq_false_or_eq_true (decide (Int.tmod (Int.tmod ((acts[k_40]'(by omega)).what) 6 + 6) 6 < 3)) with c79 | c79
        · skip
          have q80 := of_decide_eq_true c79
          refine W_cond_true (by show Value.bool _ = _; exact congrArg Value.bool c79) ?_
          refine W_seq ?_
          refine W_region_lit ?_
          refine L_val (v := (ptr p17 0)) (w' := w77) rfl rfl rfl rfl ?_
          refine L_val (v := (ptr b74 1)) (w' := w77) rfl rfl rfl (by kernel_rfl) ?_
          refine L_val (v := (.int .i64 ((acts[k_40]'(by omega)).module))) (w' := w77) rfl rfl rfl (x_load rfl rfl (run_loadVar_one ti_3 (hst78.blk (i := 0) rfl) rfl)) ?_
          refine L_val (v := (ptr b74 2)) (w' := w77) rfl rfl rfl (by kernel_rfl) ?_
          refine L_val (v := (.slice a70 (((acts[k_40]'(by omega)).facts).length) cap71)) (w' := w77) rfl rfl rfl (x_load rfl rfl (run_loadVar_one ti_29 (hst78.blk (i := 0) rfl) rfl)) ?_
          have hst81 := (hst78.front 1 rfl rfl)
          refine L_callS [cA43] [one b74 (.cells #[(.int .i64 ((acts[k_40]'(by omega)).what)), (.int .i64 ((acts[k_40]'(by omega)).module)), (.slice a70 (((acts[k_40]'(by omega)).facts).length) cap71)] 46 (0, 0)), cF44] hst81 rfl rfl rfl (x_call (vs := #[(ptr p17 0), (.int .i64 ((acts[k_40]'(by omega)).module)), (.slice a70 (((acts[k_40]'(by omega)).facts).length) cap71)]) rfl rfl (by kernel_rfl) ent_11) (Add_spec (v := (.slice a70 (((acts[k_40]'(by omega)).facts).length) cap71)) ((acts[k_40]'(by omega)).module) (RdS.mono hu69 (Le.trans hle7 (Le.trans hle15 hle29))) (Nat.le_trans (hmax _ (List.getElem_mem _)) (by decide)) (hst81.sats.take 1 rfl) hi30) (fun v82 w83 R84 L85 hp86 hle87 hst88 => ?_)
          have hm89 := vS.lift hi31 hle87
          obtain ⟨c90, rfl, rfl, hreg91⟩ := hp86
          have hreg92 : Reg R84 p17 (RS.add sa41 ((acts[k_40]'(by omega)).module) ((acts[k_40]'(by omega)).facts)) c90 := hreg91
          refine L_val (v := (.bool ((RS.addE sa41 ((acts[k_40]'(by omega)).module) ((acts[k_40]'(by omega)).facts)) == 0))) (w' := w83) rfl rfl rfl (by kernel_rfl) ?_
          refine L_nil ?_
          rcases Bool.eq_false_or_eq_true ((RS.addE sa41 ((acts[k_40]'(by omega)).module) ((acts[k_40]'(by omega)).facts)) == 0) with c93 | c93
          · skip
            have q94 := eq_of_beq c93
            refine W_cond_true (by show Value.bool _ = _; exact congrArg Value.bool c93) ?_
            refine W_region_lit ?_
            refine L_val (v := (.map (some b21))) (w' := w83) rfl rfl rfl rfl ?_
            refine L_val (v := (ptr b74 1)) (w' := w83) rfl rfl rfl (by kernel_rfl) ?_
            refine L_val (v := (.int .i64 ((acts[k_40]'(by omega)).module))) (w' := w83) rfl rfl rfl (x_load rfl rfl (run_loadVar_one ti_3 (hst88.blk (i := 1) rfl) rfl)) ?_
            refine L_val (v := (ptr b74 2)) (w' := w83) rfl rfl rfl (by kernel_rfl) ?_
            refine L_val (v := (.slice a70 (((acts[k_40]'(by omega)).facts).length) cap71)) (w' := w83) rfl rfl rfl (x_load rfl rfl (run_loadVar_one ti_29 (hst88.blk (i := 1) rfl) rfl)) ?_
            obtain ⟨c95, w96, hr97, hm98, hst99⟩ := MapC.update hm89 (hst88.front 2 rfl rfl) law3 mt_58 ((acts[k_40]'(by omega)).module) ((acts[k_40]'(by omega)).facts) (.slice a70 (((acts[k_40]'(by omega)).facts).length) cap71) (RdS.mono hu69 (Le.trans hle7 (Le.trans hle15 (Le.trans hle29 hle87))))
            refine L_skip rfl rfl (x_mapUpdate rfl rfl rfl rfl hr97) ?_
            refine L_nil ?_
            refine W_region_lit ?_
            refine L_val (v := (.int .i64 (k_40 : Int))) (w' := w96) rfl rfl rfl rfl ?_
            refine L_val (v := (.int .i64 ((k_40 + 1 : Nat) : Int))) (w' := w96) rfl rfl rfl (x_add_nat rfl rfl rfl (by omega)) ?_
            refine L_val (v := (.int .i64 ((k_40 + 1 : Nat) : Int))) (w' := w96) rfl rfl rfl rfl ?_
            refine L_nil ?_
            refine ⟨acts.length - (k_40 + 1), by first | omega | (simp only [List.length_append, List.length_cons, List.length_nil]; omega), ?_⟩
            exact ⟨_, _, (k_40 + 1), (RS.add sa41 ((acts[k_40]'(by omega)).module) ((acts[k_40]'(by omega)).facts)), (AL.set fa42 ((acts[k_40]'(by omega)).module) ((acts[k_40]'(by omega)).facts)), c90, c95, (upd_of (upd_of (upd_of (upd_of (upd_of (upd_of (upd_of (upd_of (upd_of (upd_of (upd_of (upd_of (upd_of rfl rfl) rfl) rfl) rfl) rfl) rfl) rfl) rfl) rfl) rfl) rfl) rfl) rfl), hmk26, ((hst99.front 1 rfl rfl).keepN 2 rfl), (Le.trans hle29 hle87), hreg92, hm98, (by omega), (by omega), (BI.add hf34 (eq_of_beq c93)), (Nat.le_trans (add_len _ _ _) (by omega)), (by rw [add_cnt]; omega), (by rw [add_vers]; exact hf37), rfl⟩
          · skip
            have q100 := ne_of_beq_false c93
            refine W_cond_false (by show Value.bool _ = _; exact congrArg Value.bool c93) ?_
            refine W_skip ?_
            refine W_region_lit ?_
            refine L_val (v := (.int .i64 (k_40 : Int))) (w' := w83) rfl rfl rfl rfl ?_
            refine L_val (v := (.int .i64 ((k_40 + 1 : Nat) : Int))) (w' := w83) rfl rfl rfl (x_add_nat rfl rfl rfl (by omega)) ?_
            refine L_val (v := (.int .i64 ((k_40 + 1 : Nat) : Int))) (w' := w83) rfl rfl rfl rfl ?_
            refine L_nil ?_
            refine ⟨acts.length - (k_40 + 1), by first | omega | (simp only [List.length_append, List.length_cons, List.length_nil]; omega), ?_⟩
            exact ⟨_, _, (k_40 + 1), (RS.add sa41 ((acts[k_40]'(by omega)).module) ((acts[k_40]'(by omega)).facts)), fa42, c90, cF44, (upd_of (upd_of (upd_of (upd_of (upd_of (upd_of (upd_of (upd_of (upd_of (upd_of (upd_of (upd_of (upd_of rfl rfl) rfl) rfl) rfl) rfl) rfl) rfl) rfl) rfl) rfl) rfl) rfl) rfl), hmk26, (((hst88.front 2 rfl rfl).front 1 rfl rfl).keepN 2 rfl), (Le.trans hle29 hle87), hreg92, hm89, (by omega), (by omega), (BI.add' hf34 (ne_of_beq_false c93)), (Nat.le_trans (add_len _ _ _) (by omega)), (by rw [add_cnt]; omega), (by rw [add_vers]; exact hf37), rfl⟩
        · skip
          have q101 := of_decide_eq_false c79
          refine W_cond_false (by show Value.bool _ = _; exact congrArg Value.bool c79) ?_
          refine W_seq ?_
          refine W_region_lit ?_
          refine L_val (v := (ptr b74 0)) (w' := w77) rfl rfl rfl (by kernel_rfl) ?_
          refine L_val (v := (.int .i64 ((acts[k_40]'(by omega)).what))) (w' := w77) rfl rfl rfl (x_load rfl rfl (run_loadVar_one ti_3 (hst78.blk (i := 0) rfl) rfl)) ?_
          refine L_val (v := (.int .i64 (Int.tmod ((acts[k_40]'(by omega)).what) 6))) (w' := w77) rfl rfl rfl (x_rem rfl rfl rfl (by omega)) ?_
          refine L_val (v := (.int .i64 (Int.tmod ((acts[k_40]'(by omega)).what) 6 + 6))) (w' := w77) rfl rfl rfl (x_add rfl rfl rfl (by constructor <;> omega)) ?_
          refine L_val (v := (.int .i64 (Int.tmod (Int.tmod ((acts[k_40]'(by omega)).what) 6 + 6) 6))) (w' := w77) rfl rfl rfl (x_rem rfl rfl rfl (by omega)) ?_
          refine L_val (v := (.bool ((Int.tmod (Int.tmod ((acts[k_40]'(by omega)).what) 6 + 6) 6) == 3))) (w' := w77) rfl rfl rfl (by kernel_rfl) ?_
          refine L_nil ?_
          rcases Bool.eq_false_or_eq_true ((Int.tmod (Int.tmod ((acts[k_40]'(by omega)).what) 6 + 6) 6) == 3) with c102 | c102
          · skip
            have q103 := eq_of_beq c102
            refine W_cond_true (by show Value.bool _ = _; exact congrArg Value.bool c102) ?_
            refine W_seq ?_
            refine W_region_lit ?_
            refine L_val (v := (ptr p17 0)) (w' := w77) rfl rfl rfl rfl ?_
            refine L_val (v := (ptr b74 1)) (w' := w77) rfl rfl rfl (by kernel_rfl) ?_
            refine L_val (v := (.int .i64 ((acts[k_40]'(by omega)).module))) (w' := w77) rfl rfl rfl (x_load rfl rfl (run_loadVar_one ti_3 (hst78.blk (i := 0) rfl) rfl)) ?_
            have hst104 := (hst78.front 1 rfl rfl)
            refine L_callS [cA43] [one b74 (.cells #[(.int .i64 ((acts[k_40]'(by omega)).what)), (.int .i64 ((acts[k_40]'(by omega)).module)), (.slice a70 (((acts[k_40]'(by omega)).facts).length) cap71)] 46 (0, 0)), cF44] hst104 rfl rfl rfl (x_call (vs := #[(ptr p17 0), (.int .i64 ((acts[k_40]'(by omega)).module))]) rfl rfl (by kernel_rfl) ent_21) (Remove_spec ((acts[k_40]'(by omega)).module) (hst104.sats.take 1 rfl) hi30) (fun v105 w106 R107 L108 hp109 hle110 hst111 => ?_)
            have hm112 := vS.lift hi31 hle110
            obtain ⟨c113, rfl, rfl, hreg114⟩ := hp109
            have hreg115 : Reg R107 p17 (RS.remove sa41 ((acts[k_40]'(by omega)).module)) c113 := hreg114
            refine L_nil ?_
            rcases Bool.eq_false_or_eq_true ((AL.get sa41.mods ((acts[k_40]'(by omega)).module)).isSome) with c116 | c116
            · skip
              refine W_cond_true (by show Value.bool _ = _; exact congrArg Value.bool c116) ?_
              refine W_region_lit ?_
              refine L_val (v := (.map (some b21))) (w' := w106) rfl rfl rfl rfl ?_
              refine L_val (v := (ptr b74 1)) (w' := w106) rfl rfl rfl (by kernel_rfl) ?_
              refine L_val (v := (.int .i64 ((acts[k_40]'(by omega)).module))) (w' := w106) rfl rfl rfl (x_load rfl rfl (run_loadVar_one ti_3 (hst111.blk (i := 1) rfl) rfl)) ?_
              obtain ⟨c117, w118, hr119, hm120, hst121⟩ := MapC.delete hm112 (hst111.front 2 rfl rfl) law3 mt_58 ((acts[k_40]'(by omega)).module) #[58, 3] rfl rfl 0
              refine L_val_none rfl rfl (x_delete rfl rfl rfl hr119) ?_
              refine L_nil ?_
              refine W_region_lit ?_
              refine L_val (v := (.int .i64 (k_40 : Int))) (w' := w118) rfl rfl rfl rfl ?_
              refine L_val (v := (.int .i64 ((k_40 + 1 : Nat) : Int))) (w' := w118) rfl rfl rfl (x_add_nat rfl rfl rfl (by omega)) ?_
              refine L_val (v := (.int .i64 ((k_40 + 1 : Nat) : Int))) (w' := w118) rfl rfl rfl rfl ?_
              refine L_nil ?_
              refine ⟨acts.length - (k_40 + 1), by first | omega | (simp only [List.length_append, List.length_cons, List.length_nil]; omega), ?_⟩
              exact ⟨_, _, (k_40 + 1), (RS.remove sa41 ((acts[k_40]'(by omega)).module)), (AL.del fa42 ((acts[k_40]'(by omega)).module)), c113, c117, (upd_of (upd_of (upd_of (upd_of (upd_of (upd_of (upd_of (upd_of (upd_of (upd_of (upd_of (upd_of (upd_of rfl rfl) rfl) rfl) rfl) rfl) rfl) rfl) rfl) rfl) rfl) rfl) rfl) rfl), hmk26, ((hst121.front 1 rfl rfl).keepN 2 rfl), (Le.trans hle29 hle110), hreg115, hm120, (by omega), (by omega), (BI.remove hf34 _), (Nat.le_trans (remove_len _ _) (by omega)), (Nat.le_succ_of_le hf36), hf37, rfl⟩
            · skip
              refine W_cond_false (by show Value.bool _ = _; exact congrArg Value.bool c116) ?_
              refine W_skip ?_
              refine W_region_lit ?_
              refine L_val (v := (.int .i64 (k_40 : Int))) (w' := w106) rfl rfl rfl rfl ?_
              refine L_val (v := (.int .i64 ((k_40 + 1 : Nat) : Int))) (w' := w106) rfl rfl rfl (x_add_nat rfl rfl rfl (by omega)) ?_
              refine L_val (v := (.int .i64 ((k_40 + 1 : Nat) : Int))) (w' := w106) rfl rfl rfl rfl ?_
              refine L_nil ?_
              refine ⟨acts.length - (k_40 + 1), by first | omega | (simp only [List.length_append, List.length_cons, List.length_nil]; omega), ?_⟩
              exact ⟨_, _, (k_40 + 1), (RS.remove sa41 ((acts[k_40]'(by omega)).module)), fa42, c113, cF44, (upd_of (upd_of (upd_of (upd_of (upd_of (upd_of (upd_of (upd_of (upd_of (upd_of (upd_of (upd_of (upd_of rfl rfl) rfl) rfl) rfl) rfl) rfl) rfl) rfl) rfl) rfl) rfl) rfl) rfl), hmk26, (((hst111.front 2 rfl rfl).front 1 rfl rfl).keepN 2 rfl), (Le.trans hle29 hle110), hreg115, hm112, (by omega), (by omega), (BI.remove' hf34 c116), (Nat.le_trans (remove_len _ _) (by omega)), (Nat.le_succ_of_le hf36), hf37, rfl⟩
          · skip
            have q122 := ne_of_beq_false c102
            refine W_cond_false (by show Value.bool _ = _; exact congrArg Value.bool c102) ?_
            refine W_seq ?_
            refine W_region_lit ?_
            refine L_val (v := (ptr b74 2)) (w' := w77) rfl rfl rfl (by kernel_rfl) ?_
            refine L_val (v := (.slice a70 (((acts[k_40]'(by omega)).facts).length) cap71)) (w' := w77) rfl rfl rfl (x_load rfl rfl (run_loadVar_one ti_29 (hst78.blk (i := 0) rfl) rfl)) ?_
            refine L_val (v := (.int .i64 ((((acts[k_40]'(by omega)).facts).length : Nat) : Int))) (w' := w77) rfl rfl rfl (x_len_slice rfl sl_29 rfl) ?_
            refine L_val (v := (.bool (decide (((((acts[k_40]'(by omega)).facts).length : Nat) : Int) > 0)))) (w' := w77) rfl rfl rfl (by kernel_rfl) ?_
            refine L_nil ?_
            rcases Bool.eq_false_or_eq_true (decide (((((acts[k_40]'(by omega)).facts).length : Nat) : Int) > 0)) with c123 | c123
            · skip
              have q124 := of_decide_eq_true c123
              refine W_cond_true (by show Value.bool _ = _; exact congrArg Value.bool c123) ?_
              refine W_region_draw [] (fun w => Le R39 (hp w) ∧ Le (one b74 (.cells #[(.int .i64 ((acts[k_40]'(by omega)).what)), (.int .i64 ((acts[k_40]'(by omega)).module)), (.slice a70 (((acts[k_40]'(by omega)).facts).length) cap71)] 46 (0, 0))) (hp w)) hmix (by decide +kernel) (fun _ _ h => h) ?_
              have hst126 := hst78.draws (w77.drawn + 1)
              generalize draws w77 (w77.drawn + 1) = w125 at hst126 ⊢
              refine LA_takeP (v := (ptr p17 0)) 0 rfl rfl rfl (by decide +kernel) (by decide +kernel) (by decide +kernel) (by decide +kernel) (fun _ _ _ h => h) (Want.plain rfl) (fun u128 => rfl) (fun _ => ⟨hst126.rle', hst126.get (i := 0) rfl⟩) ?_
              refine LA_takeP (v := (ptr b74 2)) 1 rfl rfl rfl (by decide +kernel) (by decide +kernel) (by decide +kernel) (by decide +kernel) (fun _ _ _ h => h) (Want.plain rfl) (fun u131 => (by kernel_rfl)) (fun _ => ⟨hst126.rle', hst126.get (i := 0) rfl⟩) ?_
              refine LA_take (v := (.slice a70 (((acts[k_40]'(by omega)).facts).length) cap71)) 2 rfl rfl rfl (by decide +kernel) (by decide +kernel) (by decide +kernel) (by decide +kernel) (by decide +kernel) (fun _ _ _ h => h) (Want.plain rfl) (fun u134 hF135 => (x_load rfl rfl (run_loadVar_one ti_29 (hF135.2 _ _ (one_self _ _)) rfl))) ⟨hst126.rle', hst126.get (i := 0) rfl⟩ ?_
              obtain ⟨b139, off140, cap141, cs142, T143, fz144, e145, hc146, hb147, he148⟩ := hu69.open (by omega)
              cases e145
              obtain ⟨cl149, hs150, hr151⟩ := he148.at 0 (by omega)
              obtain rfl := tyFact_open hr151
              refine LA_takeP (v := (ptr b139 (off140 + 0 * 3))) 3 rfl rfl rfl (by decide +kernel) (by decide +kernel) (by decide +kernel) (by decide +kernel) (fun _ _ _ h => h) (Want.plain rfl) (fun u137 => (x_indexAddr' rfl sl_29 ti_38 rfl rfl (by omega))) (fun _ => ⟨hst126.rle', hst126.get (i := 0) rfl⟩) ?_
              refine LA_takeP (v := (ptr b139 (off140 + 0 * 3))) 4 rfl rfl rfl (by decide +kernel) (by decide +kernel) (by decide +kernel) (by decide +kernel) (fun _ _ _ h => h) (Want.plain rfl) (fun u153 => (by kernel_rfl)) (fun _ => ⟨hst126.rle', hst126.get (i := 0) rfl⟩) ?_
              refine LA_take (v := (.int .i64 ((((acts[k_40]'(by omega)).facts)[0]'(by omega)).kind))) 5 rfl rfl rfl (by decide +kernel) (by decide +kernel) (by decide +kernel) (by decide +kernel) (by decide +kernel) (fun _ _ _ h => h) (Want.plain rfl) (fun u156 hF157 => (x_load rfl rfl (run_loadVar_one ti_3 ((Le.trans hle7 (Le.trans hle15 (Le.trans hle29 hF157.1))) _ _ hb147) (seg_get (j := 0) hs150 rfl)))) ⟨hst126.rle', hst126.get (i := 0) rfl⟩ ?_
              refine LA_takeP (v := (ptr b74 2)) 6 rfl rfl rfl (by decide +kernel) (by decide +kernel) (by decide +kernel) (by decide +kernel) (fun _ _ _ h => h) (Want.plain rfl) (fun u159 => (by kernel_rfl)) (fun _ => ⟨hst126.rle', hst126.get (i := 0) rfl⟩) ?_
              refine LA_take (v := (.slice (some ⟨b139, off140, none⟩) (((acts[k_40]'(by omega)).facts).length) cap71)) 7 rfl rfl rfl (by decide +kernel) (by decide +kernel) (by decide +kernel) (by decide +kernel) (by decide +kernel) (fun _ _ _ h => h) (Want.plain rfl) (fun u162 hF163 => (x_load rfl rfl (run_loadVar_one ti_29 (hF163.2 _ _ (one_self _ _)) rfl))) ⟨hst126.rle', hst126.get (i := 0) rfl⟩ ?_
              obtain ⟨cl167, hs168, hr169⟩ := he148.at 0 (by omega)
              obtain rfl := tyFact_open hr169
              refine LA_takeP (v := (ptr b139 (off140 + 0 * 3))) 8 rfl rfl rfl (by decide +kernel) (by decide +kernel) (by decide +kernel) (by decide +kernel) (fun _ _ _ h => h) (Want.plain rfl) (fun u165 => (x_indexAddr' rfl sl_29 ti_38 rfl rfl (by omega))) (fun _ => ⟨hst126.rle', hst126.get (i := 0) rfl⟩) ?_
              refine LA_takeP (v := (ptr b139 (off140 + 0 * 3 + 1))) 9 rfl rfl rfl (by decide +kernel) (by decide +kernel) (by decide +kernel) (by decide +kernel) (fun _ _ _ h => h) (Want.plain rfl) (fun u171 => (by kernel_rfl)) (fun _ => ⟨hst126.rle', hst126.get (i := 0) rfl⟩) ?_
              refine LA_take (v := (.int .i64 ((((acts[k_40]'(by omega)).facts)[0]'(by omega)).n))) 10 rfl rfl rfl (by decide +kernel) (by decide +kernel) (by decide +kernel) (by decide +kernel) (by decide +kernel) (fun _ _ _ h => h) (Want.plain rfl) (fun u174 hF175 => (x_load rfl rfl (run_loadVar_one ti_3 ((Le.trans hle7 (Le.trans hle15 (Le.trans hle29 hF175.1))) _ _ hb147) (seg_get (j := 1) hs168 rfl)))) ⟨hst126.rle', hst126.get (i := 0) rfl⟩ ?_
              refine LA_all [11] (by decide +kernel) (by simp) ?_
              intro i_ hi_
              simp only [List.mem_cons, List.not_mem_nil, or_false] at hi_
              subst hi_
              have hst179 := (hst126.front 1 rfl rfl)
              refine One_callS (i := 11) [cA43] [one b74 (.cells #[(.int .i64 ((acts[k_40]'(by omega)).what)), (.int .i64 ((acts[k_40]'(by omega)).module)), (.slice (some ⟨b139, off140, none⟩) (((acts[k_40]'(by omega)).facts).length) cap71)] 46 (0, 0)), cF44] hst179 rfl rfl rfl (Want.plain rfl) (x_call (vs := #[(ptr p17 0), (.int .i64 ((((acts[k_40]'(by omega)).facts)[0]'(by omega)).kind)), (.int .i64 ((((acts[k_40]'(by omega)).facts)[0]'(by omega)).n))]) rfl rfl (by kernel_rfl) ent_14) (Bump_spec ((((acts[k_40]'(by omega)).facts)[0]'(by omega)).kind) ((((acts[k_40]'(by omega)).facts)[0]'(by omega)).n) (hst179.sats.take 1 rfl) hi30 (by omega) (by omega)) (fun v180 w181 R182 L183 hp184 hle185 hst186 => ?_)
              have hm187 := vS.lift hi31 hle185
              obtain ⟨c188, co189, rfl, hreg190, ho191⟩ := hp184
              have hreg192 : Reg R182 p17 (RS.bump sa41 ((((acts[k_40]'(by omega)).facts)[0]'(by omega)).kind) ((((acts[k_40]'(by omega)).facts)[0]'(by omega)).n)) c188 := hreg190
              refine ⟨(fun _ => ⟨(Le.trans hle185 hst186.rle'), hst186.get (i := 2) rfl⟩), ?_⟩
              refine LA_done (by decide +kernel) ?_
              refine W_region_lit ?_
              refine L_val (v := (.int .i64 (k_40 : Int))) (w' := w181) rfl rfl rfl rfl ?_
              refine L_val (v := (.int .i64 ((k_40 + 1 : Nat) : Int))) (w' := w181) rfl rfl rfl (x_add_nat rfl rfl rfl (by omega)) ?_
              refine L_val (v := (.int .i64 ((k_40 + 1 : Nat) : Int))) (w' := w181) rfl rfl rfl rfl ?_
              refine L_nil ?_
              refine ⟨acts.length - (k_40 + 1), by first | omega | (simp only [List.length_append, List.length_cons, List.length_nil]; omega), ?_⟩
              exact ⟨_, _, (k_40 + 1), (RS.bump sa41 ((((acts[k_40]'(by omega)).facts)[0]'(by omega)).kind) ((((acts[k_40]'(by omega)).facts)[0]'(by omega)).n)), fa42, c188, cF44, (upd_of (upd_of (upd_of (upd_of (upd_of (upd_of (upd_of (upd_of (upd_of (upd_of (upd_of (upd_of (upd_of rfl rfl) rfl) rfl) rfl) rfl) rfl) rfl) rfl) rfl) rfl) rfl) rfl) rfl), hmk26, (((hst186.front 3 rfl rfl).front 1 rfl rfl).keepN 2 rfl), (Le.trans hle29 hle185), hreg192, hm187, (by omega), (by omega), (BI.bump hf34 _ _), (by rw [RS.bump_mods]; omega), (Nat.le_trans (RS.bump_cnt _ _ _) (by omega)), (RS.bump_ne hf37 _ _), rfl⟩
            · skip
              have q193 := of_decide_eq_false c123
              refine W_cond_false (by show Value.bool _ = _; exact congrArg Value.bool c123) ?_
              refine W_skip ?_
              refine W_region_lit ?_
              refine L_val (v := (.int .i64 (k_40 : Int))) (w' := w77) rfl rfl rfl rfl ?_
              refine L_val (v := (.int .i64 ((k_40 + 1 : Nat) : Int))) (w' := w77) rfl rfl rfl (x_add_nat rfl rfl rfl (by omega)) ?_
              refine L_val (v := (.int .i64 ((k_40 + 1 : Nat) : Int))) (w' := w77) rfl rfl rfl rfl ?_
              refine L_nil ?_
              refine ⟨acts.length - (k_40 + 1), by first | omega | (simp only [List.length_append, List.length_cons, List.length_nil]; omega), ?_⟩
              exact ⟨_, _, (k_40 + 1), sa41, fa42, cA43, cF44, (upd_of (upd_of (upd_of (upd_of (upd_of (upd_of (upd_of (upd_of (upd_of (upd_of (upd_of (upd_of (upd_of rfl rfl) rfl) rfl) rfl) rfl) rfl) rfl) rfl) rfl) rfl) rfl) rfl) rfl), hmk26, (((hst78.front 2 rfl rfl).front 2 rfl rfl).keepN 2 rfl), hle29, hi30, hi31, (by omega), (by omega), hf34, (by omega), (by omega), hf37, rfl⟩
      · skip
        have q194 := of_decide_eq_false c52
        refine W_cond_false (by show Value.bool _ = _; exact congrArg Value.bool c52) ?_
        refine W_exit ?_
        refine W_seq ?_
        refine W_region_lit ?_
        refine L_val (v := (.slice none 0 0)) (w' := w28) rfl rfl rfl rfl ?_
        refine L_nil ?_
        refine W_seq ?_
        refine W_seq ?_
        have hmx := RS.modules_len sa41
        have ho195 := OwnL.empty Ty.int 3 R39
        have hst196 := hst27.nothing
        refine W_region_lit ?_
        refine L_val (v := (ptr p17 0)) (w' := w28) rfl rfl rfl rfl ?_
        refine L_call rfl rfl rfl (x_call (vs := #[(ptr p17 0)]) rfl rfl (by kernel_rfl) ent_13) (Modules_reg hi30 (hst196.get (i := 1) rfl) hf37 (by omega)) ?_
        rintro e197 w198 ⟨v199, R200, L201, rfl, hst202, c203, rfl, ho204⟩
        refine ⟨_, rfl, ?_⟩
        have hst205 := Step.gain hst196 hst202
        obtain ⟨R206, hst207, hle208, hc209⟩ := Step.frz hst205
        have hm211 := OwnL.mono ho195 hle208
        have hm212 := Reg.lift hi30 hle208
        have hm213 := vS.lift hi31 hle208
        have hrd210 := OwnL.freeze (OwnL.reint (R' := R206) ho204) (Le.refl _) hc209
        obtain ⟨a214, cap215, e216, hc217⟩ := hrd210.shape
        subst e216
        refine L_val (v := (.int .i64 (((RS.modules sa41).length : Nat) : Int))) (w' := w198) rfl rfl rfl (x_len_slice rfl sl_31 rfl) ?_
        refine L_val (v := (.int .i64 0)) (w' := w198) rfl rfl rfl rfl ?_
        refine L_nil ?_
        refine W_block ?_
        refine W_loop (I := fun σ w_ m_ => ∃ (σ0 : Fr) (m_k : Nat) (vo : Value) (co : Hp), σ = upd (upd (upd (upd (upd (upd (upd (upd (upd (upd (upd (upd (upd (upd (upd (upd (upd (upd (upd (upd (upd (upd (upd (upd (upd (upd σ0 0 (.slice a46 acts.length cap47)) 1 (.int .i64 kind)) 2 (.int .i64 n)) 6 (.bool false)) 7 (.bool true)) 8 (ptr p17 0)) 9 (.map (some b21))) 10 (.int .i64 (k_40 : Int))) 12 vo) 20 (.bool true)) 21 (ptr p17 0)) 22 (ptr p17 0)) 23 (.bool false)) 24 (.map (some b21))) 25 (.int .i64 (k_40 : Int))) 26 (.slice a46 acts.length cap47)) 27 (.int .i64 (acts.length : Int))) 28 (.bool (decide ((k_40 : Int) < (acts.length : Int))))) 29 (.bool (decide ((k_40 : Int) < (acts.length : Int))))) 30 (.int .i64 (k_40 : Int))) 31 (.bool (decide ((k_40 : Int) < 30)))) 32 (.bool (decide ((k_40 : Int) < 30)))) 86 (ptr p17 0)) 87 (.slice a214 ((RS.modules sa41).length) cap215)) 88 (.int .i64 (((RS.modules sa41).length : Nat) : Int))) 89 (.int .i64 (m_k : Int)) ∧ mks (σ0 0) = [] ∧ Step w R [] w_ R206 [cA43, cF44, co] ∧ OwnL Ty.int 3 R206 vo (((RS.modules sa41).take m_k).filter (wants sa41 fa42 kind n)) co ∧ m_k ≤ (RS.modules sa41).length ∧ m_ = (RS.modules sa41).length - m_k) (m := (RS.modules sa41).length - 0) ?_ ?_
        · skip
          exact ⟨_, 0, (.slice none 0 0), non, (upd_of (upd_of (upd_of (upd_of (upd_of (upd_of (upd_of (upd_of (upd_of (upd_of (upd_of (upd_of (upd_of (upd_of (upd_of (upd_of (upd_of (upd_of (upd_of (upd_of (upd_of (upd_of (upd_of (upd_of (upd_of (upd_of rfl rfl) rfl) rfl) rfl) rfl) rfl) rfl) rfl) rfl) rfl) rfl) rfl) rfl) rfl) rfl) rfl) rfl) rfl) rfl) rfl) rfl) rfl) rfl) rfl) rfl) rfl), hmk26, ((hst207.front 2 rfl rfl).front 2 rfl rfl), (by simpa using hm211), (by omega), rfl⟩
        · skip
          rintro m228 σ_ w220 ⟨s224, m_k225, vo226, co227, rfl, hmk218, hst219, hi222, hf223, rfl⟩
          refine W_seq ?_
          refine W_region_lit ?_
          refine L_val (v := (.bool (decide ((m_k225 : Int) < (((RS.modules sa41).length : Nat) : Int))))) (w' := w220) rfl rfl rfl (by kernel_rfl) ?_
          refine L_nil ?_
          refine W_seq ?_
          rcases Bool.eq_false_or_eq_true (decide ((m_k225 : Int) < (((RS.modules sa41).length : Nat) : Int))) with c229 | c229
          · skip
            have q230 := of_decide_eq_true c229
            refine W_cond_true (by show Value.bool _ = _; exact congrArg Value.bool c229) ?_
            refine W_skip ?_
            refine W_seq ?_
            refine W_block ?_
            refine W_seq ?_
            refine W_region_lit ?_
            obtain ⟨b231, off232, cap233, cs234, T235, fz236, e237, hc238, hb239, he240⟩ := hrd210.open (by omega)
            cases e237
            obtain ⟨cl241, hs242, hr243⟩ := he240.at m_k225 (by omega)
            have hx244 : cl241 = [.int .i64 ((RS.modules sa41)[m_k225]'(by omega))] := hr243
            subst hx244
            refine L_val (v := (ptr b231 (off232 + m_k225 * 1))) (w' := w220) rfl rfl rfl (x_indexAddr' rfl sl_31 ti_3 rfl rfl (by omega)) ?_
            refine L_val (v := (.int .i64 ((RS.modules sa41)[m_k225]'(by omega)))) (w' := w220) rfl rfl rfl (x_load rfl rfl (run_loadVar_one ti_3 (hst219.rle' _ _ hb239) (seg_get (j := 0) hs242 rfl))) ?_
            refine L_val (v := (.int .i64 ((RS.modules sa41)[m_k225]'(by omega)))) (w' := w220) rfl rfl rfl rfl ?_
            refine L_nil ?_
            refine W_seq ?_
            refine W_region_lit ?_
            refine L_val (v := (.bool false)) (w' := w220) rfl rfl rfl rfl ?_
            refine L_nil ?_
            refine W_seq ?_
            refine W_seq ?_
            refine W_region_lit ?_
            refine L_val (v := (.map (some b21))) (w' := w220) rfl rfl rfl rfl ?_
            refine L_val (v := (.int .i64 ((RS.modules sa41)[m_k225]'(by omega)))) (w' := w220) rfl rfl rfl rfl ?_
            obtain ⟨v245, hr246, hv247⟩ := MapC.lookupD (w := w220) hm213 (hst219.get (i := 1) rfl) law3 mt_58 ti_29 ((RS.modules sa41)[m_k225]'(by omega)) false [] (RdS.empty _ _)
            have hv247' : RdS tyFact R206 v245 ((AL.get fa42 ((RS.modules sa41)[m_k225]'(by omega))).getD []) := hv247
            refine L_val (v := v245) (w' := w220) rfl rfl rfl (x_lookup rfl rfl rfl hr246) ?_
            obtain ⟨a248, cap249, e250, hc251⟩ := hv247'.shape
            subst e250
            refine L_val (v := (.int .i64 ((((AL.get fa42 ((RS.modules sa41)[m_k225]'(by omega))).getD []).length : Nat) : Int))) (w' := w220) rfl rfl rfl (x_len_slice rfl sl_29 rfl) ?_
            have hfl : ((AL.get fa42 ((RS.modules sa41)[m_k225]'(by omega))).getD []).length ≤ 4611686018427387904 := by rw [hf34.get]; exact len_get (fun k_ xs_ h_ => Nat.le_trans ((Reg.ok hm212).big k_ xs_ h_) (by decide)) _
            refine L_val (v := (.int .i64 0)) (w' := w220) rfl rfl rfl rfl ?_
            refine L_nil ?_
            refine W_block ?_
            refine W_loop (I := fun σ w_ m_ => ∃ (σ0 : Fr) (j_ : Nat) (u_ : Bool), σ = upd (upd (upd (upd (upd (upd (upd (upd (upd (upd (upd (upd (upd (upd (upd (upd (upd (upd (upd (upd (upd (upd (upd (upd (upd (upd (upd (upd (upd (upd (upd (upd (upd (upd (upd (upd σ0 0 (.slice a46 acts.length cap47)) 1 (.int .i64 kind)) 2 (.int .i64 n)) 6 (.bool false)) 7 (.bool true)) 8 (ptr p17 0)) 9 (.map (some b21))) 10 (.int .i64 (k_40 : Int))) 12 vo226) 14 (.int .i64 ((RS.modules sa41)[m_k225]'(by omega)))) 15 (.bool u_)) 20 (.bool true)) 21 (ptr p17 0)) 22 (ptr p17 0)) 23 (.bool false)) 24 (.map (some b21))) 25 (.int .i64 (k_40 : Int))) 26 (.slice a46 acts.length cap47)) 27 (.int .i64 (acts.length : Int))) 28 (.bool (decide ((k_40 : Int) < (acts.length : Int))))) 29 (.bool (decide ((k_40 : Int) < (acts.length : Int))))) 30 (.int .i64 (k_40 : Int))) 31 (.bool (decide ((k_40 : Int) < 30)))) 32 (.bool (decide ((k_40 : Int) < 30)))) 86 (ptr p17 0)) 87 (.slice (some ⟨b231, off232, none⟩) ((RS.modules sa41).length) cap215)) 88 (.int .i64 (((RS.modules sa41).length : Nat) : Int))) 89 (.int .i64 (m_k225 : Int))) 90 (.bool (decide ((m_k225 : Int) < (((RS.modules sa41).length : Nat) : Int))))) 91 (ptr b231 (off232 + m_k225 * 1))) 92 (.int .i64 ((RS.modules sa41)[m_k225]'(by omega)))) 93 (.map (some b21))) 94 (.int .i64 ((RS.modules sa41)[m_k225]'(by omega)))) 95 (.slice a248 (((AL.get fa42 ((RS.modules sa41)[m_k225]'(by omega))).getD []).length) cap249)) 96 (.int .i64 ((((AL.get fa42 ((RS.modules sa41)[m_k225]'(by omega))).getD []).length : Nat) : Int))) 97 (.int .i64 (j_ : Int)) ∧ mks (σ0 0) = [] ∧ Step w R [] w_ R206 [cA43, cF44, co227] ∧ j_ ≤ ((AL.get fa42 ((RS.modules sa41)[m_k225]'(by omega))).getD []).length ∧ u_ = (((AL.get fa42 ((RS.modules sa41)[m_k225]'(by omega))).getD []).take j_).any (usesF kind n) ∧ m_ = ((AL.get fa42 ((RS.modules sa41)[m_k225]'(by omega))).getD []).length - j_) (m := ((AL.get fa42 ((RS.modules sa41)[m_k225]'(by omega))).getD []).length - 0) ?_ ?_
            · skip
              exact ⟨_, 0, false, (upd_of (upd_of (upd_of (upd_of (upd_of (upd_of (upd_of (upd_of (upd_of (upd_of (upd_of (upd_of (upd_of (upd_of (upd_of (upd_of (upd_of (upd_of (upd_of (upd_of (upd_of (upd_of (upd_of (upd_of (upd_of (upd_of (upd_of (upd_of (upd_of (upd_of (upd_of (upd_of (upd_of (upd_of (upd_of (upd_of rfl rfl) rfl) rfl) rfl) rfl) rfl) rfl) rfl) rfl) rfl) rfl) rfl) rfl) rfl) rfl) rfl) rfl) rfl) rfl) rfl) rfl) rfl) rfl) rfl) rfl) rfl) rfl) rfl) rfl) rfl) rfl) rfl) rfl) rfl) rfl) rfl), hmk218, (((hst219.front 2 rfl rfl).front 2 rfl rfl).front 2 rfl rfl), (by omega), rfl, rfl⟩
            · skip
              rintro m261 σ_ w254 ⟨s258, j_259, u_260, rfl, hmk252, hst253, hf256, hf257, rfl⟩
              refine W_seq ?_
              refine W_region_lit ?_
              refine L_val (v := (.bool (decide ((j_259 : Int) < ((((AL.get fa42 ((RS.modules sa41)[m_k225]'(by omega))).getD []).length : Nat) : Int))))) (w' := w254) rfl rfl rfl (by kernel_rfl) ?_
              refine L_nil ?_
              refine W_seq ?_
              rcases Bool.eq_false_or_eq_true (decide ((j_259 : Int) < ((((AL.get fa42 ((RS.modules sa41)[m_k225]'(by omega))).getD []).length : Nat) : Int))) with c262 | c262
              · skip
                have q263 := of_decide_eq_true c262
                refine W_cond_true (by show Value.bool _ = _; exact congrArg Value.bool c262) ?_
                refine W_skip ?_
                refine W_seq ?_
                refine W_block ?_
                refine W_seq ?_
                refine W_region_lit ?_
                obtain ⟨b264, off265, cap266, cs267, T268, fz269, e270, hc271, hb272, he273⟩ := hv247'.open (by omega)
                cases e270
                obtain ⟨cl274, hs275, hr276⟩ := he273.at j_259 (by omega)
                obtain rfl := tyFact_open hr276
                refine L_val (v := (ptr b264 (off265 + j_259 * 3))) (w' := w254) rfl rfl rfl (x_indexAddr' rfl sl_29 ti_38 rfl rfl (by omega)) ?_
                refine L_val (v := (.agg #[(.int .i64 ((((AL.get fa42 ((RS.modules sa41)[m_k225]'(by omega))).getD [])[j_259]'(by omega)).kind)), (.int .i64 ((((AL.get fa42 ((RS.modules sa41)[m_k225]'(by omega))).getD [])[j_259]'(by omega)).n)), (.int .i64 ((((AL.get fa42 ((RS.modules sa41)[m_k225]'(by omega))).getD [])[j_259]'(by omega)).version))])) (w' := w254) rfl rfl rfl (x_load rfl rfl (run_loadVar_agg ti_38 (hst253.rle' _ _ hb272) hs275 rfl)) ?_
                refine L_new hst253 (v := fun b => ptr b 0) (ob := .cells #[(.int .i64 0), (.int .i64 0), (.int .i64 0)] 38 (0, 0)) rfl rfl rfl (by kernel_rfl) (fun b277 w278 hst279 => ?_)
                refine L_store hst279 0 ti_38 rfl rfl rfl rfl rfl rfl rfl rfl rfl rfl rfl (fun w280 hst281 => ?_)
                change Step _ _ _ _ _ [one b277 (.cells #[(.int .i64 ((((AL.get fa42 ((RS.modules sa41)[m_k225]'(by omega))).getD [])[j_259]'(by omega)).kind)), (.int .i64 ((((AL.get fa42 ((RS.modules sa41)[m_k225]'(by omega))).getD [])[j_259]'(by omega)).n)), (.int .i64 ((((AL.get fa42 ((RS.modules sa41)[m_k225]'(by omega))).getD [])[j_259]'(by omega)).version))] 38 (0, 0)), cA43, cF44, co227] at hst281
                refine L_nil ?_
                refine W_region_lit ?_
                refine L_val (v := (.bool u_260)) (w' := w280) rfl rfl rfl rfl ?_
                refine L_val (v := (.bool u_260)) (w' := w280) rfl rfl rfl rfl ?_
                rcases Bool.eq_false_or_eq_true u_260 with c282 | c282
                · skip
                  refine L_unwanted rfl rfl rfl rfl (by rw [c282]; rfl) rfl rfl ?_
                  refine L_unwanted rfl rfl rfl rfl (by rw [c282]; rfl) rfl rfl ?_
                  refine L_unwanted rfl rfl rfl rfl (by rw [c282]; rfl) rfl rfl ?_
                  refine L_unwanted rfl rfl rfl rfl (by rw [c282]; rfl) rfl rfl ?_
                  refine L_unwanted rfl rfl rfl rfl (by rw [c282]; rfl) rfl rfl ?_
                  refine L_unwanted_undef rfl rfl rfl rfl rfl rfl ?_
                  refine L_unwanted_undef rfl rfl rfl rfl rfl rfl ?_
                  refine L_unwanted_undef rfl rfl rfl rfl rfl rfl ?_
                  refine L_unwanted_undef rfl rfl rfl rfl rfl rfl ?_
                  refine L_unwanted rfl rfl rfl rfl (by rw [c282]; rfl) rfl rfl ?_
                  refine L_val (v := (.bool true)) (w' := w280) rfl rfl rfl (x_pick rfl rfl (by rw [c282]; rfl)) ?_
                  refine L_val (v := (.bool true)) (w' := w280) rfl rfl rfl rfl ?_
                  refine L_nil ?_
                  refine W_region_lit ?_
                  refine L_val (v := (.int .i64 ((j_259 + 1 : Nat) : Int))) (w' := w280) rfl rfl rfl (x_add_nat rfl rfl rfl (by omega)) ?_
                  refine L_val (v := (.int .i64 ((j_259 + 1 : Nat) : Int))) (w' := w280) rfl rfl rfl rfl ?_
                  refine L_nil ?_
                  refine ⟨((AL.get fa42 ((RS.modules sa41)[m_k225]'(by omega))).getD []).length - (j_259 + 1), by first | omega | (simp only [List.length_append, List.length_cons, List.length_nil]; omega), ?_⟩
                  exact ⟨_, (j_259 + 1), true, (upd_of (upd_of (upd_of (upd_of (upd_of (upd_of (upd_of (upd_of (upd_of (upd_of (upd_of (upd_of (upd_of (upd_of (upd_of (upd_of (upd_of (upd_of (upd_of (upd_of (upd_of (upd_of (upd_of (upd_of (upd_of (upd_of (upd_of (upd_of (upd_of (upd_of (upd_of (upd_of (upd_of (upd_of (upd_of (upd_of rfl rfl) rfl) rfl) rfl) rfl) rfl) rfl) rfl) rfl) rfl) rfl) rfl) rfl) rfl) rfl) rfl) rfl) rfl) rfl) rfl) rfl) rfl) rfl) rfl) rfl) rfl) rfl) rfl) rfl) rfl) rfl) rfl) rfl) rfl) rfl) rfl), hmk252, ((((hst281.front 3 rfl rfl).front 3 rfl rfl).front 3 rfl rfl).keepN 3 rfl), (by omega), (by rw [any_step (by omega) hf257]; simp [usesF, c282]), rfl⟩
                · skip
                  refine L_guard rfl rfl rfl rfl c282 ?_
                  refine L_val (v := (ptr b277 0)) (w' := w280) rfl rfl rfl (by kernel_rfl) ?_
                  refine L_guard rfl rfl rfl rfl c282 ?_
                  refine L_val (v := (.int .i64 ((((AL.get fa42 ((RS.modules sa41)[m_k225]'(by omega))).getD [])[j_259]'(by omega)).kind))) (w' := w280) rfl rfl rfl (x_load rfl rfl (run_loadVar_one ti_3 (hst281.blk (i := 0) rfl) rfl)) ?_
                  refine L_guard rfl rfl rfl rfl c282 ?_
                  refine L_val (v := (.int .i64 kind)) (w' := w280) rfl rfl rfl rfl ?_
                  refine L_guard rfl rfl rfl rfl c282 ?_
                  refine L_val (v := (.bool (((((AL.get fa42 ((RS.modules sa41)[m_k225]'(by omega))).getD [])[j_259]'(by omega)).kind) == kind))) (w' := w280) rfl rfl rfl (by kernel_rfl) ?_
                  refine L_guard rfl rfl rfl rfl c282 ?_
                  refine L_val (v := (.bool (((((AL.get fa42 ((RS.modules sa41)[m_k225]'(by omega))).getD [])[j_259]'(by omega)).kind) == kind))) (w' := w280) rfl rfl rfl rfl ?_
                  rcases Bool.eq_false_or_eq_true (((((AL.get fa42 ((RS.modules sa41)[m_k225]'(by omega))).getD [])[j_259]'(by omega)).kind) == kind) with c283 | c283
                  · skip
                    have q284 := eq_of_beq c283
                    refine L_guard rfl rfl rfl rfl c283 ?_
                    refine L_val (v := (ptr b277 1)) (w' := w280) rfl rfl rfl (by kernel_rfl) ?_
                    refine L_guard rfl rfl rfl rfl c283 ?_
                    refine L_val (v := (.int .i64 ((((AL.get fa42 ((RS.modules sa41)[m_k225]'(by omega))).getD [])[j_259]'(by omega)).n))) (w' := w280) rfl rfl rfl (x_load rfl rfl (run_loadVar_one ti_3 (hst281.blk (i := 0) rfl) rfl)) ?_
                    refine L_guard rfl rfl rfl rfl c283 ?_
                    refine L_val (v := (.int .i64 n)) (w' := w280) rfl rfl rfl rfl ?_
                    refine L_guard rfl rfl rfl rfl c283 ?_
                    refine L_val (v := (.bool (((((AL.get fa42 ((RS.modules sa41)[m_k225]'(by omega))).getD [])[j_259]'(by omega)).n) == n))) (w' := w280) rfl rfl rfl (by kernel_rfl) ?_
                    refine L_guard rfl rfl rfl rfl c282 ?_
                    refine L_val (v := (.bool (((((AL.get fa42 ((RS.modules sa41)[m_k225]'(by omega))).getD [])[j_259]'(by omega)).n) == n))) (w' := w280) rfl rfl rfl (x_pick rfl rfl (by rw [c283]; rfl)) ?_
                    refine L_val (v := (.bool (((((AL.get fa42 ((RS.modules sa41)[m_k225]'(by omega))).getD [])[j_259]'(by omega)).n) == n))) (w' := w280) rfl rfl rfl (x_pick rfl rfl (by rw [c282]; rfl)) ?_
                    refine L_val (v := (.bool (((((AL.get fa42 ((RS.modules sa41)[m_k225]'(by omega))).getD [])[j_259]'(by omega)).n) == n))) (w' := w280) rfl rfl rfl rfl ?_
                    refine L_nil ?_
                    refine W_region_lit ?_
                    refine L_val (v := (.int .i64 ((j_259 + 1 : Nat) : Int))) (w' := w280) rfl rfl rfl (x_add_nat rfl rfl rfl (by omega)) ?_
                    refine L_val (v := (.int .i64 ((j_259 + 1 : Nat) : Int))) (w' := w280) rfl rfl rfl rfl ?_
                    refine L_nil ?_
                    refine ⟨((AL.get fa42 ((RS.modules sa41)[m_k225]'(by omega))).getD []).length - (j_259 + 1), by first | omega | (simp only [List.length_append, List.length_cons, List.length_nil]; omega), ?_⟩
                    exact ⟨_, (j_259 + 1), (((((AL.get fa42 ((RS.modules sa41)[m_k225]'(by omega))).getD [])[j_259]'(by omega)).n) == n), (upd_of (upd_of (upd_of (upd_of (upd_of (upd_of (upd_of (upd_of (upd_of (upd_of (upd_of (upd_of (upd_of (upd_of (upd_of (upd_of (upd_of (upd_of (upd_of (upd_of (upd_of (upd_of (upd_of (upd_of (upd_of (upd_of (upd_of (upd_of (upd_of (upd_of (upd_of (upd_of (upd_of (upd_of (upd_of (upd_of rfl rfl) rfl) rfl) rfl) rfl) rfl) rfl) rfl) rfl) rfl) rfl) rfl) rfl) rfl) rfl) rfl) rfl) rfl) rfl) rfl) rfl) rfl) rfl) rfl) rfl) rfl) rfl) rfl) rfl) rfl) rfl) rfl) rfl) rfl) rfl) rfl), hmk252, ((((hst281.front 3 rfl rfl).front 3 rfl rfl).front 3 rfl rfl).keepN 3 rfl), (by omega), (by rw [any_step (by omega) hf257]; simp [usesF, c282, c283]), rfl⟩
                  · skip
                    have q285 := ne_of_beq_false c283
                    refine L_unwanted rfl rfl rfl rfl (by rw [c283]; rfl) rfl rfl ?_
                    refine L_unwanted rfl rfl rfl rfl (by rw [c283]; rfl) rfl rfl ?_
                    refine L_unwanted rfl rfl rfl rfl (by rw [c283]; rfl) rfl rfl ?_
                    refine L_unwanted rfl rfl rfl rfl (by rw [c283]; rfl) rfl rfl ?_
                    refine L_guard rfl rfl rfl rfl c282 ?_
                    refine L_val (v := (.bool false)) (w' := w280) rfl rfl rfl (x_pick rfl rfl (by rw [c283]; rfl)) ?_
                    refine L_val (v := (.bool false)) (w' := w280) rfl rfl rfl (x_pick rfl rfl (by rw [c282]; rfl)) ?_
                    refine L_val (v := (.bool false)) (w' := w280) rfl rfl rfl rfl ?_
                    refine L_nil ?_
                    refine W_region_lit ?_
                    refine L_val (v := (.int .i64 ((j_259 + 1 : Nat) : Int))) (w' := w280) rfl rfl rfl (x_add_nat rfl rfl rfl (by omega)) ?_
                    refine L_val (v := (.int .i64 ((j_259 + 1 : Nat) : Int))) (w' := w280) rfl rfl rfl rfl ?_
                    refine L_nil ?_
                    refine ⟨((AL.get fa42 ((RS.modules sa41)[m_k225]'(by omega))).getD []).length - (j_259 + 1), by first | omega | (simp only [List.length_append, List.length_cons, List.length_nil]; omega), ?_⟩
                    exact ⟨_, (j_259 + 1), false, (upd_of (upd_of (upd_of (upd_of (upd_of (upd_of (upd_of (upd_of (upd_of (upd_of (upd_of (upd_of (upd_of (upd_of (upd_of (upd_of (upd_of (upd_of (upd_of (upd_of (upd_of (upd_of (upd_of (upd_of (upd_of (upd_of (upd_of (upd_of (upd_of (upd_of (upd_of (upd_of (upd_of (upd_of (upd_of (upd_of rfl rfl) rfl) rfl) rfl) rfl) rfl) rfl) rfl) rfl) rfl) rfl) rfl) rfl) rfl) rfl) rfl) rfl) rfl) rfl) rfl) rfl) rfl) rfl) rfl) rfl) rfl) rfl) rfl) rfl) rfl) rfl) rfl) rfl) rfl) rfl) rfl), hmk252, ((((hst281.front 3 rfl rfl).front 3 rfl rfl).front 3 rfl rfl).keepN 3 rfl), (by omega), (by rw [any_step (by omega) hf257]; simp [usesF, c282, c283]), rfl⟩
              · skip
                have q286 := of_decide_eq_false c262
                refine W_cond_false (by show Value.bool _ = _; exact congrArg Value.bool c262) ?_
                refine W_exit ?_
                refine W_seq ?_
                have hU287 := any_end (by omega) hf257
                refine W_region_lit ?_
                refine L_val (v := (.bool u_260)) (w' := w254) rfl rfl rfl rfl ?_
                refine L_val (v := (.bool u_260)) (w' := w254) rfl rfl rfl rfl ?_
                rcases Bool.eq_false_or_eq_true u_260 with c288 | c288
                · skip
                  refine L_guard rfl rfl rfl rfl c288 ?_
                  refine L_val (v := (ptr p17 0)) (w' := w254) rfl rfl rfl rfl ?_
                  refine L_guard rfl rfl rfl rfl c288 ?_
                  refine L_val (v := (.int .i64 ((RS.modules sa41)[m_k225]'(by omega)))) (w' := w254) rfl rfl rfl rfl ?_
                  refine L_guard rfl rfl rfl rfl c288 ?_
                  refine L_callG hst253 (v := (.bool (holds sa41.vers sa41.mods ((RS.modules sa41)[m_k225]'(by omega))))) rfl rfl rfl (x_call (vs := #[(ptr p17 0), (.int .i64 ((RS.modules sa41)[m_k225]'(by omega)))]) rfl rfl (by kernel_rfl) ent_15) (Holds_reg (w := w254) ((RS.modules sa41)[m_k225]'(by omega)) hm212 hst253.rle' (hst253.get (i := 0) rfl)) (fun w289 hst290 => ?_)
                  refine L_val (v := (.bool (holds sa41.vers sa41.mods ((RS.modules sa41)[m_k225]'(by omega))))) (w' := w289) rfl rfl rfl (x_pick rfl rfl (by rw [c288]; rfl)) ?_
                  refine L_val (v := (.bool (holds sa41.vers sa41.mods ((RS.modules sa41)[m_k225]'(by omega))))) (w' := w289) rfl rfl rfl rfl ?_
                  rcases Bool.eq_false_or_eq_true (holds sa41.vers sa41.mods ((RS.modules sa41)[m_k225]'(by omega))) with c291 | c291
                  · skip
                    refine L_guard rfl rfl rfl rfl c291 ?_
                    refine L_val (v := (ptr p17 0)) (w' := w289) rfl rfl rfl rfl ?_
                    refine L_guard rfl rfl rfl rfl c291 ?_
                    refine L_val (v := (.int .i64 kind)) (w' := w289) rfl rfl rfl rfl ?_
                    refine L_guard rfl rfl rfl rfl c291 ?_
                    refine L_val (v := (.int .i64 n)) (w' := w289) rfl rfl rfl rfl ?_
                    refine L_guard rfl rfl rfl rfl c291 ?_
                    refine L_callG hst290 (v := (.int .i64 (ver sa41.vers (kind, n)))) rfl rfl rfl (x_call (vs := #[(ptr p17 0), (.int .i64 kind), (.int .i64 n)]) rfl rfl (by kernel_rfl) ent_16) (Version_reg (w := w289) kind n hm212 (hst290.get (i := 0) rfl)) (fun w292 hst293 => ?_)
                    refine L_guard rfl rfl rfl rfl c291 ?_
                    refine L_val (v := (.bool (decide (ver sa41.vers (kind, n) ≥ 0)))) (w' := w292) rfl rfl rfl (by kernel_rfl) ?_
                    refine L_val (v := (.bool (decide (ver sa41.vers (kind, n) ≥ 0)))) (w' := w292) rfl rfl rfl (x_pick rfl rfl (by rw [c291]; rfl)) ?_
                    refine L_nil ?_
                    rcases Bool.eq_false_or_eq_true (decide (ver sa41.vers (kind, n) ≥ 0)) with c294 | c294
                    · skip
                      have q295 := of_decide_eq_true c294
                      refine W_cond_true (by show Value.bool _ = _; exact congrArg Value.bool c294) ?_
                      have hfl := filt_len (wants sa41 fa42 kind n) (RS.modules sa41) m_k225
                      refine W_region_lit ?_
                      refine L_val (v := vo226) (w' := w292) rfl rfl rfl rfl ?_
                      refine L_val (v := (.int .i64 ((RS.modules sa41)[m_k225]'(by omega)))) (w' := w292) rfl rfl rfl rfl ?_
                      refine L_new hst293 (v := fun b => .slice (some ⟨b, 0, none⟩) 1 1) (ob := .cells #[(.int .i64 ((RS.modules sa41)[m_k225]'(by omega)))] 3 (0, 0)) rfl rfl rfl (by kernel_rfl) (fun b296 w297 hst298 => ?_)
                      refine L_append hst298 (t := 31) (e := 3) (ys := [((RS.modules sa41)[m_k225]'(by omega))]) (src := [(.int .i64 ((RS.modules sa41)[m_k225]'(by omega)))]) 3 rfl rfl rfl rfl rfl rfl sl_31 ti_3 rfl rfl rfl hi222 (src_own (hst298.blk (i := 0) rfl)) (int_mk _ _) rfl (by first | omega | (simp only [List.length_append, List.length_cons, List.length_nil]; omega)) (by first | (simp only [maxLen]; omega) | (simp only [List.length_append, List.length_cons, List.length_nil, maxLen]; omega)) (fun v299 c300 w301 ho302 hst303 => ?_)
                      refine L_val (v := v299) (w' := w301) rfl rfl rfl rfl ?_
                      refine L_nil ?_
                      refine W_region_lit ?_
                      refine L_val (v := (.int .i64 ((m_k225 + 1 : Nat) : Int))) (w' := w301) rfl rfl rfl (x_add_nat rfl rfl rfl (by omega)) ?_
                      refine L_val (v := (.int .i64 ((m_k225 + 1 : Nat) : Int))) (w' := w301) rfl rfl rfl rfl ?_
                      refine L_nil ?_
                      refine ⟨(RS.modules sa41).length - (m_k225 + 1), by first | omega | (simp only [List.length_append, List.length_cons, List.length_nil]; omega), ?_⟩
                      exact ⟨_, (m_k225 + 1), v299, c300, (upd_of (upd_of (upd_of (upd_of (upd_of (upd_of (upd_of (upd_of (upd_of (upd_of (upd_of (upd_of (upd_of (upd_of (upd_of (upd_of (upd_of (upd_of (upd_of (upd_of (upd_of (upd_of (upd_of (upd_of (upd_of (upd_of rfl rfl) rfl) rfl) rfl) rfl) rfl) rfl) rfl) rfl) rfl) rfl) rfl) rfl) rfl) rfl) rfl) rfl) rfl) rfl) rfl) rfl) rfl) rfl) rfl) rfl) rfl), hmk252, (((hst303.front 3 rfl rfl).front 3 rfl rfl).keepN 3 rfl), (by rw [filt_yes (P := (wants sa41 fa42 kind n)) (l := RS.modules sa41) (k := m_k225) (by omega) (by simp only [wants]; simp [hU287.symm, c288, c291, c294])]; exact ho302), (by omega), rfl⟩
                    · skip
                      have q304 := of_decide_eq_false c294
                      refine W_cond_false (by show Value.bool _ = _; exact congrArg Value.bool c294) ?_
                      refine W_skip ?_
                      refine W_region_lit ?_
                      refine L_val (v := (.int .i64 ((m_k225 + 1 : Nat) : Int))) (w' := w292) rfl rfl rfl (x_add_nat rfl rfl rfl (by omega)) ?_
                      refine L_val (v := (.int .i64 ((m_k225 + 1 : Nat) : Int))) (w' := w292) rfl rfl rfl rfl ?_
                      refine L_nil ?_
                      refine ⟨(RS.modules sa41).length - (m_k225 + 1), by first | omega | (simp only [List.length_append, List.length_cons, List.length_nil]; omega), ?_⟩
                      exact ⟨_, (m_k225 + 1), vo226, co227, (upd_of (upd_of (upd_of (upd_of (upd_of (upd_of (upd_of (upd_of (upd_of (upd_of (upd_of (upd_of (upd_of (upd_of (upd_of (upd_of (upd_of (upd_of (upd_of (upd_of (upd_of (upd_of (upd_of (upd_of (upd_of (upd_of rfl rfl) rfl) rfl) rfl) rfl) rfl) rfl) rfl) rfl) rfl) rfl) rfl) rfl) rfl) rfl) rfl) rfl) rfl) rfl) rfl) rfl) rfl) rfl) rfl) rfl) rfl), hmk252, (((hst293.front 2 rfl rfl).front 2 rfl rfl).front 2 rfl rfl), (by rw [filt_no (P := (wants sa41 fa42 kind n)) (l := RS.modules sa41) (k := m_k225) (by omega) (by simp only [wants]; simp [hU287.symm, c288, c291, c294])]; exact hi222), (by omega), rfl⟩
                  · skip
                    refine L_unwanted rfl rfl rfl rfl (by rw [c291]; rfl) rfl rfl ?_
                    refine L_unwanted rfl rfl rfl rfl (by rw [c291]; rfl) rfl rfl ?_
                    refine L_unwanted rfl rfl rfl rfl (by rw [c291]; rfl) rfl rfl ?_
                    refine L_unwanted rfl rfl rfl rfl (by rw [c291]; rfl) rfl rfl ?_
                    refine L_unwanted rfl rfl rfl rfl (by rw [c291]; rfl) rfl rfl ?_
                    refine L_val (v := (.bool false)) (w' := w289) rfl rfl rfl (x_pick rfl rfl (by rw [c291]; rfl)) ?_
                    refine L_nil ?_
                    refine W_cond_false (by show Value.bool _ = _; exact congrArg Value.bool rfl) ?_
                    refine W_skip ?_
                    refine W_region_lit ?_
                    refine L_val (v := (.int .i64 ((m_k225 + 1 : Nat) : Int))) (w' := w289) rfl rfl rfl (x_add_nat rfl rfl rfl (by omega)) ?_
                    refine L_val (v := (.int .i64 ((m_k225 + 1 : Nat) : Int))) (w' := w289) rfl rfl rfl rfl ?_
                    refine L_nil ?_
                    refine ⟨(RS.modules sa41).length - (m_k225 + 1), by first | omega | (simp only [List.length_append, List.length_cons, List.length_nil]; omega), ?_⟩
                    exact ⟨_, (m_k225 + 1), vo226, co227, (upd_of (upd_of (upd_of (upd_of (upd_of (upd_of (upd_of (upd_of (upd_of (upd_of (upd_of (upd_of (upd_of (upd_of (upd_of (upd_of (upd_of (upd_of (upd_of (upd_of (upd_of (upd_of (upd_of (upd_of (upd_of (upd_of rfl rfl) rfl) rfl) rfl) rfl) rfl) rfl) rfl) rfl) rfl) rfl) rfl) rfl) rfl) rfl) rfl) rfl) rfl) rfl) rfl) rfl) rfl) rfl) rfl) rfl) rfl), hmk252, (((hst290.front 2 rfl rfl).front 2 rfl rfl).front 2 rfl rfl), (by rw [filt_no (P := (wants sa41 fa42 kind n)) (l := RS.modules sa41) (k := m_k225) (by omega) (by simp only [wants]; simp [hU287.symm, c288, c291])]; exact hi222), (by omega), rfl⟩
                · skip
                  refine L_unwanted rfl rfl rfl rfl (by rw [c288]; rfl) rfl rfl ?_
                  refine L_unwanted rfl rfl rfl rfl (by rw [c288]; rfl) rfl rfl ?_
                  refine L_unwanted rfl rfl rfl rfl (by rw [c288]; rfl) rfl rfl ?_
                  refine L_val (v := (.bool false)) (w' := w254) rfl rfl rfl (x_pick rfl rfl (by rw [c288]; rfl)) ?_
                  refine L_val (v := (.bool false)) (w' := w254) rfl rfl rfl rfl ?_
                  refine L_unwanted rfl rfl rfl rfl rfl rfl rfl ?_
                  refine L_unwanted rfl rfl rfl rfl rfl rfl rfl ?_
                  refine L_unwanted rfl rfl rfl rfl rfl rfl rfl ?_
                  refine L_unwanted rfl rfl rfl rfl rfl rfl rfl ?_
                  refine L_unwanted rfl rfl rfl rfl rfl rfl rfl ?_
                  refine L_val (v := (.bool false)) (w' := w254) rfl rfl rfl rfl ?_
                  refine L_nil ?_
                  refine W_cond_false (by show Value.bool _ = _; exact congrArg Value.bool rfl) ?_
                  refine W_skip ?_
                  refine W_region_lit ?_
                  refine L_val (v := (.int .i64 ((m_k225 + 1 : Nat) : Int))) (w' := w254) rfl rfl rfl (x_add_nat rfl rfl rfl (by omega)) ?_
                  refine L_val (v := (.int .i64 ((m_k225 + 1 : Nat) : Int))) (w' := w254) rfl rfl rfl rfl ?_
                  refine L_nil ?_
                  refine ⟨(RS.modules sa41).length - (m_k225 + 1), by first | omega | (simp only [List.length_append, List.length_cons, List.length_nil]; omega), ?_⟩
                  exact ⟨_, (m_k225 + 1), vo226, co227, (upd_of (upd_of (upd_of (upd_of (upd_of (upd_of (upd_of (upd_of (upd_of (upd_of (upd_of (upd_of (upd_of (upd_of (upd_of (upd_of (upd_of (upd_of (upd_of (upd_of (upd_of (upd_of (upd_of (upd_of (upd_of (upd_of rfl rfl) rfl) rfl) rfl) rfl) rfl) rfl) rfl) rfl) rfl) rfl) rfl) rfl) rfl) rfl) rfl) rfl) rfl) rfl) rfl) rfl) rfl) rfl) rfl) rfl) rfl), hmk252, (((hst253.front 2 rfl rfl).front 2 rfl rfl).front 2 rfl rfl), (by rw [filt_no (P := (wants sa41 fa42 kind n)) (l := RS.modules sa41) (k := m_k225) (by omega) (by simp only [wants]; simp [hU287.symm, c288])]; exact hi222), (by omega), rfl⟩
          · skip
            have q305 := of_decide_eq_false c229
            refine W_cond_false (by show Value.bool _ = _; exact congrArg Value.bool c229) ?_
            refine W_exit ?_
            refine W_seq ?_
            refine W_seq ?_
            have ho306 := hi222
            rw [List.take_of_length_le (by omega), ← BI.want hf34 kind n] at ho306
            have hbl := bumpL_len sa41 kind n (by omega)
            refine W_region_lit ?_
            refine L_val (v := (ptr p17 0)) (w' := w220) rfl rfl rfl rfl ?_
            refine L_val (v := (.int .i64 kind)) (w' := w220) rfl rfl rfl rfl ?_
            refine L_val (v := (.int .i64 n)) (w' := w220) rfl rfl rfl rfl ?_
            have hst307 := hst219
            refine L_callS [cA43] [cF44, co227] hst307 rfl rfl rfl (x_call (vs := #[(ptr p17 0), (.int .i64 kind), (.int .i64 n)]) rfl rfl (by kernel_rfl) ent_14) (Bump_spec kind n (hst307.sats.take 1 rfl) hm212 (by omega) (by omega)) (fun v308 w309 R310 L311 hp312 hle313 hst314 => ?_)
            have hm315 := vS.lift hm213 hle313
            have hm316 := OwnL.mono ho306 hle313
            obtain ⟨c317, co318, rfl, hreg319, ho320⟩ := hp312
            have hreg321 : Reg R310 p17 (RS.bump sa41 kind n) c317 := hreg319
            refine L_val (v := vo226) (w' := w309) rfl rfl rfl rfl ?_
            refine L_callG hst314 (v := (.bool (decide (((RS.bumpL sa41 kind n) : List Int) = (RS.bumpL sa41 kind n))))) rfl rfl rfl (x_call (vs := #[v308, vo226]) rfl rfl (by kernel_rfl) ent_12) (EqualI_spec (w := w309) (R := hp w309) (v1 := v308) (v2 := vo226) (xs := (RS.bumpL sa41 kind n)) (ys := (RS.bumpL sa41 kind n)) (Le.refl _) (OwnL.freeze ho320 hst314.rle' (hst314.get (i := 1) rfl)) (OwnL.freeze hm316 hst314.rle' (hst314.get (i := 3) rfl)) hbl) (fun w322 hst323 => ?_)
            refine L_val (v := (.bool (!(decide (((RS.bumpL sa41 kind n) : List Int) = (RS.bumpL sa41 kind n)))))) (w' := w322) rfl rfl rfl rfl ?_
            refine L_nil ?_
            have c324 : (decide (((RS.bumpL sa41 kind n) : List Int) = (RS.bumpL sa41 kind n))) = true := decide_eq_true rfl
            refine W_cond_false (by show Value.bool _ = _; exact congrArg Value.bool (by rw [c324]; rfl)) ?_
            refine W_skip ?_
            refine W_seq ?_
            refine W_seq ?_
            obtain ⟨R325, hst326, hle327, hc328⟩ := Step.frz (hst323.front 3 rfl rfl)
            have hm329 := Reg.lift hreg321 hle327
            have hm330 := OwnL.mono ho320 hle327
            have hm331 := vS.lift hm315 hle327
            have hrd332 := OwnL.freeze (OwnL.reint (R' := R325) hm316) (Le.refl _) hc328
            have hAf0 := After.first hf34 hf37 kind n
            have hc0 := RS.bump_cnt sa41 kind n
            refine W_region_lit ?_
            refine L_val (v := (.int .i64 0)) (w' := w322) rfl rfl rfl rfl ?_
            refine L_nil ?_
            refine W_block ?_
            refine W_loop (I := fun σ w_ m_ => ∃ (σ0 : Fr) (R_ : Hp) (r_ : Nat) (si : RS) (cA : Hp) (cF : Hp), σ = upd (upd (upd (upd (upd (upd (upd (upd (upd (upd (upd (upd (upd (upd (upd (upd (upd (upd (upd (upd (upd (upd (upd (upd (upd (upd (upd (upd (upd (upd (upd (upd (upd (upd σ0 0 (.slice a46 acts.length cap47)) 1 (.int .i64 kind)) 2 (.int .i64 n)) 7 (.bool true)) 8 (ptr p17 0)) 9 (.map (some b21))) 10 (.int .i64 (k_40 : Int))) 12 vo226) 20 (.bool true)) 21 (ptr p17 0)) 22 (ptr p17 0)) 23 (.bool false)) 24 (.map (some b21))) 25 (.int .i64 (k_40 : Int))) 26 (.slice a46 acts.length cap47)) 27 (.int .i64 (acts.length : Int))) 28 (.bool (decide ((k_40 : Int) < (acts.length : Int))))) 29 (.bool (decide ((k_40 : Int) < (acts.length : Int))))) 30 (.int .i64 (k_40 : Int))) 31 (.bool (decide ((k_40 : Int) < 30)))) 32 (.bool (decide ((k_40 : Int) < 30)))) 86 (ptr p17 0)) 87 (.slice a214 ((RS.modules sa41).length) cap215)) 88 (.int .i64 (((RS.modules sa41).length : Nat) : Int))) 89 (.int .i64 (m_k225 : Int))) 90 (.bool (decide ((m_k225 : Int) < (((RS.modules sa41).length : Nat) : Int))))) 133 (ptr p17 0)) 134 (.int .i64 kind)) 135 (.int .i64 n)) 136 v308) 137 vo226) 138 (.bool (decide (((RS.bumpL sa41 kind n) : List Int) = (RS.bumpL sa41 kind n))))) 139 (.bool (!(decide (((RS.bumpL sa41 kind n) : List Int) = (RS.bumpL sa41 kind n)))))) 140 (.int .i64 (r_ : Int)) ∧ mks (σ0 0) = [] ∧ Step w R [] w_ R_ [cA, cF] ∧ Le R325 R_ ∧ Reg R_ p17 si cA ∧ MapC (Value.int .i64) (vS R_) (some b21) fa42 cF ∧ r_ ≤ 3 ∧ After kind n sa41 fa42 si ∧ si.cnt ≤ 31 + r_ ∧ m_ = 3 - r_) (m := 3 - 0) ?_ ?_
            · skip
              exact ⟨_, _, 0, (RS.bump sa41 kind n), c317, cF44, (upd_of (upd_of (upd_of (upd_of (upd_of (upd_of (upd_of (upd_of (upd_of (upd_of (upd_of (upd_of (upd_of (upd_of (upd_of (upd_of (upd_of (upd_of (upd_of (upd_of (upd_of (upd_of (upd_of (upd_of (upd_of (upd_of (upd_of (upd_of (upd_of (upd_of (upd_of (upd_of (upd_of (upd_of rfl rfl) rfl) rfl) rfl) rfl) rfl) rfl) rfl) rfl) rfl) rfl) rfl) rfl) rfl) rfl) rfl) rfl) rfl) rfl) rfl) rfl) rfl) rfl) rfl) rfl) rfl) rfl) rfl) rfl) rfl) rfl) rfl) rfl) rfl), hmk218, (((hst326.front 2 rfl rfl).front 1 rfl rfl).keepN 2 rfl), Le.refl _, hm329, hm331, (by omega), hAf0, (by omega), rfl⟩
            · skip
              rintro m348 σ_ w335 ⟨s342, R343, r_344, si345, cA346, cF347, rfl, hmk333, hst334, hle336, hi337, hi338, hf339, hf340, hf341, rfl⟩
              have hml_si345 : si345.mods.length ≤ 30 := by rw [hf340.mods]; omega
              have hmm_si345 := RS.modules_len si345
              refine W_seq ?_
              refine W_region_lit ?_
              refine L_val (v := (.bool (decide ((r_344 : Int) < 3)))) (w' := w335) rfl rfl rfl (by kernel_rfl) ?_
              refine L_nil ?_
              refine W_seq ?_
              rcases Bool.eq_false_or_eq_true (decide ((r_344 : Int) < 3)) with c349 | c349
              · skip
                have q350 := of_decide_eq_true c349
                refine W_cond_true (by show Value.bool _ = _; exact congrArg Value.bool c349) ?_
                refine W_skip ?_
                refine W_seq ?_
                refine W_block ?_
                refine W_seq ?_
                refine W_seq ?_
                refine W_region_lit ?_
                refine L_val (v := vo226) (w' := w335) rfl rfl rfl rfl ?_
                obtain ⟨a351, cap352, e353, hc354⟩ := hrd332.shape
                subst e353
                refine L_val (v := (.int .i64 (((RS.bumpL sa41 kind n).length : Nat) : Int))) (w' := w335) rfl rfl rfl (x_len_slice rfl sl_31 rfl) ?_
                refine L_val (v := (.int .i64 0)) (w' := w335) rfl rfl rfl rfl ?_
                refine L_nil ?_
                refine W_block ?_
                refine W_loop (I := fun σ w_ m_ => ∃ (σ0 : Fr) (R_ : Hp) (j_ : Nat) (cA : Hp) (cF : Hp), σ = upd (upd (upd (upd (upd (upd (upd (upd (upd (upd (upd (upd (upd (upd (upd (upd (upd (upd (upd (upd (upd (upd (upd (upd (upd (upd (upd (upd (upd (upd (upd (upd (upd (upd (upd (upd (upd (upd σ0 0 (.slice a46 acts.length cap47)) 1 (.int .i64 kind)) 2 (.int .i64 n)) 7 (.bool true)) 8 (ptr p17 0)) 9 (.map (some b21))) 10 (.int .i64 (k_40 : Int))) 12 (.slice a351 ((RS.bumpL sa41 kind n).length) cap352)) 20 (.bool true)) 21 (ptr p17 0)) 22 (ptr p17 0)) 23 (.bool false)) 24 (.map (some b21))) 25 (.int .i64 (k_40 : Int))) 26 (.slice a46 acts.length cap47)) 27 (.int .i64 (acts.length : Int))) 28 (.bool (decide ((k_40 : Int) < (acts.length : Int))))) 29 (.bool (decide ((k_40 : Int) < (acts.length : Int))))) 30 (.int .i64 (k_40 : Int))) 31 (.bool (decide ((k_40 : Int) < 30)))) 32 (.bool (decide ((k_40 : Int) < 30)))) 86 (ptr p17 0)) 87 (.slice a214 ((RS.modules sa41).length) cap215)) 88 (.int .i64 (((RS.modules sa41).length : Nat) : Int))) 89 (.int .i64 (m_k225 : Int))) 90 (.bool (decide ((m_k225 : Int) < (((RS.modules sa41).length : Nat) : Int))))) 133 (ptr p17 0)) 134 (.int .i64 kind)) 135 (.int .i64 n)) 136 v308) 137 (.slice a351 ((RS.bumpL sa41 kind n).length) cap352)) 138 (.bool (decide (((RS.bumpL sa41 kind n) : List Int) = (RS.bumpL sa41 kind n))))) 139 (.bool (!(decide (((RS.bumpL sa41 kind n) : List Int) = (RS.bumpL sa41 kind n)))))) 140 (.int .i64 (r_344 : Int))) 141 (.bool (decide ((r_344 : Int) < 3)))) 142 (.slice a351 ((RS.bumpL sa41 kind n).length) cap352)) 143 (.int .i64 (((RS.bumpL sa41 kind n).length : Nat) : Int))) 144 (.int .i64 (j_ : Int)) ∧ mks (σ0 0) = [] ∧ Step w R [] w_ R_ [cA, cF] ∧ Le R343 R_ ∧ Reg R_ p17 si345 cA ∧ MapC (Value.int .i64) (vS R_) (some b21) fa42 cF ∧ j_ ≤ (RS.bumpL sa41 kind n).length ∧ m_ = (RS.bumpL sa41 kind n).length - j_) (m := (RS.bumpL sa41 kind n).length - 0) ?_ ?_
                · skip
                  exact ⟨_, _, 0, cA346, cF347, (upd_of (upd_of (upd_of (upd_of (upd_of (upd_of (upd_of (upd_of (upd_of (upd_of (upd_of (upd_of (upd_of (upd_of (upd_of (upd_of (upd_of (upd_of (upd_of (upd_of (upd_of (upd_of (upd_of (upd_of (upd_of (upd_of (upd_of (upd_of (upd_of (upd_of (upd_of (upd_of (upd_of (upd_of (upd_of (upd_of (upd_of (upd_of rfl rfl) rfl) rfl) rfl) rfl) rfl) rfl) rfl) rfl) rfl) rfl) rfl) rfl) rfl) rfl) rfl) rfl) rfl) rfl) rfl) rfl) rfl) rfl) rfl) rfl) rfl) rfl) rfl) rfl) rfl) rfl) rfl) rfl) rfl) rfl) rfl) rfl) rfl), hmk333, ((hst334.front 1 rfl rfl).front 1 rfl rfl), Le.refl _, hi337, hi338, (by omega), rfl⟩
                · skip
                  rintro m367 σ_ w357 ⟨s362, R363, j_364, cA365, cF366, rfl, hmk355, hst356, hle358, hi359, hi360, hf361, rfl⟩
                  refine W_seq ?_
                  refine W_region_lit ?_
                  refine L_val (v := (.bool (decide ((j_364 : Int) < (((RS.bumpL sa41 kind n).length : Nat) : Int))))) (w' := w357) rfl rfl rfl (by kernel_rfl) ?_
                  refine L_nil ?_
                  refine W_seq ?_
                  rcases Bool.eq_false_or_eq_true (decide ((j_364 : Int) < (((RS.bumpL sa41 kind n).length : Nat) : Int))) with c368 | c368
                  · skip
                    have q369 := of_decide_eq_true c368
                    refine W_cond_true (by show Value.bool _ = _; exact congrArg Value.bool c368) ?_
                    refine W_skip ?_
                    refine W_seq ?_
                    refine W_block ?_
                    refine W_seq ?_
                    refine W_region_lit ?_
                    obtain ⟨b370, off371, cap372, cs373, T374, fz375, e376, hc377, hb378, he379⟩ := hrd332.open (by omega)
                    cases e376
                    obtain ⟨cl380, hs381, hr382⟩ := he379.at j_364 (by omega)
                    have hx383 : cl380 = [.int .i64 ((RS.bumpL sa41 kind n)[j_364]'(by omega))] := hr382
                    subst hx383
                    refine L_val (v := (ptr b370 (off371 + j_364 * 1))) (w' := w357) rfl rfl rfl (x_indexAddr' rfl sl_31 ti_3 rfl rfl (by omega)) ?_
                    refine L_val (v := (.int .i64 ((RS.bumpL sa41 kind n)[j_364]'(by omega)))) (w' := w357) rfl rfl rfl (x_load rfl rfl (run_loadVar_one ti_3 ((Le.trans hle336 (Le.trans hle358 hst356.rle')) _ _ hb378) (seg_get (j := 0) hs381 rfl))) ?_
                    refine L_val (v := (.int .i64 ((RS.bumpL sa41 kind n)[j_364]'(by omega)))) (w' := w357) rfl rfl rfl rfl ?_
                    refine L_nil ?_
                    refine W_seq ?_
                    refine W_region_lit ?_
                    refine L_val (v := (ptr p17 0)) (w' := w357) rfl rfl rfl rfl ?_
                    refine L_val (v := (.int .i64 ((RS.bumpL sa41 kind n)[j_364]'(by omega)))) (w' := w357) rfl rfl rfl rfl ?_
                    refine L_callG hst356 (v := (.bool (holds si345.vers si345.mods ((RS.bumpL sa41 kind n)[j_364]'(by omega))))) rfl rfl rfl (x_call (vs := #[(ptr p17 0), (.int .i64 ((RS.bumpL sa41 kind n)[j_364]'(by omega)))]) rfl rfl (by kernel_rfl) ent_15) (Holds_reg (w := w357) ((RS.bumpL sa41 kind n)[j_364]'(by omega)) hi359 hst356.rle' (hst356.get (i := 0) rfl)) (fun w384 hst385 => ?_)
                    refine L_val (v := (.bool (holds si345.vers si345.mods ((RS.bumpL sa41 kind n)[j_364]'(by omega))))) (w' := w384) rfl rfl rfl rfl ?_
                    have c386 : (holds si345.vers si345.mods ((RS.bumpL sa41 kind n)[j_364]'(by omega))) = false := After.gone hf340 (List.getElem_mem _)
                    refine L_guard rfl rfl rfl rfl c386 ?_
                    refine L_val (v := (ptr p17 0)) (w' := w384) rfl rfl rfl rfl ?_
                    refine L_guard rfl rfl rfl rfl c386 ?_
                    refine L_call rfl rfl rfl (x_call (vs := #[(ptr p17 0)]) rfl rfl (by kernel_rfl) ent_13) (Modules_reg hi359 (hst385.get (i := 0) rfl) hf340.ne (by omega)) ?_
                    rintro e387 w388 ⟨v389, R390, L391, rfl, hst392, c393, rfl, ho394⟩
                    refine ⟨_, rfl, ?_⟩
                    have hst395 := Step.gain hst385 hst392
                    obtain ⟨R396, hst397, hle398, hc399⟩ := Step.frz hst395
                    have hm401 := Reg.lift hi359 hle398
                    have hm402 := vS.lift hi360 hle398
                    have hrd400 := OwnL.freeze (OwnL.reint (R' := R396) ho394) (Le.refl _) hc399
                    refine L_guard rfl rfl rfl rfl c386 ?_
                    refine L_val (v := (.int .i64 ((RS.bumpL sa41 kind n)[j_364]'(by omega)))) (w' := w388) rfl rfl rfl rfl ?_
                    refine L_guard rfl rfl rfl rfl c386 ?_
                    obtain ⟨a403, cap404, e405, hc406⟩ := hrd400.shape
                    subst e405
                    refine L_callG hst397 (v := (.bool (List.any (RS.modules si345) (fun y => decide (y = ((RS.bumpL sa41 kind n)[j_364]'(by omega))))))) rfl rfl rfl (x_call (vs := #[(.slice a403 ((RS.modules si345).length) cap404), (.int .i64 ((RS.bumpL sa41 kind n)[j_364]'(by omega)))]) rfl rfl (by kernel_rfl) ent_25) (Contains_spec (v := (.slice a403 ((RS.modules si345).length) cap404)) (xs := (RS.modules si345)) ((RS.bumpL sa41 kind n)[j_364]'(by omega)) (Le.refl _) (RdS.mono hrd400 hst397.rle') (by omega)) (fun w407 hst408 => ?_)
                    refine L_guard rfl rfl rfl rfl c386 ?_
                    refine L_val (v := (.bool (!(List.any (RS.modules si345) (fun y => decide (y = ((RS.bumpL sa41 kind n)[j_364]'(by omega)))))))) (w' := w407) rfl rfl rfl rfl ?_
                    refine L_val (v := (.bool (!(List.any (RS.modules si345) (fun y => decide (y = ((RS.bumpL sa41 kind n)[j_364]'(by omega)))))))) (w' := w407) rfl rfl rfl (x_pick rfl rfl (by rw [c386]; rfl)) ?_
                    refine L_nil ?_
                    have c409 : (List.any (RS.modules si345) (fun y => decide (y = ((RS.bumpL sa41 kind n)[j_364]'(by omega))))) = true := List.any_eq_true.2 ⟨_, After.there hf340 (List.getElem_mem _), decide_eq_true rfl⟩
                    refine W_cond_false (by show Value.bool _ = _; exact congrArg Value.bool (by rw [c409]; rfl)) ?_
                    refine W_skip ?_
                    refine W_region_lit ?_
                    refine L_val (v := (.int .i64 ((j_364 + 1 : Nat) : Int))) (w' := w407) rfl rfl rfl (x_add_nat rfl rfl rfl (by omega)) ?_
                    refine L_val (v := (.int .i64 ((j_364 + 1 : Nat) : Int))) (w' := w407) rfl rfl rfl rfl ?_
                    refine L_nil ?_
                    refine ⟨(RS.bumpL sa41 kind n).length - (j_364 + 1), by first | omega | (simp only [List.length_append, List.length_cons, List.length_nil]; omega), ?_⟩
                    exact ⟨_, _, (j_364 + 1), cA365, cF366, (upd_of (upd_of (upd_of (upd_of (upd_of (upd_of (upd_of (upd_of (upd_of (upd_of (upd_of (upd_of (upd_of (upd_of (upd_of (upd_of (upd_of (upd_of (upd_of (upd_of (upd_of (upd_of (upd_of (upd_of (upd_of (upd_of (upd_of (upd_of (upd_of (upd_of (upd_of (upd_of (upd_of (upd_of (upd_of (upd_of (upd_of (upd_of rfl rfl) rfl) rfl) rfl) rfl) rfl) rfl) rfl) rfl) rfl) rfl) rfl) rfl) rfl) rfl) rfl) rfl) rfl) rfl) rfl) rfl) rfl) rfl) rfl) rfl) rfl) rfl) rfl) rfl) rfl) rfl) rfl) rfl) rfl) rfl) rfl) rfl) rfl), hmk355, ((hst408.front 1 rfl rfl).front 1 rfl rfl), (Le.trans hle358 hle398), hm401, hm402, (by omega), rfl⟩
                  · skip
                    have q410 := of_decide_eq_false c368
                    refine W_cond_false (by show Value.bool _ = _; exact congrArg Value.bool c368) ?_
                    refine W_exit ?_
                    refine W_seq ?_
                    refine W_region_lit ?_
                    refine L_val (v := (ptr p17 0)) (w' := w357) rfl rfl rfl rfl ?_
                    refine L_val (v := (.int .i64 kind)) (w' := w357) rfl rfl rfl rfl ?_
                    refine L_val (v := (.int .i64 n)) (w' := w357) rfl rfl rfl rfl ?_
                    have hst411 := hst356
                    refine L_callS [cA365] [cF366] hst411 rfl rfl rfl (x_call (vs := #[(ptr p17 0), (.int .i64 kind), (.int .i64 n)]) rfl rfl (by kernel_rfl) ent_14) (Bump_spec kind n (hst411.sats.take 1 rfl) hi359 (by omega) (by omega)) (fun v412 w413 R414 L415 hp416 hle417 hst418 => ?_)
                    have hm419 := vS.lift hi360 hle417
                    obtain ⟨c420, co421, rfl, hreg422, ho423⟩ := hp416
                    have hreg424 : Reg R414 p17 (RS.bump si345 kind n) c420 := hreg422
                    obtain ⟨a425, cap426, e427, hc428⟩ := ho423.value
                    subst e427
                    refine L_val (v := (.int .i64 (((RS.bumpL si345 kind n).length : Nat) : Int))) (w' := w413) rfl rfl rfl (x_len_slice rfl sl_31 rfl) ?_
                    have hq429 : ((((RS.bumpL si345 kind n).length : Nat) : Int) != 0) = false := by rw [Broken.none hf340.br]; rfl
                    refine L_val (v := .bool ((((RS.bumpL si345 kind n).length : Nat) : Int) != 0)) (w' := w413) rfl rfl rfl (by kernel_rfl) ?_
                    refine L_nil ?_
                    refine W_cond_false (by show Value.bool _ = _; exact congrArg Value.bool hq429) ?_
                    refine W_skip ?_
                    refine W_region_lit ?_
                    refine L_val (v := (.int .i64 ((r_344 + 1 : Nat) : Int))) (w' := w413) rfl rfl rfl (x_add_nat rfl rfl rfl (by omega)) ?_
                    refine L_val (v := (.int .i64 ((r_344 + 1 : Nat) : Int))) (w' := w413) rfl rfl rfl rfl ?_
                    refine L_nil ?_
                    refine ⟨3 - (r_344 + 1), by first | omega | (simp only [List.length_append, List.length_cons, List.length_nil]; omega), ?_⟩
                    exact ⟨_, _, (r_344 + 1), (RS.bump si345 kind n), c420, cF366, (upd_of (upd_of (upd_of (upd_of (upd_of (upd_of (upd_of (upd_of (upd_of (upd_of (upd_of (upd_of (upd_of (upd_of (upd_of (upd_of (upd_of (upd_of (upd_of (upd_of (upd_of (upd_of (upd_of (upd_of (upd_of (upd_of (upd_of (upd_of (upd_of (upd_of (upd_of (upd_of (upd_of (upd_of rfl rfl) rfl) rfl) rfl) rfl) rfl) rfl) rfl) rfl) rfl) rfl) rfl) rfl) rfl) rfl) rfl) rfl) rfl) rfl) rfl) rfl) rfl) rfl) rfl) rfl) rfl) rfl) rfl) rfl) rfl) rfl) rfl) rfl) rfl), hmk355, (((hst418.front 2 rfl rfl).front 1 rfl rfl).keepN 2 rfl), (Le.trans hle336 (Le.trans hle358 hle417)), hreg424, hm419, (by omega), (After.bump hf340), (Nat.le_trans (RS.bump_cnt _ _ _) (by omega)), rfl⟩
              · skip
                have q430 := of_decide_eq_false c349
                refine W_cond_false (by show Value.bool _ = _; exact congrArg Value.bool c349) ?_
                refine W_exit ?_
                refine W_seq ?_
                refine W_region_lit ?_
                refine L_val (v := (.bool true)) (w' := w335) rfl rfl rfl rfl ?_
                refine L_val (v := (.bool true)) (w' := w335) rfl rfl rfl rfl ?_
                refine L_guard rfl rfl rfl rfl rfl ?_
                refine L_val (v := (ptr p17 0)) (w' := w335) rfl rfl rfl rfl ?_
                refine L_guard rfl rfl rfl rfl rfl ?_
                refine L_call rfl rfl rfl (x_call (vs := #[(ptr p17 0)]) rfl rfl (by kernel_rfl) ent_13) (Modules_reg hi337 (hst334.get (i := 0) rfl) hf340.ne (by omega)) ?_
                rintro e431 w432 ⟨v433, R434, L435, rfl, hst436, c437, rfl, ho438⟩
                refine ⟨_, rfl, ?_⟩
                have hst439 := Step.gain hst334 hst436
                obtain ⟨R440, hst441, hle442, hc443⟩ := Step.frz hst439
                have hm445 := Reg.lift hi337 hle442
                have hm446 := vS.lift hi338 hle442
                have hrd444 := OwnL.freeze (OwnL.reint (R' := R440) ho438) (Le.refl _) hc443
                refine L_guard rfl rfl rfl rfl rfl ?_
                obtain ⟨a447, cap448, e449, hc450⟩ := hrd444.shape
                subst e449
                refine L_val (v := (.int .i64 (((RS.modules si345).length : Nat) : Int))) (w' := w432) rfl rfl rfl (x_len_slice rfl sl_31 rfl) ?_
                refine L_guard rfl rfl rfl rfl rfl ?_
                refine L_val (v := (.map (some b21))) (w' := w432) rfl rfl rfl rfl ?_
                refine L_guard rfl rfl rfl rfl rfl ?_
                refine L_val (v := (.int .i64 (fa42.length : Int))) (w' := w432) rfl rfl rfl (x_len_map hm446 (hst441.get (i := 1) rfl) mt_58 rfl rfl) ?_
                refine L_guard rfl rfl rfl rfl rfl ?_
                have hq451 : ((((RS.modules si345).length : Nat) : Int) == (fa42.length : Int)) = true := by rw [After.len hf340]; exact beq_self_eq_true _
                refine L_val (v := .bool ((((RS.modules si345).length : Nat) : Int) == (fa42.length : Int))) (w' := w432) rfl rfl rfl (by kernel_rfl) ?_
                refine L_val (v := (.bool ((((RS.modules si345).length : Nat) : Int) == (fa42.length : Int)))) (w' := w432) rfl rfl rfl rfl ?_
                refine L_val (v := (.bool ((((RS.modules si345).length : Nat) : Int) == (fa42.length : Int)))) (w' := w432) rfl rfl rfl rfl ?_
                refine L_nil ?_
                refine W_ret ?_
                refine ⟨_, _, res_run (rs := [.tmp 6]) (vs := [(.bool ((((RS.modules si345).length : Nat) : Int) == (fa42.length : Int)))]) Try.results8 (.cons (.tmp rfl) .nil) hmk333, ?_⟩
                exact ⟨_, _, [], rfl, hst441.keepN 0 rfl, congrArg Value.bool hq451, rfl⟩
    · skip
      have q452 := of_decide_eq_false c50
      refine L_unwanted rfl rfl rfl rfl (by rw [c50]; rfl) rfl rfl ?_
      refine L_unwanted rfl rfl rfl rfl (by rw [c50]; rfl) rfl rfl ?_
      refine L_val (v := (.bool false)) (w' := w28) rfl rfl rfl (x_pick rfl rfl (by rw [c50]; rfl)) ?_
      refine L_nil ?_
      refine W_cond_false (by show Value.bool _ = _; exact congrArg Value.bool rfl) ?_
      refine W_exit ?_
      refine W_seq ?_
      refine W_region_lit ?_
      refine L_val (v := (.slice none 0 0)) (w' := w28) rfl rfl rfl rfl ?_
      refine L_nil ?_
      refine W_seq ?_
      refine W_seq ?_
      have hmx := RS.modules_len sa41
      have ho453 := OwnL.empty Ty.int 3 R39
      have hst454 := hst27.nothing
      refine W_region_lit ?_
      refine L_val (v := (ptr p17 0)) (w' := w28) rfl rfl rfl rfl ?_
      refine L_call rfl rfl rfl (x_call (vs := #[(ptr p17 0)]) rfl rfl (by kernel_rfl) ent_13) (Modules_reg hi30 (hst454.get (i := 1) rfl) hf37 (by omega)) ?_
      rintro e455 w456 ⟨v457, R458, L459, rfl, hst460, c461, rfl, ho462⟩
      refine ⟨_, rfl, ?_⟩
      have hst463 := Step.gain hst454 hst460
      obtain ⟨R464, hst465, hle466, hc467⟩ := Step.frz hst463
      have hm469 := OwnL.mono ho453 hle466
      have hm470 := Reg.lift hi30 hle466
      have hm471 := vS.lift hi31 hle466
      have hrd468 := OwnL.freeze (OwnL.reint (R' := R464) ho462) (Le.refl _) hc467
      obtain ⟨a472, cap473, e474, hc475⟩ := hrd468.shape
      subst e474
      refine L_val (v := (.int .i64 (((RS.modules sa41).length : Nat) : Int))) (w' := w456) rfl rfl rfl (x_len_slice rfl sl_31 rfl) ?_
      refine L_val (v := (.int .i64 0)) (w' := w456) rfl rfl rfl rfl ?_
      refine L_nil ?_
      refine W_block ?_
      refine W_loop (I := fun σ w_ m_ => ∃ (σ0 : Fr) (m_k : Nat) (vo : Value) (co : Hp), σ = upd (upd (upd (upd (upd (upd (upd (upd (upd (upd (upd (upd (upd (upd (upd (upd (upd (upd (upd (upd (upd (upd (upd (upd σ0 0 (.slice a46 acts.length cap47)) 1 (.int .i64 kind)) 2 (.int .i64 n)) 6 (.bool false)) 7 (.bool true)) 8 (ptr p17 0)) 9 (.map (some b21))) 10 (.int .i64 (k_40 : Int))) 12 vo) 20 (.bool true)) 21 (ptr p17 0)) 22 (ptr p17 0)) 23 (.bool false)) 24 (.map (some b21))) 25 (.int .i64 (k_40 : Int))) 26 (.slice a46 acts.length cap47)) 27 (.int .i64 (acts.length : Int))) 28 (.bool (decide ((k_40 : Int) < (acts.length : Int))))) 29 (.bool (decide ((k_40 : Int) < (acts.length : Int))))) 32 (.bool false)) 86 (ptr p17 0)) 87 (.slice a472 ((RS.modules sa41).length) cap473)) 88 (.int .i64 (((RS.modules sa41).length : Nat) : Int))) 89 (.int .i64 (m_k : Int)) ∧ mks (σ0 0) = [] ∧ Step w R [] w_ R464 [cA43, cF44, co] ∧ OwnL Ty.int 3 R464 vo (((RS.modules sa41).take m_k).filter (wants sa41 fa42 kind n)) co ∧ m_k ≤ (RS.modules sa41).length ∧ m_ = (RS.modules sa41).length - m_k) (m := (RS.modules sa41).length - 0) ?_ ?_
      · skip
        exact ⟨_, 0, (.slice none 0 0), non, (upd_of (upd_of (upd_of (upd_of (upd_of (upd_of (upd_of (upd_of (upd_of (upd_of (upd_of (upd_of (upd_of (upd_of (upd_of (upd_of (upd_of (upd_of (upd_of (upd_of (upd_of (upd_of (upd_of (upd_of rfl rfl) rfl) rfl) rfl) rfl) rfl) rfl) rfl) rfl) rfl) rfl) rfl) rfl) rfl) rfl) rfl) rfl) rfl) rfl) rfl) rfl) rfl) rfl) rfl), hmk26, ((hst465.front 2 rfl rfl).front 2 rfl rfl), (by simpa using hm469), (by omega), rfl⟩
      · skip
        rintro m486 σ_ w478 ⟨s482, m_k483, vo484, co485, rfl, hmk476, hst477, hi480, hf481, rfl⟩
        refine W_seq ?_
        refine W_region_lit ?_
        refine L_val (v := (.bool (decide ((m_k483 : Int) < (((RS.modules sa41).length : Nat) : Int))))) (w' := w478) rfl rfl rfl (by kernel_rfl) ?_
        refine L_nil ?_
        refine W_seq ?_
        rcases Bool.eq_false_or_eq_true (decide ((m_k483 : Int) < (((RS.modules sa41).length : Nat) : Int))) with c487 | c487
        · skip
          have q488 := of_decide_eq_true c487
          refine W_cond_true (by show Value.bool _ = _; exact congrArg Value.bool c487) ?_
          refine W_skip ?_
          refine W_seq ?_
          refine W_block ?_
          refine W_seq ?_
          refine W_region_lit ?_
          obtain ⟨b489, off490, cap491, cs492, T493, fz494, e495, hc496, hb497, he498⟩ := hrd468.open (by omega)
          cases e495
          obtain ⟨cl499, hs500, hr501⟩ := he498.at m_k483 (by omega)
          have hx502 : cl499 = [.int .i64 ((RS.modules sa41)[m_k483]'(by omega))] := hr501
          subst hx502
          refine L_val (v := (ptr b489 (off490 + m_k483 * 1))) (w' := w478) rfl rfl rfl (x_indexAddr' rfl sl_31 ti_3 rfl rfl (by omega)) ?_
          refine L_val (v := (.int .i64 ((RS.modules sa41)[m_k483]'(by omega)))) (w' := w478) rfl rfl rfl (x_load rfl rfl (run_loadVar_one ti_3 (hst477.rle' _ _ hb497) (seg_get (j := 0) hs500 rfl))) ?_
          refine L_val (v := (.int .i64 ((RS.modules sa41)[m_k483]'(by omega)))) (w' := w478) rfl rfl rfl rfl ?_
          refine L_nil ?_
          refine W_seq ?_
          refine W_region_lit ?_
          refine L_val (v := (.bool false)) (w' := w478) rfl rfl rfl rfl ?_
          refine L_nil ?_
          refine W_seq ?_
          refine W_seq ?_
          refine W_region_lit ?_
          refine L_val (v := (.map (some b21))) (w' := w478) rfl rfl rfl rfl ?_
          refine L_val (v := (.int .i64 ((RS.modules sa41)[m_k483]'(by omega)))) (w' := w478) rfl rfl rfl rfl ?_
          obtain ⟨v503, hr504, hv505⟩ := MapC.lookupD (w := w478) hm471 (hst477.get (i := 1) rfl) law3 mt_58 ti_29 ((RS.modules sa41)[m_k483]'(by omega)) false [] (RdS.empty _ _)
          have hv505' : RdS tyFact R464 v503 ((AL.get fa42 ((RS.modules sa41)[m_k483]'(by omega))).getD []) := hv505
          refine L_val (v := v503) (w' := w478) rfl rfl rfl (x_lookup rfl rfl rfl hr504) ?_
          obtain ⟨a506, cap507, e508, hc509⟩ := hv505'.shape
          subst e508
          refine L_val (v := (.int .i64 ((((AL.get fa42 ((RS.modules sa41)[m_k483]'(by omega))).getD []).length : Nat) : Int))) (w' := w478) rfl rfl rfl (x_len_slice rfl sl_29 rfl) ?_
          have hfl : ((AL.get fa42 ((RS.modules sa41)[m_k483]'(by omega))).getD []).length ≤ 4611686018427387904 := by rw [hf34.get]; exact len_get (fun k_ xs_ h_ => Nat.le_trans ((Reg.ok hm470).big k_ xs_ h_) (by decide)) _
          refine L_val (v := (.int .i64 0)) (w' := w478) rfl rfl rfl rfl ?_
          refine L_nil ?_
          refine W_block ?_
          refine W_loop (I := fun σ w_ m_ => ∃ (σ0 : Fr) (j_ : Nat) (u_ : Bool), σ = upd (upd (upd (upd (upd (upd (upd (upd (upd (upd (upd (upd (upd (upd (upd (upd (upd (upd (upd (upd (upd (upd (upd (upd (upd (upd (upd (upd (upd (upd (upd (upd (upd (upd σ0 0 (.slice a46 acts.length cap47)) 1 (.int .i64 kind)) 2 (.int .i64 n)) 6 (.bool false)) 7 (.bool true)) 8 (ptr p17 0)) 9 (.map (some b21))) 10 (.int .i64 (k_40 : Int))) 12 vo484) 14 (.int .i64 ((RS.modules sa41)[m_k483]'(by omega)))) 15 (.bool u_)) 20 (.bool true)) 21 (ptr p17 0)) 22 (ptr p17 0)) 23 (.bool false)) 24 (.map (some b21))) 25 (.int .i64 (k_40 : Int))) 26 (.slice a46 acts.length cap47)) 27 (.int .i64 (acts.length : Int))) 28 (.bool (decide ((k_40 : Int) < (acts.length : Int))))) 29 (.bool (decide ((k_40 : Int) < (acts.length : Int))))) 32 (.bool false)) 86 (ptr p17 0)) 87 (.slice (some ⟨b489, off490, none⟩) ((RS.modules sa41).length) cap473)) 88 (.int .i64 (((RS.modules sa41).length : Nat) : Int))) 89 (.int .i64 (m_k483 : Int))) 90 (.bool (decide ((m_k483 : Int) < (((RS.modules sa41).length : Nat) : Int))))) 91 (ptr b489 (off490 + m_k483 * 1))) 92 (.int .i64 ((RS.modules sa41)[m_k483]'(by omega)))) 93 (.map (some b21))) 94 (.int .i64 ((RS.modules sa41)[m_k483]'(by omega)))) 95 (.slice a506 (((AL.get fa42 ((RS.modules sa41)[m_k483]'(by omega))).getD []).length) cap507)) 96 (.int .i64 ((((AL.get fa42 ((RS.modules sa41)[m_k483]'(by omega))).getD []).length : Nat) : Int))) 97 (.int .i64 (j_ : Int)) ∧ mks (σ0 0) = [] ∧ Step w R [] w_ R464 [cA43, cF44, co485] ∧ j_ ≤ ((AL.get fa42 ((RS.modules sa41)[m_k483]'(by omega))).getD []).length ∧ u_ = (((AL.get fa42 ((RS.modules sa41)[m_k483]'(by omega))).getD []).take j_).any (usesF kind n) ∧ m_ = ((AL.get fa42 ((RS.modules sa41)[m_k483]'(by omega))).getD []).length - j_) (m := ((AL.get fa42 ((RS.modules sa41)[m_k483]'(by omega))).getD []).length - 0) ?_ ?_
          · skip
            exact ⟨_, 0, false, (upd_of (upd_of (upd_of (upd_of (upd_of (upd_of (upd_of (upd_of (upd_of (upd_of (upd_of (upd_of (upd_of (upd_of (upd_of (upd_of (upd_of (upd_of (upd_of (upd_of (upd_of (upd_of (upd_of (upd_of (upd_of (upd_of (upd_of (upd_of (upd_of (upd_of (upd_of (upd_of (upd_of (upd_of rfl rfl) rfl) rfl) rfl) rfl) rfl) rfl) rfl) rfl) rfl) rfl) rfl) rfl) rfl) rfl) rfl) rfl) rfl) rfl) rfl) rfl) rfl) rfl) rfl) rfl) rfl) rfl) rfl) rfl) rfl) rfl) rfl) rfl) rfl), hmk476, (((hst477.front 2 rfl rfl).front 2 rfl rfl).front 2 rfl rfl), (by omega), rfl, rfl⟩
          · skip
            rintro m519 σ_ w512 ⟨s516, j_517, u_518, rfl, hmk510, hst511, hf514, hf515, rfl⟩
            refine W_seq ?_
            refine W_region_lit ?_
            refine L_val (v := (.bool (decide ((j_517 : Int) < ((((AL.get fa42 ((RS.modules sa41)[m_k483]'(by omega))).getD []).length : Nat) : Int))))) (w' := w512) rfl rfl rfl (by kernel_rfl) ?_
            refine L_nil ?_
            refine W_seq ?_
            rcases Bool.eq_false_or_eq_true (decide ((j_517 : Int) < ((((AL.get fa42 ((RS.modules sa41)[m_k483]'(by omega))).getD []).length : Nat) : Int))) with c520 | c520
            · skip
              have q521 := of_decide_eq_true c520
              refine W_cond_true (by show Value.bool _ = _; exact congrArg Value.bool c520) ?_
              refine W_skip ?_
              refine W_seq ?_
              refine W_block ?_
              refine W_seq ?_
              refine W_region_lit ?_
              obtain ⟨b522, off523, cap524, cs525, T526, fz527, e528, hc529, hb530, he531⟩ := hv505'.open (by omega)
              cases e528
              obtain ⟨cl532, hs533, hr534⟩ := he531.at j_517 (by omega)
              obtain rfl := tyFact_open hr534
              refine L_val (v := (ptr b522 (off523 + j_517 * 3))) (w' := w512) rfl rfl rfl (x_indexAddr' rfl sl_29 ti_38 rfl rfl (by omega)) ?_
              refine L_val (v := (.agg #[(.int .i64 ((((AL.get fa42 ((RS.modules sa41)[m_k483]'(by omega))).getD [])[j_517]'(by omega)).kind)), (.int .i64 ((((AL.get fa42 ((RS.modules sa41)[m_k483]'(by omega))).getD [])[j_517]'(by omega)).n)), (.int .i64 ((((AL.get fa42 ((RS.modules sa41)[m_k483]'(by omega))).getD [])[j_517]'(by omega)).version))])) (w' := w512) rfl rfl rfl (x_load rfl rfl (run_loadVar_agg ti_38 (hst511.rle' _ _ hb530) hs533 rfl)) ?_
              refine L_new hst511 (v := fun b => ptr b 0) (ob := .cells #[(.int .i64 0), (.int .i64 0), (.int .i64 0)] 38 (0, 0)) rfl rfl rfl (by kernel_rfl) (fun b535 w536 hst537 => ?_)
              refine L_store hst537 0 ti_38 rfl rfl rfl rfl rfl rfl rfl rfl rfl rfl rfl (fun w538 hst539 => ?_)
              change Step _ _ _ _ _ [one b535 (.cells #[(.int .i64 ((((AL.get fa42 ((RS.modules sa41)[m_k483]'(by omega))).getD [])[j_517]'(by omega)).kind)), (.int .i64 ((((AL.get fa42 ((RS.modules sa41)[m_k483]'(by omega))).getD [])[j_517]'(by omega)).n)), (.int .i64 ((((AL.get fa42 ((RS.modules sa41)[m_k483]'(by omega))).getD [])[j_517]'(by omega)).version))] 38 (0, 0)), cA43, cF44, co485] at hst539
              refine L_nil ?_
              refine W_region_lit ?_
              refine L_val (v := (.bool u_518)) (w' := w538) rfl rfl rfl rfl ?_
              refine L_val (v := (.bool u_518)) (w' := w538) rfl rfl rfl rfl ?_
              rcases Bool.eq_false_or_eq_true u_518 with c540 | c540
              · skip
                refine L_unwanted rfl rfl rfl rfl (by rw [c540]; rfl) rfl rfl ?_
                refine L_unwanted rfl rfl rfl rfl (by rw [c540]; rfl) rfl rfl ?_
                refine L_unwanted rfl rfl rfl rfl (by rw [c540]; rfl) rfl rfl ?_
                refine L_unwanted rfl rfl rfl rfl (by rw [c540]; rfl) rfl rfl ?_
                refine L_unwanted rfl rfl rfl rfl (by rw [c540]; rfl) rfl rfl ?_
                refine L_unwanted_undef rfl rfl rfl rfl rfl rfl ?_
                refine L_unwanted_undef rfl rfl rfl rfl rfl rfl ?_
                refine L_unwanted_undef rfl rfl rfl rfl rfl rfl ?_
                refine L_unwanted_undef rfl rfl rfl rfl rfl rfl ?_
                refine L_unwanted rfl rfl rfl rfl (by rw [c540]; rfl) rfl rfl ?_
                refine L_val (v := (.bool true)) (w' := w538) rfl rfl rfl (x_pick rfl rfl (by rw [c540]; rfl)) ?_
                refine L_val (v := (.bool true)) (w' := w538) rfl rfl rfl rfl ?_
                refine L_nil ?_
                refine W_region_lit ?_
                refine L_val (v := (.int .i64 ((j_517 + 1 : Nat) : Int))) (w' := w538) rfl rfl rfl (x_add_nat rfl rfl rfl (by omega)) ?_
                refine L_val (v := (.int .i64 ((j_517 + 1 : Nat) : Int))) (w' := w538) rfl rfl rfl rfl ?_
                refine L_nil ?_
                refine ⟨((AL.get fa42 ((RS.modules sa41)[m_k483]'(by omega))).getD []).length - (j_517 + 1), by first | omega | (simp only [List.length_append, List.length_cons, List.length_nil]; omega), ?_⟩
                exact ⟨_, (j_517 + 1), true, (upd_of (upd_of (upd_of (upd_of (upd_of (upd_of (upd_of (upd_of (upd_of (upd_of (upd_of (upd_of (upd_of (upd_of (upd_of (upd_of (upd_of (upd_of (upd_of (upd_of (upd_of (upd_of (upd_of (upd_of (upd_of (upd_of (upd_of (upd_of (upd_of (upd_of (upd_of (upd_of (upd_of (upd_of rfl rfl) rfl) rfl) rfl) rfl) rfl) rfl) rfl) rfl) rfl) rfl) rfl) rfl) rfl) rfl) rfl) rfl) rfl) rfl) rfl) rfl) rfl) rfl) rfl) rfl) rfl) rfl) rfl) rfl) rfl) rfl) rfl) rfl) rfl), hmk510, ((((hst539.front 3 rfl rfl).front 3 rfl rfl).front 3 rfl rfl).keepN 3 rfl), (by omega), (by rw [any_step (by omega) hf515]; simp [usesF, c540]), rfl⟩
              · skip
                refine L_guard rfl rfl rfl rfl c540 ?_
                refine L_val (v := (ptr b535 0)) (w' := w538) rfl rfl rfl (by kernel_rfl) ?_
                refine L_guard rfl rfl rfl rfl c540 ?_
                refine L_val (v := (.int .i64 ((((AL.get fa42 ((RS.modules sa41)[m_k483]'(by omega))).getD [])[j_517]'(by omega)).kind))) (w' := w538) rfl rfl rfl (x_load rfl rfl (run_loadVar_one ti_3 (hst539.blk (i := 0) rfl) rfl)) ?_
                refine L_guard rfl rfl rfl rfl c540 ?_
                refine L_val (v := (.int .i64 kind)) (w' := w538) rfl rfl rfl rfl ?_
                refine L_guard rfl rfl rfl rfl c540 ?_
                refine L_val (v := (.bool (((((AL.get fa42 ((RS.modules sa41)[m_k483]'(by omega))).getD [])[j_517]'(by omega)).kind) == kind))) (w' := w538) rfl rfl rfl (by kernel_rfl) ?_
                refine L_guard rfl rfl rfl rfl c540 ?_
                refine L_val (v := (.bool (((((AL.get fa42 ((RS.modules sa41)[m_k483]'(by omega))).getD [])[j_517]'(by omega)).kind) == kind))) (w' := w538) rfl rfl rfl rfl ?_
                rcases Bool.eq_false_or_eq_true (((((AL.get fa42 ((RS.modules sa41)[m_k483]'(by omega))).getD [])[j_517]'(by omega)).kind) == kind) with c541 | c541
                · skip
                  have q542 := eq_of_beq c541
                  refine L_guard rfl rfl rfl rfl c541 ?_
                  refine L_val (v := (ptr b535 1)) (w' := w538) rfl rfl rfl (by kernel_rfl) ?_
                  refine L_guard rfl rfl rfl rfl c541 ?_
                  refine L_val (v := (.int .i64 ((((AL.get fa42 ((RS.modules sa41)[m_k483]'(by omega))).getD [])[j_517]'(by omega)).n))) (w' := w538) rfl rfl rfl (x_load rfl rfl (run_loadVar_one ti_3 (hst539.blk (i := 0) rfl) rfl)) ?_
                  refine L_guard rfl rfl rfl rfl c541 ?_
                  refine L_val (v := (.int .i64 n)) (w' := w538) rfl rfl rfl rfl ?_
                  refine L_guard rfl rfl rfl rfl c541 ?_
                  refine L_val (v := (.bool (((((AL.get fa42 ((RS.modules sa41)[m_k483]'(by omega))).getD [])[j_517]'(by omega)).n) == n))) (w' := w538) rfl rfl rfl (by kernel_rfl) ?_
                  refine L_guard rfl rfl rfl rfl c540 ?_
                  refine L_val (v := (.bool (((((AL.get fa42 ((RS.modules sa41)[m_k483]'(by omega))).getD [])[j_517]'(by omega)).n) == n))) (w' := w538) rfl rfl rfl (x_pick rfl rfl (by rw [c541]; rfl)) ?_
                  refine L_val (v := (.bool (((((AL.get fa42 ((RS.modules sa41)[m_k483]'(by omega))).getD [])[j_517]'(by omega)).n) == n))) (w' := w538) rfl rfl rfl (x_pick rfl rfl (by rw [c540]; rfl)) ?_
                  refine L_val (v := (.bool (((((AL.get fa42 ((RS.modules sa41)[m_k483]'(by omega))).getD [])[j_517]'(by omega)).n) == n))) (w' := w538) rfl rfl rfl rfl ?_
                  refine L_nil ?_
                  refine W_region_lit ?_
                  refine L_val (v := (.int .i64 ((j_517 + 1 : Nat) : Int))) (w' := w538) rfl rfl rfl (x_add_nat rfl rfl rfl (by omega)) ?_
                  refine L_val (v := (.int .i64 ((j_517 + 1 : Nat) : Int))) (w' := w538) rfl rfl rfl rfl ?_
                  refine L_nil ?_
                  refine ⟨((AL.get fa42 ((RS.modules sa41)[m_k483]'(by omega))).getD []).length - (j_517 + 1), by first | omega | (simp only [List.length_append, List.length_cons, List.length_nil]; omega), ?_⟩
                  exact ⟨_, (j_517 + 1), (((((AL.get fa42 ((RS.modules sa41)[m_k483]'(by omega))).getD [])[j_517]'(by omega)).n) == n), (upd_of (upd_of (upd_of (upd_of (upd_of (upd_of (upd_of (upd_of (upd_of (upd_of (upd_of (upd_of (upd_of (upd_of (upd_of (upd_of (upd_of (upd_of (upd_of (upd_of (upd_of (upd_of (upd_of (upd_of (upd_of (upd_of (upd_of (upd_of (upd_of (upd_of (upd_of (upd_of (upd_of (upd_of rfl rfl) rfl) rfl) rfl) rfl) rfl) rfl) rfl) rfl) rfl) rfl) rfl) rfl) rfl) rfl) rfl) rfl) rfl) rfl) rfl) rfl) rfl) rfl) rfl) rfl) rfl) rfl) rfl) rfl) rfl) rfl) rfl) rfl) rfl), hmk510, ((((hst539.front 3 rfl rfl).front 3 rfl rfl).front 3 rfl rfl).keepN 3 rfl), (by omega), (by rw [any_step (by omega) hf515]; simp [usesF, c540, c541]), rfl⟩
                · skip
                  have q543 := ne_of_beq_false c541
                  refine L_unwanted rfl rfl rfl rfl (by rw [c541]; rfl) rfl rfl ?_
                  refine L_unwanted rfl rfl rfl rfl (by rw [c541]; rfl) rfl rfl ?_
                  refine L_unwanted rfl rfl rfl rfl (by rw [c541]; rfl) rfl rfl ?_
                  refine L_unwanted rfl rfl rfl rfl (by rw [c541]; rfl) rfl rfl ?_
                  refine L_guard rfl rfl rfl rfl c540 ?_
                  refine L_val (v := (.bool false)) (w' := w538) rfl rfl rfl (x_pick rfl rfl (by rw [c541]; rfl)) ?_
                  refine L_val (v := (.bool false)) (w' := w538) rfl rfl rfl (x_pick rfl rfl (by rw [c540]; rfl)) ?_
                  refine L_val (v := (.bool false)) (w' := w538) rfl rfl rfl rfl ?_
                  refine L_nil ?_
                  refine W_region_lit ?_
                  refine L_val (v := (.int .i64 ((j_517 + 1 : Nat) : Int))) (w' := w538) rfl rfl rfl (x_add_nat rfl rfl rfl (by omega)) ?_
                  refine L_val (v := (.int .i64 ((j_517 + 1 : Nat) : Int))) (w' := w538) rfl rfl rfl rfl ?_
                  refine L_nil ?_
                  refine ⟨((AL.get fa42 ((RS.modules sa41)[m_k483]'(by omega))).getD []).length - (j_517 + 1), by first | omega | (simp only [List.length_append, List.length_cons, List.length_nil]; omega), ?_⟩
                  exact ⟨_, (j_517 + 1), false, (upd_of (upd_of (upd_of (upd_of (upd_of (upd_of (upd_of (upd_of (upd_of (upd_of (upd_of (upd_of (upd_of (upd_of (upd_of (upd_of (upd_of (upd_of (upd_of (upd_of (upd_of (upd_of (upd_of (upd_of (upd_of (upd_of (upd_of (upd_of (upd_of (upd_of (upd_of (upd_of (upd_of (upd_of rfl rfl) rfl) rfl) rfl) rfl) rfl) rfl) rfl) rfl) rfl) rfl) rfl) rfl) rfl) rfl) rfl) rfl) rfl) rfl) rfl) rfl) rfl) rfl) rfl) rfl) rfl) rfl) rfl) rfl) rfl) rfl) rfl) rfl) rfl), hmk510, ((((hst539.front 3 rfl rfl).front 3 rfl rfl).front 3 rfl rfl).keepN 3 rfl), (by omega), (by rw [any_step (by omega) hf515]; simp [usesF, c540, c541]), rfl⟩
            · skip
              have q544 := of_decide_eq_false c520
              refine W_cond_false (by show Value.bool _ = _; exact congrArg Value.bool c520) ?_
              refine W_exit ?_
              refine W_seq ?_
              have hU545 := any_end (by omega) hf515
              refine W_region_lit ?_
              refine L_val (v := (.bool u_518)) (w' := w512) rfl rfl rfl rfl ?_
              refine L_val (v := (.bool u_518)) (w' := w512) rfl rfl rfl rfl ?_
              rcases Bool.eq_false_or_eq_true u_518 with c546 | c546
              · skip
                refine L_guard rfl rfl rfl rfl c546 ?_
                refine L_val (v := (ptr p17 0)) (w' := w512) rfl rfl rfl rfl ?_
                refine L_guard rfl rfl rfl rfl c546 ?_
                refine L_val (v := (.int .i64 ((RS.modules sa41)[m_k483]'(by omega)))) (w' := w512) rfl rfl rfl rfl ?_
                refine L_guard rfl rfl rfl rfl c546 ?_
                refine L_callG hst511 (v := (.bool (holds sa41.vers sa41.mods ((RS.modules sa41)[m_k483]'(by omega))))) rfl rfl rfl (x_call (vs := #[(ptr p17 0), (.int .i64 ((RS.modules sa41)[m_k483]'(by omega)))]) rfl rfl (by kernel_rfl) ent_15) (Holds_reg (w := w512) ((RS.modules sa41)[m_k483]'(by omega)) hm470 hst511.rle' (hst511.get (i := 0) rfl)) (fun w547 hst548 => ?_)
                refine L_val (v := (.bool (holds sa41.vers sa41.mods ((RS.modules sa41)[m_k483]'(by omega))))) (w' := w547) rfl rfl rfl (x_pick rfl rfl (by rw [c546]; rfl)) ?_
                refine L_val (v := (.bool (holds sa41.vers sa41.mods ((RS.modules sa41)[m_k483]'(by omega))))) (w' := w547) rfl rfl rfl rfl ?_
                rcases Bool.eq_false_or_eq_true (holds sa41.vers sa41.mods ((RS.modules sa41)[m_k483]'(by omega))) with c549 | c549
                · skip
                  refine L_guard rfl rfl rfl rfl c549 ?_
                  refine L_val (v := (ptr p17 0)) (w' := w547) rfl rfl rfl rfl ?_
                  refine L_guard rfl rfl rfl rfl c549 ?_
                  refine L_val (v := (.int .i64 kind)) (w' := w547) rfl rfl rfl rfl ?_
                  refine L_guard rfl rfl rfl rfl c549 ?_
                  refine L_val (v := (.int .i64 n)) (w' := w547) rfl rfl rfl rfl ?_
                  refine L_guard rfl rfl rfl rfl c549 ?_
                  refine L_callG hst548 (v := (.int .i64 (ver sa41.vers (kind, n)))) rfl rfl rfl (x_call (vs := #[(ptr p17 0), (.int .i64 kind), (.int .i64 n)]) rfl rfl (by kernel_rfl) ent_16) (Version_reg (w := w547) kind n hm470 (hst548.get (i := 0) rfl)) (fun w550 hst551 => ?_)
                  refine L_guard rfl rfl rfl rfl c549 ?_
                  refine L_val (v := (.bool (decide (ver sa41.vers (kind, n) ≥ 0)))) (w' := w550) rfl rfl rfl (by kernel_rfl) ?_
                  refine L_val (v := (.bool (decide (ver sa41.vers (kind, n) ≥ 0)))) (w' := w550) rfl rfl rfl (x_pick rfl rfl (by rw [c549]; rfl)) ?_
                  refine L_nil ?_
                  rcases Bool.eq_false_or_eq_true (decide (ver sa41.vers (kind, n) ≥ 0)) with c552 | c552
                  · skip
                    have q553 := of_decide_eq_true c552
                    refine W_cond_true (by show Value.bool _ = _; exact congrArg Value.bool c552) ?_
                    have hfl := filt_len (wants sa41 fa42 kind n) (RS.modules sa41) m_k483
                    refine W_region_lit ?_
                    refine L_val (v := vo484) (w' := w550) rfl rfl rfl rfl ?_
                    refine L_val (v := (.int .i64 ((RS.modules sa41)[m_k483]'(by omega)))) (w' := w550) rfl rfl rfl rfl ?_
                    refine L_new hst551 (v := fun b => .slice (some ⟨b, 0, none⟩) 1 1) (ob := .cells #[(.int .i64 ((RS.modules sa41)[m_k483]'(by omega)))] 3 (0, 0)) rfl rfl rfl (by kernel_rfl) (fun b554 w555 hst556 => ?_)
                    refine L_append hst556 (t := 31) (e := 3) (ys := [((RS.modules sa41)[m_k483]'(by omega))]) (src := [(.int .i64 ((RS.modules sa41)[m_k483]'(by omega)))]) 3 rfl rfl rfl rfl rfl rfl sl_31 ti_3 rfl rfl rfl hi480 (src_own (hst556.blk (i := 0) rfl)) (int_mk _ _) rfl (by first | omega | (simp only [List.length_append, List.length_cons, List.length_nil]; omega)) (by first | (simp only [maxLen]; omega) | (simp only [List.length_append, List.length_cons, List.length_nil, maxLen]; omega)) (fun v557 c558 w559 ho560 hst561 => ?_)
                    refine L_val (v := v557) (w' := w559) rfl rfl rfl rfl ?_
                    refine L_nil ?_
                    refine W_region_lit ?_
                    refine L_val (v := (.int .i64 ((m_k483 + 1 : Nat) : Int))) (w' := w559) rfl rfl rfl (x_add_nat rfl rfl rfl (by omega)) ?_
                    refine L_val (v := (.int .i64 ((m_k483 + 1 : Nat) : Int))) (w' := w559) rfl rfl rfl rfl ?_
                    refine L_nil ?_
                    refine ⟨(RS.modules sa41).length - (m_k483 + 1), by first | omega | (simp only [List.length_append, List.length_cons, List.length_nil]; omega), ?_⟩
                    exact ⟨_, (m_k483 + 1), v557, c558, (upd_of (upd_of (upd_of (upd_of (upd_of (upd_of (upd_of (upd_of (upd_of (upd_of (upd_of (upd_of (upd_of (upd_of (upd_of (upd_of (upd_of (upd_of (upd_of (upd_of (upd_of (upd_of (upd_of (upd_of rfl rfl) rfl) rfl) rfl) rfl) rfl) rfl) rfl) rfl) rfl) rfl) rfl) rfl) rfl) rfl) rfl) rfl) rfl) rfl) rfl) rfl) rfl) rfl) rfl), hmk510, (((hst561.front 3 rfl rfl).front 3 rfl rfl).keepN 3 rfl), (by rw [filt_yes (P := (wants sa41 fa42 kind n)) (l := RS.modules sa41) (k := m_k483) (by omega) (by simp only [wants]; simp [hU545.symm, c546, c549, c552])]; exact ho560), (by omega), rfl⟩
                  · skip
                    have q562 := of_decide_eq_false c552
                    refine W_cond_false (by show Value.bool _ = _; exact congrArg Value.bool c552) ?_
                    refine W_skip ?_
                    refine W_region_lit ?_
                    refine L_val (v := (.int .i64 ((m_k483 + 1 : Nat) : Int))) (w' := w550) rfl rfl rfl (x_add_nat rfl rfl rfl (by omega)) ?_
                    refine L_val (v := (.int .i64 ((m_k483 + 1 : Nat) : Int))) (w' := w550) rfl rfl rfl rfl ?_
                    refine L_nil ?_
                    refine ⟨(RS.modules sa41).length - (m_k483 + 1), by first | omega | (simp only [List.length_append, List.length_cons, List.length_nil]; omega), ?_⟩
                    exact ⟨_, (m_k483 + 1), vo484, co485, (upd_of (upd_of (upd_of (upd_of (upd_of (upd_of (upd_of (upd_of (upd_of (upd_of (upd_of (upd_of (upd_of (upd_of (upd_of (upd_of (upd_of (upd_of (upd_of (upd_of (upd_of (upd_of (upd_of (upd_of rfl rfl) rfl) rfl) rfl) rfl) rfl) rfl) rfl) rfl) rfl) rfl) rfl) rfl) rfl) rfl) rfl) rfl) rfl) rfl) rfl) rfl) rfl) rfl) rfl), hmk510, (((hst551.front 2 rfl rfl).front 2 rfl rfl).front 2 rfl rfl), (by rw [filt_no (P := (wants sa41 fa42 kind n)) (l := RS.modules sa41) (k := m_k483) (by omega) (by simp only [wants]; simp [hU545.symm, c546, c549, c552])]; exact hi480), (by omega), rfl⟩
                · skip
                  refine L_unwanted rfl rfl rfl rfl (by rw [c549]; rfl) rfl rfl ?_
                  refine L_unwanted rfl rfl rfl rfl (by rw [c549]; rfl) rfl rfl ?_
                  refine L_unwanted rfl rfl rfl rfl (by rw [c549]; rfl) rfl rfl ?_
                  refine L_unwanted rfl rfl rfl rfl (by rw [c549]; rfl) rfl rfl ?_
                  refine L_unwanted rfl rfl rfl rfl (by rw [c549]; rfl) rfl rfl ?_
                  refine L_val (v := (.bool false)) (w' := w547) rfl rfl rfl (x_pick rfl rfl (by rw [c549]; rfl)) ?_
                  refine L_nil ?_
                  refine W_cond_false (by show Value.bool _ = _; exact congrArg Value.bool rfl) ?_
                  refine W_skip ?_
                  refine W_region_lit ?_
                  refine L_val (v := (.int .i64 ((m_k483 + 1 : Nat) : Int))) (w' := w547) rfl rfl rfl (x_add_nat rfl rfl rfl (by omega)) ?_
                  refine L_val (v := (.int .i64 ((m_k483 + 1 : Nat) : Int))) (w' := w547) rfl rfl rfl rfl ?_
                  refine L_nil ?_
                  refine ⟨(RS.modules sa41).length - (m_k483 + 1), by first | omega | (simp only [List.length_append, List.length_cons, List.length_nil]; omega), ?_⟩
                  exact ⟨_, (m_k483 + 1), vo484, co485, (upd_of (upd_of (upd_of (upd_of (upd_of (upd_of (upd_of (upd_of (upd_of (upd_of (upd_of (upd_of (upd_of (upd_of (upd_of (upd_of (upd_of (upd_of (upd_of (upd_of (upd_of (upd_of (upd_of (upd_of rfl rfl) rfl) rfl) rfl) rfl) rfl) rfl) rfl) rfl) rfl) rfl) rfl) rfl) rfl) rfl) rfl) rfl) rfl) rfl) rfl) rfl) rfl) rfl) rfl), hmk510, (((hst548.front 2 rfl rfl).front 2 rfl rfl).front 2 rfl rfl), (by rw [filt_no (P := (wants sa41 fa42 kind n)) (l := RS.modules sa41) (k := m_k483) (by omega) (by simp only [wants]; simp [hU545.symm, c546, c549])]; exact hi480), (by omega), rfl⟩
              · skip
                refine L_unwanted rfl rfl rfl rfl (by rw [c546]; rfl) rfl rfl ?_
                refine L_unwanted rfl rfl rfl rfl (by rw [c546]; rfl) rfl rfl ?_
                refine L_unwanted rfl rfl rfl rfl (by rw [c546]; rfl) rfl rfl ?_
                refine L_val (v := (.bool false)) (w' := w512) rfl rfl rfl (x_pick rfl rfl (by rw [c546]; rfl)) ?_
                refine L_val (v := (.bool false)) (w' := w512) rfl rfl rfl rfl ?_
                refine L_unwanted rfl rfl rfl rfl rfl rfl rfl ?_
                refine L_unwanted rfl rfl rfl rfl rfl rfl rfl ?_
                refine L_unwanted rfl rfl rfl rfl rfl rfl rfl ?_
                refine L_unwanted rfl rfl rfl rfl rfl rfl rfl ?_
                refine L_unwanted rfl rfl rfl rfl rfl rfl rfl ?_
                refine L_val (v := (.bool false)) (w' := w512) rfl rfl rfl rfl ?_
                refine L_nil ?_
                refine W_cond_false (by show Value.bool _ = _; exact congrArg Value.bool rfl) ?_
                refine W_skip ?_
                refine W_region_lit ?_
                refine L_val (v := (.int .i64 ((m_k483 + 1 : Nat) : Int))) (w' := w512) rfl rfl rfl (x_add_nat rfl rfl rfl (by omega)) ?_
                refine L_val (v := (.int .i64 ((m_k483 + 1 : Nat) : Int))) (w' := w512) rfl rfl rfl rfl ?_
                refine L_nil ?_
                refine ⟨(RS.modules sa41).length - (m_k483 + 1), by first | omega | (simp only [List.length_append, List.length_cons, List.length_nil]; omega), ?_⟩
                exact ⟨_, (m_k483 + 1), vo484, co485, (upd_of (upd_of (upd_of (upd_of (upd_of (upd_of (upd_of (upd_of (upd_of (upd_of (upd_of (upd_of (upd_of (upd_of (upd_of (upd_of (upd_of (upd_of (upd_of (upd_of (upd_of (upd_of (upd_of (upd_of rfl rfl) rfl) rfl) rfl) rfl) rfl) rfl) rfl) rfl) rfl) rfl) rfl) rfl) rfl) rfl) rfl) rfl) rfl) rfl) rfl) rfl) rfl) rfl) rfl), hmk510, (((hst511.front 2 rfl rfl).front 2 rfl rfl).front 2 rfl rfl), (by rw [filt_no (P := (wants sa41 fa42 kind n)) (l := RS.modules sa41) (k := m_k483) (by omega) (by simp only [wants]; simp [hU545.symm, c546])]; exact hi480), (by omega), rfl⟩
        · skip
          have q563 := of_decide_eq_false c487
          refine W_cond_false (by show Value.bool _ = _; exact congrArg Value.bool c487) ?_
          refine W_exit ?_
          refine W_seq ?_
          refine W_seq ?_
          have ho564 := hi480
          rw [List.take_of_length_le (by omega), ← BI.want hf34 kind n] at ho564
          have hbl := bumpL_len sa41 kind n (by omega)
          refine W_region_lit ?_
          refine L_val (v := (ptr p17 0)) (w' := w478) rfl rfl rfl rfl ?_
          refine L_val (v := (.int .i64 kind)) (w' := w478) rfl rfl rfl rfl ?_
          refine L_val (v := (.int .i64 n)) (w' := w478) rfl rfl rfl rfl ?_
          have hst565 := hst477
          refine L_callS [cA43] [cF44, co485] hst565 rfl rfl rfl (x_call (vs := #[(ptr p17 0), (.int .i64 kind), (.int .i64 n)]) rfl rfl (by kernel_rfl) ent_14) (Bump_spec kind n (hst565.sats.take 1 rfl) hm470 (by omega) (by omega)) (fun v566 w567 R568 L569 hp570 hle571 hst572 => ?_)
          have hm573 := vS.lift hm471 hle571
          have hm574 := OwnL.mono ho564 hle571
          obtain ⟨c575, co576, rfl, hreg577, ho578⟩ := hp570
          have hreg579 : Reg R568 p17 (RS.bump sa41 kind n) c575 := hreg577
          refine L_val (v := vo484) (w' := w567) rfl rfl rfl rfl ?_
          refine L_callG hst572 (v := (.bool (decide (((RS.bumpL sa41 kind n) : List Int) = (RS.bumpL sa41 kind n))))) rfl rfl rfl (x_call (vs := #[v566, vo484]) rfl rfl (by kernel_rfl) ent_12) (EqualI_spec (w := w567) (R := hp w567) (v1 := v566) (v2 := vo484) (xs := (RS.bumpL sa41 kind n)) (ys := (RS.bumpL sa41 kind n)) (Le.refl _) (OwnL.freeze ho578 hst572.rle' (hst572.get (i := 1) rfl)) (OwnL.freeze hm574 hst572.rle' (hst572.get (i := 3) rfl)) hbl) (fun w580 hst581 => ?_)
          refine L_val (v := (.bool (!(decide (((RS.bumpL sa41 kind n) : List Int) = (RS.bumpL sa41 kind n)))))) (w' := w580) rfl rfl rfl rfl ?_
          refine L_nil ?_
          have c582 : (decide (((RS.bumpL sa41 kind n) : List Int) = (RS.bumpL sa41 kind n))) = true := decide_eq_true rfl
          refine W_cond_false (by show Value.bool _ = _; exact congrArg Value.bool (by rw [c582]; rfl)) ?_
          refine W_skip ?_
          refine W_seq ?_
          refine W_seq ?_
          obtain ⟨R583, hst584, hle585, hc586⟩ := Step.frz (hst581.front 3 rfl rfl)
          have hm587 := Reg.lift hreg579 hle585
          have hm588 := OwnL.mono ho578 hle585
          have hm589 := vS.lift hm573 hle585
          have hrd590 := OwnL.freeze (OwnL.reint (R' := R583) hm574) (Le.refl _) hc586
          have hAf0 := After.first hf34 hf37 kind n
          have hc0 := RS.bump_cnt sa41 kind n
          refine W_region_lit ?_
          refine L_val (v := (.int .i64 0)) (w' := w580) rfl rfl rfl rfl ?_
          refine L_nil ?_
          refine W_block ?_
          refine W_loop (I := fun σ w_ m_ => ∃ (σ0 : Fr) (R_ : Hp) (r_ : Nat) (si : RS) (cA : Hp) (cF : Hp), σ = upd (upd (upd (upd (upd (upd (upd (upd (upd (upd (upd (upd (upd (upd (upd (upd (upd (upd (upd (upd (upd (upd (upd (upd (upd (upd (upd (upd (upd (upd (upd (upd σ0 0 (.slice a46 acts.length cap47)) 1 (.int .i64 kind)) 2 (.int .i64 n)) 7 (.bool true)) 8 (ptr p17 0)) 9 (.map (some b21))) 10 (.int .i64 (k_40 : Int))) 12 vo484) 20 (.bool true)) 21 (ptr p17 0)) 22 (ptr p17 0)) 23 (.bool false)) 24 (.map (some b21))) 25 (.int .i64 (k_40 : Int))) 26 (.slice a46 acts.length cap47)) 27 (.int .i64 (acts.length : Int))) 28 (.bool (decide ((k_40 : Int) < (acts.length : Int))))) 29 (.bool (decide ((k_40 : Int) < (acts.length : Int))))) 32 (.bool false)) 86 (ptr p17 0)) 87 (.slice a472 ((RS.modules sa41).length) cap473)) 88 (.int .i64 (((RS.modules sa41).length : Nat) : Int))) 89 (.int .i64 (m_k483 : Int))) 90 (.bool (decide ((m_k483 : Int) < (((RS.modules sa41).length : Nat) : Int))))) 133 (ptr p17 0)) 134 (.int .i64 kind)) 135 (.int .i64 n)) 136 v566) 137 vo484) 138 (.bool (decide (((RS.bumpL sa41 kind n) : List Int) = (RS.bumpL sa41 kind n))))) 139 (.bool (!(decide (((RS.bumpL sa41 kind n) : List Int) = (RS.bumpL sa41 kind n)))))) 140 (.int .i64 (r_ : Int)) ∧ mks (σ0 0) = [] ∧ Step w R [] w_ R_ [cA, cF] ∧ Le R583 R_ ∧ Reg R_ p17 si cA ∧ MapC (Value.int .i64) (vS R_) (some b21) fa42 cF ∧ r_ ≤ 3 ∧ After kind n sa41 fa42 si ∧ si.cnt ≤ 31 + r_ ∧ m_ = 3 - r_) (m := 3 - 0) ?_ ?_
          · skip
            exact ⟨_, _, 0, (RS.bump sa41 kind n), c575, cF44, (upd_of (upd_of (upd_of (upd_of (upd_of (upd_of (upd_of (upd_of (upd_of (upd_of (upd_of (upd_of (upd_of (upd_of (upd_of (upd_of (upd_of (upd_of (upd_of (upd_of (upd_of (upd_of (upd_of (upd_of (upd_of (upd_of (upd_of (upd_of (upd_of (upd_of (upd_of (upd_of rfl rfl) rfl) rfl) rfl) rfl) rfl) rfl) rfl) rfl) rfl) rfl) rfl) rfl) rfl) rfl) rfl) rfl) rfl) rfl) rfl) rfl) rfl) rfl) rfl) rfl) rfl) rfl) rfl) rfl) rfl) rfl) rfl), hmk476, (((hst584.front 2 rfl rfl).front 1 rfl rfl).keepN 2 rfl), Le.refl _, hm587, hm589, (by omega), hAf0, (by omega), rfl⟩
          · skip
            rintro m606 σ_ w593 ⟨s600, R601, r_602, si603, cA604, cF605, rfl, hmk591, hst592, hle594, hi595, hi596, hf597, hf598, hf599, rfl⟩
            have hml_si603 : si603.mods.length ≤ 30 := by rw [hf598.mods]; omega
            have hmm_si603 := RS.modules_len si603
            refine W_seq ?_
            refine W_region_lit ?_
            refine L_val (v := (.bool (decide ((r_602 : Int) < 3)))) (w' := w593) rfl rfl rfl (by kernel_rfl) ?_
            refine L_nil ?_
            refine W_seq ?_
            rcases Bool.eq_false_or_eq_true (decide ((r_602 : Int) < 3)) with c607 | c607
            · skip
              have q608 := of_decide_eq_true c607
              refine W_cond_true (by show Value.bool _ = _; exact congrArg Value.bool c607) ?_
              refine W_skip ?_
              refine W_seq ?_
              refine W_block ?_
              refine W_seq ?_
              refine W_seq ?_
              refine W_region_lit ?_
              refine L_val (v := vo484) (w' := w593) rfl rfl rfl rfl ?_
              obtain ⟨a609, cap610, e611, hc612⟩ := hrd590.shape
              subst e611
              refine L_val (v := (.int .i64 (((RS.bumpL sa41 kind n).length : Nat) : Int))) (w' := w593) rfl rfl rfl (x_len_slice rfl sl_31 rfl) ?_
              refine L_val (v := (.int .i64 0)) (w' := w593) rfl rfl rfl rfl ?_
              refine L_nil ?_
              refine W_block ?_
              refine W_loop (I := fun σ w_ m_ => ∃ (σ0 : Fr) (R_ : Hp) (j_ : Nat) (cA : Hp) (cF : Hp), σ = upd (upd (upd (upd (upd (upd (upd (upd (upd (upd (upd (upd (upd (upd (upd (upd (upd (upd (upd (upd (upd (upd (upd (upd (upd (upd (upd (upd (upd (upd (upd (upd (upd (upd (upd (upd σ0 0 (.slice a46 acts.length cap47)) 1 (.int .i64 kind)) 2 (.int .i64 n)) 7 (.bool true)) 8 (ptr p17 0)) 9 (.map (some b21))) 10 (.int .i64 (k_40 : Int))) 12 (.slice a609 ((RS.bumpL sa41 kind n).length) cap610)) 20 (.bool true)) 21 (ptr p17 0)) 22 (ptr p17 0)) 23 (.bool false)) 24 (.map (some b21))) 25 (.int .i64 (k_40 : Int))) 26 (.slice a46 acts.length cap47)) 27 (.int .i64 (acts.length : Int))) 28 (.bool (decide ((k_40 : Int) < (acts.length : Int))))) 29 (.bool (decide ((k_40 : Int) < (acts.length : Int))))) 32 (.bool false)) 86 (ptr p17 0)) 87 (.slice a472 ((RS.modules sa41).length) cap473)) 88 (.int .i64 (((RS.modules sa41).length : Nat) : Int))) 89 (.int .i64 (m_k483 : Int))) 90 (.bool (decide ((m_k483 : Int) < (((RS.modules sa41).length : Nat) : Int))))) 133 (ptr p17 0)) 134 (.int .i64 kind)) 135 (.int .i64 n)) 136 v566) 137 (.slice a609 ((RS.bumpL sa41 kind n).length) cap610)) 138 (.bool (decide (((RS.bumpL sa41 kind n) : List Int) = (RS.bumpL sa41 kind n))))) 139 (.bool (!(decide (((RS.bumpL sa41 kind n) : List Int) = (RS.bumpL sa41 kind n)))))) 140 (.int .i64 (r_602 : Int))) 141 (.bool (decide ((r_602 : Int) < 3)))) 142 (.slice a609 ((RS.bumpL sa41 kind n).length) cap610)) 143 (.int .i64 (((RS.bumpL sa41 kind n).length : Nat) : Int))) 144 (.int .i64 (j_ : Int)) ∧ mks (σ0 0) = [] ∧ Step w R [] w_ R_ [cA, cF] ∧ Le R601 R_ ∧ Reg R_ p17 si603 cA ∧ MapC (Value.int .i64) (vS R_) (some b21) fa42 cF ∧ j_ ≤ (RS.bumpL sa41 kind n).length ∧ m_ = (RS.bumpL sa41 kind n).length - j_) (m := (RS.bumpL sa41 kind n).length - 0) ?_ ?_
              · skip
                exact ⟨_, _, 0, cA604, cF605, (upd_of (upd_of (upd_of (upd_of (upd_of (upd_of (upd_of (upd_of (upd_of (upd_of (upd_of (upd_of (upd_of (upd_of (upd_of (upd_of (upd_of (upd_of (upd_of (upd_of (upd_of (upd_of (upd_of (upd_of (upd_of (upd_of (upd_of (upd_of (upd_of (upd_of (upd_of (upd_of (upd_of (upd_of (upd_of (upd_of rfl rfl) rfl) rfl) rfl) rfl) rfl) rfl) rfl) rfl) rfl) rfl) rfl) rfl) rfl) rfl) rfl) rfl) rfl) rfl) rfl) rfl) rfl) rfl) rfl) rfl) rfl) rfl) rfl) rfl) rfl) rfl) rfl) rfl) rfl) rfl) rfl), hmk591, ((hst592.front 1 rfl rfl).front 1 rfl rfl), Le.refl _, hi595, hi596, (by omega), rfl⟩
              · skip
                rintro m625 σ_ w615 ⟨s620, R621, j_622, cA623, cF624, rfl, hmk613, hst614, hle616, hi617, hi618, hf619, rfl⟩
                refine W_seq ?_
                refine W_region_lit ?_
                refine L_val (v := (.bool (decide ((j_622 : Int) < (((RS.bumpL sa41 kind n).length : Nat) : Int))))) (w' := w615) rfl rfl rfl (by kernel_rfl) ?_
                refine L_nil ?_
                refine W_seq ?_
                rcases Bool.eq_false_or_eq_true (decide ((j_622 : Int) < (((RS.bumpL sa41 kind n).length : Nat) : Int))) with c626 | c626
                · skip
                  have q627 := of_decide_eq_true c626
                  refine W_cond_true (by show Value.bool _ = _; exact congrArg Value.bool c626) ?_
                  refine W_skip ?_
                  refine W_seq ?_
                  refine W_block ?_
                  refine W_seq ?_
                  refine W_region_lit ?_
                  obtain ⟨b628, off629, cap630, cs631, T632, fz633, e634, hc635, hb636, he637⟩ := hrd590.open (by omega)
                  cases e634
                  obtain ⟨cl638, hs639, hr640⟩ := he637.at j_622 (by omega)
                  have hx641 : cl638 = [.int .i64 ((RS.bumpL sa41 kind n)[j_622]'(by omega))] := hr640
                  subst hx641
                  refine L_val (v := (ptr b628 (off629 + j_622 * 1))) (w' := w615) rfl rfl rfl (x_indexAddr' rfl sl_31 ti_3 rfl rfl (by omega)) ?_
                  refine L_val (v := (.int .i64 ((RS.bumpL sa41 kind n)[j_622]'(by omega)))) (w' := w615) rfl rfl rfl (x_load rfl rfl (run_loadVar_one ti_3 ((Le.trans hle594 (Le.trans hle616 hst614.rle')) _ _ hb636) (seg_get (j := 0) hs639 rfl))) ?_
                  refine L_val (v := (.int .i64 ((RS.bumpL sa41 kind n)[j_622]'(by omega)))) (w' := w615) rfl rfl rfl rfl ?_
                  refine L_nil ?_
                  refine W_seq ?_
                  refine W_region_lit ?_
                  refine L_val (v := (ptr p17 0)) (w' := w615) rfl rfl rfl rfl ?_
                  refine L_val (v := (.int .i64 ((RS.bumpL sa41 kind n)[j_622]'(by omega)))) (w' := w615) rfl rfl rfl rfl ?_
                  refine L_callG hst614 (v := (.bool (holds si603.vers si603.mods ((RS.bumpL sa41 kind n)[j_622]'(by omega))))) rfl rfl rfl (x_call (vs := #[(ptr p17 0), (.int .i64 ((RS.bumpL sa41 kind n)[j_622]'(by omega)))]) rfl rfl (by kernel_rfl) ent_15) (Holds_reg (w := w615) ((RS.bumpL sa41 kind n)[j_622]'(by omega)) hi617 hst614.rle' (hst614.get (i := 0) rfl)) (fun w642 hst643 => ?_)
                  refine L_val (v := (.bool (holds si603.vers si603.mods ((RS.bumpL sa41 kind n)[j_622]'(by omega))))) (w' := w642) rfl rfl rfl rfl ?_
                  have c644 : (holds si603.vers si603.mods ((RS.bumpL sa41 kind n)[j_622]'(by omega))) = false := After.gone hf598 (List.getElem_mem _)
                  refine L_guard rfl rfl rfl rfl c644 ?_
                  refine L_val (v := (ptr p17 0)) (w' := w642) rfl rfl rfl rfl ?_
                  refine L_guard rfl rfl rfl rfl c644 ?_
                  refine L_call rfl rfl rfl (x_call (vs := #[(ptr p17 0)]) rfl rfl (by kernel_rfl) ent_13) (Modules_reg hi617 (hst643.get (i := 0) rfl) hf598.ne (by omega)) ?_
                  rintro e645 w646 ⟨v647, R648, L649, rfl, hst650, c651, rfl, ho652⟩
                  refine ⟨_, rfl, ?_⟩
                  have hst653 := Step.gain hst643 hst650
                  obtain ⟨R654, hst655, hle656, hc657⟩ := Step.frz hst653
                  have hm659 := Reg.lift hi617 hle656
                  have hm660 := vS.lift hi618 hle656
                  have hrd658 := OwnL.freeze (OwnL.reint (R' := R654) ho652) (Le.refl _) hc657
                  refine L_guard rfl rfl rfl rfl c644 ?_
                  refine L_val (v := (.int .i64 ((RS.bumpL sa41 kind n)[j_622]'(by omega)))) (w' := w646) rfl rfl rfl rfl ?_
                  refine L_guard rfl rfl rfl rfl c644 ?_
                  obtain ⟨a661, cap662, e663, hc664⟩ := hrd658.shape
                  subst e663
                  refine L_callG hst655 (v := (.bool (List.any (RS.modules si603) (fun y => decide (y = ((RS.bumpL sa41 kind n)[j_622]'(by omega))))))) rfl rfl rfl (x_call (vs := #[(.slice a661 ((RS.modules si603).length) cap662), (.int .i64 ((RS.bumpL sa41 kind n)[j_622]'(by omega)))]) rfl rfl (by kernel_rfl) ent_25) (Contains_spec (v := (.slice a661 ((RS.modules si603).length) cap662)) (xs := (RS.modules si603)) ((RS.bumpL sa41 kind n)[j_622]'(by omega)) (Le.refl _) (RdS.mono hrd658 hst655.rle') (by omega)) (fun w665 hst666 => ?_)
                  refine L_guard rfl rfl rfl rfl c644 ?_
                  refine L_val (v := (.bool (!(List.any (RS.modules si603) (fun y => decide (y = ((RS.bumpL sa41 kind n)[j_622]'(by omega)))))))) (w' := w665) rfl rfl rfl rfl ?_
                  refine L_val (v := (.bool (!(List.any (RS.modules si603) (fun y => decide (y = ((RS.bumpL sa41 kind n)[j_622]'(by omega)))))))) (w' := w665) rfl rfl rfl (x_pick rfl rfl (by rw [c644]; rfl)) ?_
                  refine L_nil ?_
                  have c667 : (List.any (RS.modules si603) (fun y => decide (y = ((RS.bumpL sa41 kind n)[j_622]'(by omega))))) = true := List.any_eq_true.2 ⟨_, After.there hf598 (List.getElem_mem _), decide_eq_true rfl⟩
                  refine W_cond_false (by show Value.bool _ = _; exact congrArg Value.bool (by rw [c667]; rfl)) ?_
                  refine W_skip ?_
                  refine W_region_lit ?_
                  refine L_val (v := (.int .i64 ((j_622 + 1 : Nat) : Int))) (w' := w665) rfl rfl rfl (x_add_nat rfl rfl rfl (by omega)) ?_
                  refine L_val (v := (.int .i64 ((j_622 + 1 : Nat) : Int))) (w' := w665) rfl rfl rfl rfl ?_
                  refine L_nil ?_
                  refine ⟨(RS.bumpL sa41 kind n).length - (j_622 + 1), by first | omega | (simp only [List.length_append, List.length_cons, List.length_nil]; omega), ?_⟩
                  exact ⟨_, _, (j_622 + 1), cA623, cF624, (upd_of (upd_of (upd_of (upd_of (upd_of (upd_of (upd_of (upd_of (upd_of (upd_of (upd_of (upd_of (upd_of (upd_of (upd_of (upd_of (upd_of (upd_of (upd_of (upd_of (upd_of (upd_of (upd_of (upd_of (upd_of (upd_of (upd_of (upd_of (upd_of (upd_of (upd_of (upd_of (upd_of (upd_of (upd_of (upd_of rfl rfl) rfl) rfl) rfl) rfl) rfl) rfl) rfl) rfl) rfl) rfl) rfl) rfl) rfl) rfl) rfl) rfl) rfl) rfl) rfl) rfl) rfl) rfl) rfl) rfl) rfl) rfl) rfl) rfl) rfl) rfl) rfl) rfl) rfl) rfl) rfl), hmk613, ((hst666.front 1 rfl rfl).front 1 rfl rfl), (Le.trans hle616 hle656), hm659, hm660, (by omega), rfl⟩
                · skip
                  have q668 := of_decide_eq_false c626
                  refine W_cond_false (by show Value.bool _ = _; exact congrArg Value.bool c626) ?_
                  refine W_exit ?_
                  refine W_seq ?_
                  refine W_region_lit ?_
                  refine L_val (v := (ptr p17 0)) (w' := w615) rfl rfl rfl rfl ?_
                  refine L_val (v := (.int .i64 kind)) (w' := w615) rfl rfl rfl rfl ?_
                  refine L_val (v := (.int .i64 n)) (w' := w615) rfl rfl rfl rfl ?_
                  have hst669 := hst614
                  refine L_callS [cA623] [cF624] hst669 rfl rfl rfl (x_call (vs := #[(ptr p17 0), (.int .i64 kind), (.int .i64 n)]) rfl rfl (by kernel_rfl) ent_14) (Bump_spec kind n (hst669.sats.take 1 rfl) hi617 (by omega) (by omega)) (fun v670 w671 R672 L673 hp674 hle675 hst676 => ?_)
                  have hm677 := vS.lift hi618 hle675
                  obtain ⟨c678, co679, rfl, hreg680, ho681⟩ := hp674
                  have hreg682 : Reg R672 p17 (RS.bump si603 kind n) c678 := hreg680
                  obtain ⟨a683, cap684, e685, hc686⟩ := ho681.value
                  subst e685
                  refine L_val (v := (.int .i64 (((RS.bumpL si603 kind n).length : Nat) : Int))) (w' := w671) rfl rfl rfl (x_len_slice rfl sl_31 rfl) ?_
                  have hq687 : ((((RS.bumpL si603 kind n).length : Nat) : Int) != 0) = false := by rw [Broken.none hf598.br]; rfl
                  refine L_val (v := .bool ((((RS.bumpL si603 kind n).length : Nat) : Int) != 0)) (w' := w671) rfl rfl rfl (by kernel_rfl) ?_
                  refine L_nil ?_
                  refine W_cond_false (by show Value.bool _ = _; exact congrArg Value.bool hq687) ?_
                  refine W_skip ?_
                  refine W_region_lit ?_
                  refine L_val (v := (.int .i64 ((r_602 + 1 : Nat) : Int))) (w' := w671) rfl rfl rfl (x_add_nat rfl rfl rfl (by omega)) ?_
                  refine L_val (v := (.int .i64 ((r_602 + 1 : Nat) : Int))) (w' := w671) rfl rfl rfl rfl ?_
                  refine L_nil ?_
                  refine ⟨3 - (r_602 + 1), by first | omega | (simp only [List.length_append, List.length_cons, List.length_nil]; omega), ?_⟩
                  exact ⟨_, _, (r_602 + 1), (RS.bump si603 kind n), c678, cF624, (upd_of (upd_of (upd_of (upd_of (upd_of (upd_of (upd_of (upd_of (upd_of (upd_of (upd_of (upd_of (upd_of (upd_of (upd_of (upd_of (upd_of (upd_of (upd_of (upd_of (upd_of (upd_of (upd_of (upd_of (upd_of (upd_of (upd_of (upd_of (upd_of (upd_of (upd_of (upd_of rfl rfl) rfl) rfl) rfl) rfl) rfl) rfl) rfl) rfl) rfl) rfl) rfl) rfl) rfl) rfl) rfl) rfl) rfl) rfl) rfl) rfl) rfl) rfl) rfl) rfl) rfl) rfl) rfl) rfl) rfl) rfl) rfl), hmk613, (((hst676.front 2 rfl rfl).front 1 rfl rfl).keepN 2 rfl), (Le.trans hle594 (Le.trans hle616 hle675)), hreg682, hm677, (by omega), (After.bump hf598), (Nat.le_trans (RS.bump_cnt _ _ _) (by omega)), rfl⟩
            · skip
              have q688 := of_decide_eq_false c607
              refine W_cond_false (by show Value.bool _ = _; exact congrArg Value.bool c607) ?_
              refine W_exit ?_
              refine W_seq ?_
              refine W_region_lit ?_
              refine L_val (v := (.bool true)) (w' := w593) rfl rfl rfl rfl ?_
              refine L_val (v := (.bool true)) (w' := w593) rfl rfl rfl rfl ?_
              refine L_guard rfl rfl rfl rfl rfl ?_
              refine L_val (v := (ptr p17 0)) (w' := w593) rfl rfl rfl rfl ?_
              refine L_guard rfl rfl rfl rfl rfl ?_
              refine L_call rfl rfl rfl (x_call (vs := #[(ptr p17 0)]) rfl rfl (by kernel_rfl) ent_13) (Modules_reg hi595 (hst592.get (i := 0) rfl) hf598.ne (by omega)) ?_
              rintro e689 w690 ⟨v691, R692, L693, rfl, hst694, c695, rfl, ho696⟩
              refine ⟨_, rfl, ?_⟩
              have hst697 := Step.gain hst592 hst694
              obtain ⟨R698, hst699, hle700, hc701⟩ := Step.frz hst697
              have hm703 := Reg.lift hi595 hle700
              have hm704 := vS.lift hi596 hle700
              have hrd702 := OwnL.freeze (OwnL.reint (R' := R698) ho696) (Le.refl _) hc701
              refine L_guard rfl rfl rfl rfl rfl ?_
              obtain ⟨a705, cap706, e707, hc708⟩ := hrd702.shape
              subst e707
              refine L_val (v := (.int .i64 (((RS.modules si603).length : Nat) : Int))) (w' := w690) rfl rfl rfl (x_len_slice rfl sl_31 rfl) ?_
              refine L_guard rfl rfl rfl rfl rfl ?_
              refine L_val (v := (.map (some b21))) (w' := w690) rfl rfl rfl rfl ?_
              refine L_guard rfl rfl rfl rfl rfl ?_
              refine L_val (v := (.int .i64 (fa42.length : Int))) (w' := w690) rfl rfl rfl (x_len_map hm704 (hst699.get (i := 1) rfl) mt_58 rfl rfl) ?_
              refine L_guard rfl rfl rfl rfl rfl ?_
              have hq709 : ((((RS.modules si603).length : Nat) : Int) == (fa42.length : Int)) = true := by rw [After.len hf598]; exact beq_self_eq_true _
              refine L_val (v := .bool ((((RS.modules si603).length : Nat) : Int) == (fa42.length : Int))) (w' := w690) rfl rfl rfl (by kernel_rfl) ?_
              refine L_val (v := (.bool ((((RS.modules si603).length : Nat) : Int) == (fa42.length : Int)))) (w' := w690) rfl rfl rfl rfl ?_
              refine L_val (v := (.bool ((((RS.modules si603).length : Nat) : Int) == (fa42.length : Int)))) (w' := w690) rfl rfl rfl rfl ?_
              refine L_nil ?_
              refine W_ret ?_
              refine ⟨_, _, res_run (rs := [.tmp 6]) (vs := [(.bool ((((RS.modules si603).length : Nat) : Int) == (fa42.length : Int)))]) Try.results8 (.cons (.tmp rfl) .nil) hmk591, ?_⟩
              exact ⟨_, _, [], rfl, hst699.keepN 0 rfl, congrArg Value.bool hq709, rfl⟩

end Go.Fx.Ytlfabjfajcbdcaa
