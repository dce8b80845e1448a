/-
  Chapter 27: AssumeErrors, printed by gen17.py.
-/
import Derived.Test.YtlfabjfajcbdcaaAs13
import Derived.Test.YtlfabjfajcbdcaaAs15
set_option linter.unusedSimpArgs false
set_option linter.unusedVariables false
namespace Go.Fx.Ytlfabjfajcbdcaa
open Go Go.Fx Go.Proofs
set_option maxRecDepth 20000

theorem mt_36 : Try.prog.underlying 36 = some (.map 23 4) := by kernel_rfl
theorem ti_23 : TI Try.prog 23 true 2 16 (.agg #[(.int .i64 0), (.int .i64 0)]) := ⟨by kernel_rfl, by kernel_rfl⟩

theorem Errors_walk {w : World} {R : Hp} {v : Value} {xs : List Fact} {md a2 q2 q3 : Int} (hs : Sats w R []) (hv : RdS tyFact R v xs) (hmax : xs.length ≤ 1048576) (hq2 : Int.tmod a2 2 = q2) (hq3 : IntKind.u8.wrap (Int.tdiv a2 2) = q3) (hq30 : 0 ≤ q3) (hq31 : q3 < 256) :
    Calls Try.prog 4 #[int md, v, .int .u8 a2] w (Comes' w R [] fun v' R' L' => v' = .bool true ∧ L' = []) := by
  have hst := Step.refl hs
  refine calls_of_W (n := 110) Try.func4 rfl Try.ntmps4 (Nat.le_of_ble_eq_true rfl) ?_
  refine W_seq ?_
  refine W_region_lit ?_
  refine L_val (v := (.bool false)) (w' := w) rfl rfl rfl rfl ?_
  refine L_nil ?_
  refine W_seq ?_
  refine W_region_lit ?_
  have hst1 := hst
  refine L_callS [] [] hst1 rfl rfl rfl (x_call (vs := #[]) rfl rfl (by kernel_rfl) ent_9) (sanity_spec (hst1.sats.take 0 rfl)) (fun v2 w3 R4 L5 hp6 hle7 hst8 => ?_)
  obtain ⟨rfl, rfl⟩ := hp6
  refine L_val (v := (.bool true)) (w' := w3) rfl rfl rfl rfl ?_
  refine L_nil ?_
  refine W_seq ?_
  refine W_region_lit ?_
  have hst9 := hst8
  refine L_callS [] [] hst9 rfl rfl rfl (x_call (vs := #[(.int .i64 3), (.int .i64 2)]) rfl rfl (by kernel_rfl) ent_10) (New_spec (f := 3) (c := 2) (hst9.sats.take 0 rfl) (by decide) (by decide)) (fun v10 w11 R12 L13 hp14 hle15 hst16 => ?_)
  obtain ⟨p17, c18, rfl, rfl, hreg19⟩ := hp14
  have hreg20 : Reg R12 p17 e0 c18 := hreg19
  refine L_val (v := (ptr p17 0)) (w' := w11) rfl rfl rfl rfl ?_
  refine L_nil ?_
  refine W_seq ?_
  refine W_seq ?_
  refine W_region_lit ?_
  refine L_val (v := (ptr p17 0)) (w' := w11) rfl rfl rfl rfl ?_
  refine L_val (v := (.bool false)) (w' := w11) rfl rfl rfl (by kernel_rfl) ?_
  refine L_val (v := (.bool false)) (w' := w11) rfl rfl rfl rfl ?_
  refine L_guard rfl rfl rfl rfl rfl ?_
  refine L_val (v := (ptr p17 0)) (w' := w11) rfl rfl rfl rfl ?_
  refine L_guard rfl rfl rfl rfl rfl ?_
  have hst21 := hst16
  refine L_callS [c18] [] hst21 rfl rfl rfl (x_call (vs := #[(ptr p17 0), (.int .i64 5), (.slice none 0 0)]) rfl rfl (by kernel_rfl) ent_11) (Add_spec 5 (RdS.empty _ _) (by simp) (hst21.sats.take 1 rfl) hreg20) (fun v22 w23 R24 L25 hp26 hle27 hst28 => ?_)
  obtain ⟨c29, hv30, rfl, hreg31⟩ := hp26
  rw [e0_add] at hv30
  subst hv30
  have hreg32 : Reg R24 p17 e1 c29 := hreg31
  refine L_guard rfl rfl rfl rfl rfl ?_
  refine L_val (v := (.bool false)) (w' := w23) rfl rfl rfl (by kernel_rfl) ?_
  refine L_val (v := (.bool false)) (w' := w23) rfl rfl rfl rfl ?_
  refine L_nil ?_
  refine W_cond_false (by show Value.bool _ = _; exact congrArg Value.bool rfl) ?_
  refine W_skip ?_
  refine W_seq ?_
  refine W_seq ?_
  refine W_region_lit ?_
  refine L_val (v := (.int .u8 a2)) (w' := w23) rfl rfl rfl rfl ?_
  refine L_val (v := (.int .u8 q2)) (w' := w23) rfl rfl rfl (x_rem8 rfl rfl rfl (by decide) hq2) ?_
  refine L_val (v := (.bool (q2 == 0))) (w' := w23) rfl rfl rfl (by kernel_rfl) ?_
  refine L_nil ?_
  rcases Bool.eq_false_or_eq_true (q2 == 0) with c33 | c33
  · skip
    have q34 := eq_of_beq c33
    refine W_cond_true (by show Value.bool _ = _; exact congrArg Value.bool c33) ?_
    refine W_region_lit ?_
    refine L_val (v := (ptr p17 0)) (w' := w23) rfl rfl rfl rfl ?_
    refine L_val (v := (.int .u8 a2)) (w' := w23) rfl rfl rfl rfl ?_
    refine L_val (v := (.int .u8 q3)) (w' := w23) rfl rfl rfl (x_quo8 rfl rfl rfl (by decide) hq3) ?_
    refine L_val (v := (.int .i64 q3)) (w' := w23) rfl rfl rfl (x_conv8' rfl rfl hq30 hq31) ?_
    refine L_val (v := (.int .i64 (Int.tmod q3 3))) (w' := w23) rfl rfl rfl (x_rem rfl rfl rfl (by omega)) ?_
    have hst35 := hst28
    refine L_callS [c29] [] hst35 rfl rfl rfl (x_call (vs := #[(ptr p17 0), (.int .i64 1), (.int .i64 (Int.tmod q3 3))]) rfl rfl (by kernel_rfl) ent_14) (Bump_spec 1 (Int.tmod q3 3) (hst35.sats.take 1 rfl) hreg32 (by rw [e1_mods]; simp) (by rw [e1_cnt]; decide)) (fun v36 w37 R38 L39 hp40 hle41 hst42 => ?_)
    obtain ⟨c43, co44, rfl, hreg45, ho46⟩ := hp40
    have hreg47 : Reg R38 p17 (RS.bump e1 1 (Int.tmod q3 3)) c43 := hreg45
    refine L_nil ?_
    refine W_seq ?_
    have h5 : RS.mods (RS.bump e1 1 (Int.tmod q3 3)) = [(5, [])] := by first | exact e1_mods | (rw [RS.bump_mods]; exact e1_mods)
    have hne : RS.vers (RS.bump e1 1 (Int.tmod q3 3)) ≠ [] := by first | exact e1_ne | exact RS.bump_ne e1_ne _ _
    refine W_region_lit ?_
    refine L_val (v := (.int .i64 0)) (w' := w37) rfl rfl rfl rfl ?_
    refine L_nil ?_
    refine W_seq ?_
    refine W_region_lit ?_
    refine L_new hst42 (v := fun b => .map (some b)) (ob := .map #[] 0) rfl rfl rfl (by kernel_rfl) (fun b48 w49 hst50 => ?_)
    have hm51 : MapC kk (vE Value.bool) (some b48) [] _ := MapC.made b48
    generalize one b48 (.map #[] 0) = c52 at hm51 hst50
    refine L_val (v := (.map (some b48))) (w' := w49) rfl rfl rfl rfl ?_
    refine L_nil ?_
    refine W_seq ?_
    refine W_seq ?_
    refine W_region_lit ?_
    refine L_val (v := v) (w' := w49) rfl rfl rfl rfl ?_
    obtain ⟨a53, cap54, e55, hc56⟩ := hv.shape
    subst e55
    refine L_val (v := (.int .i64 (xs.length : Int))) (w' := w49) rfl rfl rfl (x_len_slice rfl sl_29 rfl) ?_
    refine L_val (v := (.int .i64 0)) (w' := w49) rfl rfl rfl rfl ?_
    refine L_nil ?_
    refine W_block ?_
    refine W_loop (I := fun σ w_ m_ => ∃ (σ0 : Fr) (k_ : Nat) (seen : List (Th × Bool)) (wt : Int) (cS : Hp), σ = upd (upd (upd (upd (upd (upd (upd (upd (upd (upd (upd (upd (upd (upd (upd (upd (upd (upd (upd (upd (upd (upd (upd (upd (upd (upd (upd (upd (upd σ0 0 (.int .i64 md)) 1 (.slice a53 xs.length cap54)) 2 (.int .u8 a2)) 6 (.bool false)) 7 (.bool true)) 8 (ptr p17 0)) 9 (.int .i64 wt)) 10 (.map (some b48))) 14 (.bool true)) 15 (ptr p17 0)) 16 (ptr p17 0)) 17 (.bool false)) 18 (.bool false)) 19 (ptr p17 0)) 20 (.int .i64 0)) 21 (.bool false)) 22 (.bool false)) 23 (.int .u8 a2)) 24 (.int .u8 q2)) 25 (.bool (q2 == 0))) 26 (ptr p17 0)) 27 (.int .u8 a2)) 28 (.int .u8 q3)) 29 (.int .i64 q3)) 30 (.int .i64 (Int.tmod q3 3))) 32 (.map (some b48))) 33 (.slice a53 xs.length cap54)) 34 (.int .i64 (xs.length : Int))) 35 (.int .i64 (k_ : Int)) ∧ mks (σ0 0) = [] ∧ Step w R [] w_ R38 [c43, cS] ∧ MapC kk (vE Value.bool) (some b48) seen cS ∧ k_ ≤ xs.length ∧ wantF (RS.vers (RS.bump e1 1 (Int.tmod q3 3))) (xs.drop k_) seen wt = wantF (RS.vers (RS.bump e1 1 (Int.tmod q3 3))) xs [] 0 ∧ m_ = xs.length - k_) (m := xs.length - 0) ?_ ?_
    · skip
      exact ⟨_, 0, [], 0, c52, (upd_of (upd_of (upd_of (upd_of (upd_of (upd_of (upd_of (upd_of (upd_of (upd_of (upd_of (upd_of (upd_of (upd_of (upd_of (upd_of (upd_of (upd_of (upd_of (upd_of (upd_of (upd_of (upd_of (upd_of (upd_of (upd_of (upd_of (upd_of (upd_of rfl rfl) rfl) rfl) rfl) rfl) rfl) rfl) rfl) rfl) rfl) rfl) rfl) rfl) rfl) rfl) rfl) rfl) rfl) rfl) rfl) rfl) rfl) rfl) rfl) rfl) rfl) rfl) rfl) rfl), rfl, ((hst50.front 1 rfl rfl).keepN 2 rfl), hm51, (by omega), rfl, rfl⟩
    · skip
      rintro m69 σ_ w59 ⟨s64, k_65, seen66, wt67, cS68, rfl, hmk57, hst58, hi61, hf62, hf63, rfl⟩
      refine W_seq ?_
      refine W_region_lit ?_
      refine L_val (v := (.bool (decide ((k_65 : Int) < (xs.length : Int))))) (w' := w59) rfl rfl rfl (by kernel_rfl) ?_
      refine L_nil ?_
      refine W_seq ?_
      rcases Bool.eq_false_or_eq_true (decide ((k_65 : Int) < (xs.length : Int))) with c70 | c70
      · skip
        have q71 := of_decide_eq_true c70
        refine W_cond_true (by show Value.bool _ = _; exact congrArg Value.bool c70) ?_
        refine W_skip ?_
        refine W_seq ?_
        refine W_block ?_
        refine W_seq ?_
        refine W_region_lit ?_
        obtain ⟨b72, off73, cap74, cs75, T76, fz77, e78, hc79, hb80, he81⟩ := hv.open (by omega)
        cases e78
        obtain ⟨cl82, hs83, hr84⟩ := he81.at k_65 (by omega)
        obtain rfl := tyFact_open hr84
        refine L_val (v := (ptr b72 (off73 + k_65 * 3))) (w' := w59) rfl rfl rfl (x_indexAddr' rfl sl_29 ti_38 rfl rfl (by omega)) ?_
        refine L_val (v := (.agg #[(.int .i64 ((xs[k_65]'(by omega)).kind)), (.int .i64 ((xs[k_65]'(by omega)).n)), (.int .i64 ((xs[k_65]'(by omega)).version))])) (w' := w59) rfl rfl rfl (x_load rfl rfl (run_loadVar_agg ti_38 ((Le.trans hle7 (Le.trans hle15 (Le.trans hle27 (Le.trans hle41 hst58.rle')))) _ _ hb80) hs83 rfl)) ?_
        refine L_new hst58 (v := fun b => ptr b 0) (ob := .cells #[(.int .i64 0), (.int .i64 0), (.int .i64 0)] 38 (0, 0)) rfl rfl rfl (by kernel_rfl) (fun b85 w86 hst87 => ?_)
        refine L_store hst87 0 ti_38 rfl rfl rfl rfl rfl rfl rfl rfl rfl rfl rfl (fun w88 hst89 => ?_)
        change Step _ _ _ _ _ [one b85 (.cells #[(.int .i64 ((xs[k_65]'(by omega)).kind)), (.int .i64 ((xs[k_65]'(by omega)).n)), (.int .i64 ((xs[k_65]'(by omega)).version))] 38 (0, 0)), c43, cS68] at hst89
        refine L_nil ?_
        refine W_seq ?_
        refine W_region_lit ?_
        refine L_val (v := (ptr b85 0)) (w' := w88) rfl rfl rfl (by kernel_rfl) ?_
        refine L_val (v := (.int .i64 ((xs[k_65]'(by omega)).kind))) (w' := w88) rfl rfl rfl (x_load rfl rfl (run_loadVar_one ti_3 (hst89.blk (i := 0) rfl) rfl)) ?_
        refine L_val (v := (ptr b85 1)) (w' := w88) rfl rfl rfl (by kernel_rfl) ?_
        refine L_val (v := (.int .i64 ((xs[k_65]'(by omega)).n))) (w' := w88) rfl rfl rfl (x_load rfl rfl (run_loadVar_one ti_3 (hst89.blk (i := 0) rfl) rfl)) ?_
        refine L_val (v := (.agg #[(.int .i64 ((xs[k_65]'(by omega)).kind)), (.int .i64 ((xs[k_65]'(by omega)).n))])) (w' := w88) rfl rfl rfl (by kernel_rfl) ?_
        refine L_new hst89 (v := fun b => ptr b 0) (ob := .cells #[(.int .i64 0), (.int .i64 0)] 23 (0, 0)) rfl rfl rfl (by kernel_rfl) (fun b90 w91 hst92 => ?_)
        refine L_store hst92 0 ti_23 rfl rfl rfl rfl rfl rfl rfl rfl rfl rfl rfl (fun w93 hst94 => ?_)
        change Step _ _ _ _ _ [one b90 (.cells #[(.int .i64 ((xs[k_65]'(by omega)).kind)), (.int .i64 ((xs[k_65]'(by omega)).n))] 23 (0, 0)), one b85 (.cells #[(.int .i64 ((xs[k_65]'(by omega)).kind)), (.int .i64 ((xs[k_65]'(by omega)).n)), (.int .i64 ((xs[k_65]'(by omega)).version))] 38 (0, 0)), c43, cS68] at hst94
        refine L_nil ?_
        refine W_seq ?_
        refine W_seq ?_
        refine W_region_lit ?_
        refine L_val (v := (ptr p17 0)) (w' := w93) rfl rfl rfl rfl ?_
        refine L_val (v := (ptr b85 0)) (w' := w93) rfl rfl rfl (by kernel_rfl) ?_
        refine L_val (v := (.int .i64 ((xs[k_65]'(by omega)).kind))) (w' := w93) rfl rfl rfl (x_load rfl rfl (run_loadVar_one ti_3 (hst94.blk (i := 1) rfl) rfl)) ?_
        refine L_val (v := (ptr b85 1)) (w' := w93) rfl rfl rfl (by kernel_rfl) ?_
        refine L_val (v := (.int .i64 ((xs[k_65]'(by omega)).n))) (w' := w93) rfl rfl rfl (x_load rfl rfl (run_loadVar_one ti_3 (hst94.blk (i := 1) rfl) rfl)) ?_
        refine L_callG hst94 (v := (.int .i64 (ver (RS.bump e1 1 (Int.tmod q3 3)).vers ((xs[k_65]'(by omega)).kind, (xs[k_65]'(by omega)).n)))) rfl rfl rfl (x_call (vs := #[(ptr p17 0), (.int .i64 ((xs[k_65]'(by omega)).kind)), (.int .i64 ((xs[k_65]'(by omega)).n))]) rfl rfl (by kernel_rfl) ent_16) (Version_reg (w := w93) ((xs[k_65]'(by omega)).kind) ((xs[k_65]'(by omega)).n) hreg47 (hst94.get (i := 2) rfl)) (fun w95 hst96 => ?_)
        refine L_val (v := (.bool (decide (ver (RS.bump e1 1 (Int.tmod q3 3)).vers ((xs[k_65]'(by omega)).kind, (xs[k_65]'(by omega)).n) < 0)))) (w' := w95) rfl rfl rfl (by kernel_rfl) ?_
        refine L_val (v := (.bool (decide (ver (RS.bump e1 1 (Int.tmod q3 3)).vers ((xs[k_65]'(by omega)).kind, (xs[k_65]'(by omega)).n) < 0)))) (w' := w95) rfl rfl rfl rfl ?_
        rcases Bool.eq_false_or_eq_true (decide (ver (RS.bump e1 1 (Int.tmod q3 3)).vers ((xs[k_65]'(by omega)).kind, (xs[k_65]'(by omega)).n) < 0)) with c97 | c97
        · skip
          have q98 := of_decide_eq_true c97
          refine L_unwanted rfl rfl rfl rfl (by rw [c97]; rfl) rfl rfl ?_
          refine L_unwanted rfl rfl rfl rfl (by rw [c97]; rfl) rfl rfl ?_
          refine L_unwanted rfl rfl rfl rfl (by rw [c97]; rfl) rfl rfl ?_
          refine L_val (v := (.bool true)) (w' := w95) rfl rfl rfl (x_pick rfl rfl (by rw [c97]; rfl)) ?_
          refine L_nil ?_
          refine W_cond_true (by show Value.bool _ = _; exact congrArg Value.bool rfl) ?_
          refine W_region_lit ?_
          refine L_val (v := (.int .i64 1)) (w' := w95) rfl rfl rfl rfl ?_
          refine L_nil ?_
          refine W_region_lit ?_
          refine L_val (v := (.map (some b48))) (w' := w95) rfl rfl rfl rfl ?_
          refine L_val (v := (.agg #[(.int .i64 ((xs[k_65]'(by omega)).kind)), (.int .i64 ((xs[k_65]'(by omega)).n))])) (w' := w95) rfl rfl rfl (x_load rfl rfl (run_loadVar_agg ti_23 (hst96.blk (i := 0) rfl) (l := [(.int .i64 ((xs[k_65]'(by omega)).kind)), (.int .i64 ((xs[k_65]'(by omega)).n))]) rfl rfl)) ?_
          obtain ⟨c99, w100, hr101, hm102, hst103⟩ := MapC.update hi61 (hst96.front 3 rfl rfl) law23 mt_36 ((xs[k_65]'(by omega)).kind, (xs[k_65]'(by omega)).n) true (.bool true) rfl
          refine L_skip rfl rfl (x_mapUpdate rfl rfl rfl rfl hr101) ?_
          refine L_nil ?_
          refine W_region_lit ?_
          refine L_val (v := (.int .i64 ((k_65 + 1 : Nat) : Int))) (w' := w100) rfl rfl rfl (x_add_nat rfl rfl rfl (by omega)) ?_
          refine L_val (v := (.int .i64 ((k_65 + 1 : Nat) : Int))) (w' := w100) rfl rfl rfl rfl ?_
          refine L_nil ?_
          refine ⟨xs.length - (k_65 + 1), by first | omega | (simp only [List.length_append, List.length_cons, List.length_nil]; omega), ?_⟩
          exact ⟨_, (k_65 + 1), (AL.set seen66 ((xs[k_65]'(by omega)).kind, (xs[k_65]'(by omega)).n) true), 1, c99, (upd_of (upd_of (upd_of (upd_of (upd_of (upd_of (upd_of (upd_of (upd_of (upd_of (upd_of (upd_of (upd_of (upd_of (upd_of (upd_of (upd_of (upd_of (upd_of (upd_of (upd_of (upd_of (upd_of (upd_of (upd_of (upd_of (upd_of (upd_of (upd_of rfl rfl) rfl) rfl) rfl) rfl) rfl) rfl) rfl) rfl) rfl) rfl) rfl) rfl) rfl) rfl) rfl) rfl) rfl) rfl) rfl) rfl) rfl) rfl) rfl) rfl) rfl) rfl) rfl) rfl), hmk57, ((hst103.front 3 rfl rfl).keepN 2 rfl), hm102, (by omega), (wantF_step (by omega) hf63 (wantStep_1 (of_decide_eq_true c97))), rfl⟩
        · skip
          have q104 := of_decide_eq_false c97
          refine L_guard rfl rfl rfl rfl c97 ?_
          refine L_val (v := (.map (some b48))) (w' := w95) rfl rfl rfl rfl ?_
          refine L_guard rfl rfl rfl rfl c97 ?_
          refine L_val (v := (.agg #[(.int .i64 ((xs[k_65]'(by omega)).kind)), (.int .i64 ((xs[k_65]'(by omega)).n))])) (w' := w95) rfl rfl rfl (x_load rfl rfl (run_loadVar_agg ti_23 (hst96.blk (i := 0) rfl) (l := [(.int .i64 ((xs[k_65]'(by omega)).kind)), (.int .i64 ((xs[k_65]'(by omega)).n))]) rfl rfl)) ?_
          refine L_guard rfl rfl rfl rfl c97 ?_
          obtain ⟨v105, hr106, hv107⟩ := MapC.lookupD (w := w95) hi61 (hst96.get (i := 3) rfl) law23 mt_36 ti_4 ((xs[k_65]'(by omega)).kind, (xs[k_65]'(by omega)).n) false false rfl
          have hv107' : v105 = .bool ((AL.get seen66 ((xs[k_65]'(by omega)).kind, (xs[k_65]'(by omega)).n)).getD false) := hv107
          subst hv107'
          refine L_val (v := (.bool ((AL.get seen66 ((xs[k_65]'(by omega)).kind, (xs[k_65]'(by omega)).n)).getD false))) (w' := w95) rfl rfl rfl (x_lookup rfl rfl rfl hr106) ?_
          refine L_val (v := (.bool ((AL.get seen66 ((xs[k_65]'(by omega)).kind, (xs[k_65]'(by omega)).n)).getD false))) (w' := w95) rfl rfl rfl (x_pick rfl rfl (by rw [c97]; rfl)) ?_
          refine L_nil ?_
          rcases Bool.eq_false_or_eq_true ((AL.get seen66 ((xs[k_65]'(by omega)).kind, (xs[k_65]'(by omega)).n)).getD false) with c108 | c108
          · skip
            refine W_cond_true (by show Value.bool _ = _; exact congrArg Value.bool c108) ?_
            refine W_region_lit ?_
            refine L_val (v := (.int .i64 1)) (w' := w95) rfl rfl rfl rfl ?_
            refine L_nil ?_
            refine W_region_lit ?_
            refine L_val (v := (.map (some b48))) (w' := w95) rfl rfl rfl rfl ?_
            refine L_val (v := (.agg #[(.int .i64 ((xs[k_65]'(by omega)).kind)), (.int .i64 ((xs[k_65]'(by omega)).n))])) (w' := w95) rfl rfl rfl (x_load rfl rfl (run_loadVar_agg ti_23 (hst96.blk (i := 0) rfl) (l := [(.int .i64 ((xs[k_65]'(by omega)).kind)), (.int .i64 ((xs[k_65]'(by omega)).n))]) rfl rfl)) ?_
            obtain ⟨c109, w110, hr111, hm112, hst113⟩ := MapC.update hi61 (hst96.front 3 rfl rfl) law23 mt_36 ((xs[k_65]'(by omega)).kind, (xs[k_65]'(by omega)).n) true (.bool true) rfl
            refine L_skip rfl rfl (x_mapUpdate rfl rfl rfl rfl hr111) ?_
            refine L_nil ?_
            refine W_region_lit ?_
            refine L_val (v := (.int .i64 ((k_65 + 1 : Nat) : Int))) (w' := w110) rfl rfl rfl (x_add_nat rfl rfl rfl (by omega)) ?_
            refine L_val (v := (.int .i64 ((k_65 + 1 : Nat) : Int))) (w' := w110) rfl rfl rfl rfl ?_
            refine L_nil ?_
            refine ⟨xs.length - (k_65 + 1), by first | omega | (simp only [List.length_append, List.length_cons, List.length_nil]; omega), ?_⟩
            exact ⟨_, (k_65 + 1), (AL.set seen66 ((xs[k_65]'(by omega)).kind, (xs[k_65]'(by omega)).n) true), 1, c109, (upd_of (upd_of (upd_of (upd_of (upd_of (upd_of (upd_of (upd_of (upd_of (upd_of (upd_of (upd_of (upd_of (upd_of (upd_of (upd_of (upd_of (upd_of (upd_of (upd_of (upd_of (upd_of (upd_of (upd_of (upd_of (upd_of (upd_of (upd_of (upd_of rfl rfl) rfl) rfl) rfl) rfl) rfl) rfl) rfl) rfl) rfl) rfl) rfl) rfl) rfl) rfl) rfl) rfl) rfl) rfl) rfl) rfl) rfl) rfl) rfl) rfl) rfl) rfl) rfl) rfl), hmk57, ((hst113.front 3 rfl rfl).keepN 2 rfl), hm112, (by omega), (wantF_step (by omega) hf63 (wantStep_2 (of_decide_eq_false c97) c108)), rfl⟩
          · skip
            refine W_cond_false (by show Value.bool _ = _; exact congrArg Value.bool c108) ?_
            refine W_seq ?_
            refine W_region_draw [] (fun w => Le R38 (hp w) ∧ Le (one b90 (.cells #[(.int .i64 ((xs[k_65]'(by omega)).kind)), (.int .i64 ((xs[k_65]'(by omega)).n))] 23 (0, 0))) (hp w) ∧ Le (one b85 (.cells #[(.int .i64 ((xs[k_65]'(by omega)).kind)), (.int .i64 ((xs[k_65]'(by omega)).n)), (.int .i64 ((xs[k_65]'(by omega)).version))] 38 (0, 0))) (hp w) ∧ Le c43 (hp w) ∧ Le cS68 (hp w)) hmix (by decide +kernel) (fun _ _ h => h) ?_
            have hst115 := hst96.draws (w95.drawn + 1)
            generalize draws w95 (w95.drawn + 1) = w114 at hst115 ⊢
            refine LA_takeP (v := (ptr b85 2)) 0 rfl rfl rfl (by decide +kernel) (by decide +kernel) (by decide +kernel) (by decide +kernel) (fun _ _ _ h => h) (Want.plain rfl) (fun u117 => (by kernel_rfl)) (fun _ => ⟨hst115.rle', hst115.get (i := 0) rfl, hst115.get (i := 1) rfl, hst115.get (i := 2) rfl, hst115.get (i := 3) rfl⟩) ?_
            refine LA_take (v := (.int .i64 ((xs[k_65]'(by omega)).version))) 1 rfl rfl rfl (by decide +kernel) (by decide +kernel) (by decide +kernel) (by decide +kernel) (by decide +kernel) (fun _ _ _ h => h) (Want.plain rfl) (fun u120 hF121 => (x_load rfl rfl (run_loadVar_one ti_3 (hF121.2.2.1 _ _ (one_self _ _)) rfl))) ⟨hst115.rle', hst115.get (i := 0) rfl, hst115.get (i := 1) rfl, hst115.get (i := 2) rfl, hst115.get (i := 3) rfl⟩ ?_
            refine LA_takeP (v := (ptr p17 0)) 2 rfl rfl rfl (by decide +kernel) (by decide +kernel) (by decide +kernel) (by decide +kernel) (fun _ _ _ h => h) (Want.plain rfl) (fun u123 => rfl) (fun _ => ⟨hst115.rle', hst115.get (i := 0) rfl, hst115.get (i := 1) rfl, hst115.get (i := 2) rfl, hst115.get (i := 3) rfl⟩) ?_
            refine LA_takeP (v := (ptr b85 0)) 3 rfl rfl rfl (by decide +kernel) (by decide +kernel) (by decide +kernel) (by decide +kernel) (fun _ _ _ h => h) (Want.plain rfl) (fun u126 => (by kernel_rfl)) (fun _ => ⟨hst115.rle', hst115.get (i := 0) rfl, hst115.get (i := 1) rfl, hst115.get (i := 2) rfl, hst115.get (i := 3) rfl⟩) ?_
            refine LA_take (v := (.int .i64 ((xs[k_65]'(by omega)).kind))) 4 rfl rfl rfl (by decide +kernel) (by decide +kernel) (by decide +kernel) (by decide +kernel) (by decide +kernel) (fun _ _ _ h => h) (Want.plain rfl) (fun u129 hF130 => (x_load rfl rfl (run_loadVar_one ti_3 (hF130.2.2.1 _ _ (one_self _ _)) rfl))) ⟨hst115.rle', hst115.get (i := 0) rfl, hst115.get (i := 1) rfl, hst115.get (i := 2) rfl, hst115.get (i := 3) rfl⟩ ?_
            refine LA_takeP (v := (ptr b85 1)) 5 rfl rfl rfl (by decide +kernel) (by decide +kernel) (by decide +kernel) (by decide +kernel) (fun _ _ _ h => h) (Want.plain rfl) (fun u132 => (by kernel_rfl)) (fun _ => ⟨hst115.rle', hst115.get (i := 0) rfl, hst115.get (i := 1) rfl, hst115.get (i := 2) rfl, hst115.get (i := 3) rfl⟩) ?_
            refine LA_take (v := (.int .i64 ((xs[k_65]'(by omega)).n))) 6 rfl rfl rfl (by decide +kernel) (by decide +kernel) (by decide +kernel) (by decide +kernel) (by decide +kernel) (fun _ _ _ h => h) (Want.plain rfl) (fun u135 hF136 => (x_load rfl rfl (run_loadVar_one ti_3 (hF136.2.2.1 _ _ (one_self _ _)) rfl))) ⟨hst115.rle', hst115.get (i := 0) rfl, hst115.get (i := 1) rfl, hst115.get (i := 2) rfl, hst115.get (i := 3) rfl⟩ ?_
            refine LA_all [7] (by decide +kernel) (by simp) ?_
            intro i_ hi_
            simp only [List.mem_cons, List.not_mem_nil, or_false] at hi_
            subst hi_
            refine One_call (i := 7) rfl rfl rfl (Want.plain rfl) (x_call (vs := #[(ptr p17 0), (.int .i64 ((xs[k_65]'(by omega)).kind)), (.int .i64 ((xs[k_65]'(by omega)).n))]) rfl rfl (by kernel_rfl) ent_16) (Version_reg (w := w114) ((xs[k_65]'(by omega)).kind) ((xs[k_65]'(by omega)).n) hreg47 (hst115.get (i := 2) rfl)) ?_
            rintro e142 w140 ⟨rfl, hw143⟩
            have hst141 := hst115.grown hw143
            refine ⟨_, rfl, (fun _ => ⟨hst141.rle', hst141.get (i := 0) rfl, hst141.get (i := 1) rfl, hst141.get (i := 2) rfl, hst141.get (i := 3) rfl⟩), ?_⟩
            refine LA_takeP (v := (.bool (((xs[k_65]'(by omega)).version) != (ver (RS.bump e1 1 (Int.tmod q3 3)).vers ((xs[k_65]'(by omega)).kind, (xs[k_65]'(by omega)).n))))) 8 rfl rfl rfl (by decide +kernel) (by decide +kernel) (by decide +kernel) (by decide +kernel) (fun _ _ _ h => h) (Want.plain rfl) (fun u145 => (by kernel_rfl)) (fun _ => ⟨hst141.rle', hst141.get (i := 0) rfl, hst141.get (i := 1) rfl, hst141.get (i := 2) rfl, hst141.get (i := 3) rfl⟩) ?_
            refine LA_takeP (v := (.bool (((xs[k_65]'(by omega)).version) != (ver (RS.bump e1 1 (Int.tmod q3 3)).vers ((xs[k_65]'(by omega)).kind, (xs[k_65]'(by omega)).n))))) 9 rfl rfl rfl (by decide +kernel) (by decide +kernel) (by decide +kernel) (by decide +kernel) (fun _ _ _ h => h) (Want.plain rfl) (fun u148 => rfl) (fun _ => ⟨hst141.rle', hst141.get (i := 0) rfl, hst141.get (i := 1) rfl, hst141.get (i := 2) rfl, hst141.get (i := 3) rfl⟩) ?_
            rcases Bool.eq_false_or_eq_true (((xs[k_65]'(by omega)).version) != (ver (RS.bump e1 1 (Int.tmod q3 3)).vers ((xs[k_65]'(by omega)).kind, (xs[k_65]'(by omega)).n))) with c151 | c151
            · skip
              have q152 : ¬ (xs[k_65]'(by omega)).version = ver (RS.bump e1 1 (Int.tmod q3 3)).vers ((xs[k_65]'(by omega)).kind, (xs[k_65]'(by omega)).n) := by simpa using c151
              refine LA_takeP (v := (.int .i64 wt67)) 10 rfl rfl rfl (by decide +kernel) (by decide +kernel) (by decide +kernel) (by decide +kernel) (fun _ _ _ h => h) (Want.of rfl rfl rfl rfl (by rw [c151]; rfl)) (fun u154 => rfl) (fun _ => ⟨hst141.rle', hst141.get (i := 0) rfl, hst141.get (i := 1) rfl, hst141.get (i := 2) rfl, hst141.get (i := 3) rfl⟩) ?_
              refine LA_takeP (v := (.bool (wt67 == 0))) 11 rfl rfl rfl (by decide +kernel) (by decide +kernel) (by decide +kernel) (by decide +kernel) (fun _ _ _ h => h) (Want.of rfl rfl rfl rfl (by rw [c151]; rfl)) (fun u157 => (by kernel_rfl)) (fun _ => ⟨hst141.rle', hst141.get (i := 0) rfl, hst141.get (i := 1) rfl, hst141.get (i := 2) rfl, hst141.get (i := 3) rfl⟩) ?_
              refine LA_takeP (v := (.bool (wt67 == 0))) 12 rfl rfl rfl (by decide +kernel) (by decide +kernel) (by decide +kernel) (by decide +kernel) (fun _ _ _ h => h) (Want.plain rfl) (fun u160 => (x_pick rfl rfl (by rw [c151]; rfl))) (fun _ => ⟨hst141.rle', hst141.get (i := 0) rfl, hst141.get (i := 1) rfl, hst141.get (i := 2) rfl, hst141.get (i := 3) rfl⟩) ?_
              refine LA_done (by decide +kernel) ?_
              rcases Bool.eq_false_or_eq_true (wt67 == 0) with c162 | c162
              · skip
                have q163 := eq_of_beq c162
                refine W_cond_true (by show Value.bool _ = _; exact congrArg Value.bool c162) ?_
                refine W_region_lit ?_
                refine L_val (v := (.int .i64 40)) (w' := w140) rfl rfl rfl rfl ?_
                refine L_nil ?_
                refine W_region_lit ?_
                refine L_val (v := (.map (some b48))) (w' := w140) rfl rfl rfl rfl ?_
                refine L_val (v := (.agg #[(.int .i64 ((xs[k_65]'(by omega)).kind)), (.int .i64 ((xs[k_65]'(by omega)).n))])) (w' := w140) rfl rfl rfl (x_load rfl rfl (run_loadVar_agg ti_23 (hst141.blk (i := 0) rfl) (l := [(.int .i64 ((xs[k_65]'(by omega)).kind)), (.int .i64 ((xs[k_65]'(by omega)).n))]) rfl rfl)) ?_
                obtain ⟨c164, w165, hr166, hm167, hst168⟩ := MapC.update hi61 (hst141.front 3 rfl rfl) law23 mt_36 ((xs[k_65]'(by omega)).kind, (xs[k_65]'(by omega)).n) true (.bool true) rfl
                refine L_skip rfl rfl (x_mapUpdate rfl rfl rfl rfl hr166) ?_
                refine L_nil ?_
                refine W_region_lit ?_
                refine L_val (v := (.int .i64 ((k_65 + 1 : Nat) : Int))) (w' := w165) rfl rfl rfl (x_add_nat rfl rfl rfl (by omega)) ?_
                refine L_val (v := (.int .i64 ((k_65 + 1 : Nat) : Int))) (w' := w165) rfl rfl rfl rfl ?_
                refine L_nil ?_
                refine ⟨xs.length - (k_65 + 1), by first | omega | (simp only [List.length_append, List.length_cons, List.length_nil]; omega), ?_⟩
                exact ⟨_, (k_65 + 1), (AL.set seen66 ((xs[k_65]'(by omega)).kind, (xs[k_65]'(by omega)).n) true), 40, c164, (upd_of (upd_of (upd_of (upd_of (upd_of (upd_of (upd_of (upd_of (upd_of (upd_of (upd_of (upd_of (upd_of (upd_of (upd_of (upd_of (upd_of (upd_of (upd_of (upd_of (upd_of (upd_of (upd_of (upd_of (upd_of (upd_of (upd_of (upd_of (upd_of rfl rfl) rfl) rfl) rfl) rfl) rfl) rfl) rfl) rfl) rfl) rfl) rfl) rfl) rfl) rfl) rfl) rfl) rfl) rfl) rfl) rfl) rfl) rfl) rfl) rfl) rfl) rfl) rfl) rfl), hmk57, ((hst168.front 3 rfl rfl).keepN 2 rfl), hm167, (by omega), (wantF_step (by omega) hf63 (wantStep_4 (of_decide_eq_false c97) c108 (by simpa using c151) (by simpa using c162))), rfl⟩
              · skip
                have q169 := ne_of_beq_false c162
                refine W_cond_false (by show Value.bool _ = _; exact congrArg Value.bool c162) ?_
                refine W_skip ?_
                refine W_region_lit ?_
                refine L_val (v := (.map (some b48))) (w' := w140) rfl rfl rfl rfl ?_
                refine L_val (v := (.agg #[(.int .i64 ((xs[k_65]'(by omega)).kind)), (.int .i64 ((xs[k_65]'(by omega)).n))])) (w' := w140) rfl rfl rfl (x_load rfl rfl (run_loadVar_agg ti_23 (hst141.blk (i := 0) rfl) (l := [(.int .i64 ((xs[k_65]'(by omega)).kind)), (.int .i64 ((xs[k_65]'(by omega)).n))]) rfl rfl)) ?_
                obtain ⟨c170, w171, hr172, hm173, hst174⟩ := MapC.update hi61 (hst141.front 3 rfl rfl) law23 mt_36 ((xs[k_65]'(by omega)).kind, (xs[k_65]'(by omega)).n) true (.bool true) rfl
                refine L_skip rfl rfl (x_mapUpdate rfl rfl rfl rfl hr172) ?_
                refine L_nil ?_
                refine W_region_lit ?_
                refine L_val (v := (.int .i64 ((k_65 + 1 : Nat) : Int))) (w' := w171) rfl rfl rfl (x_add_nat rfl rfl rfl (by omega)) ?_
                refine L_val (v := (.int .i64 ((k_65 + 1 : Nat) : Int))) (w' := w171) rfl rfl rfl rfl ?_
                refine L_nil ?_
                refine ⟨xs.length - (k_65 + 1), by first | omega | (simp only [List.length_append, List.length_cons, List.length_nil]; omega), ?_⟩
                exact ⟨_, (k_65 + 1), (AL.set seen66 ((xs[k_65]'(by omega)).kind, (xs[k_65]'(by omega)).n) true), wt67, c170, (upd_of (upd_of (upd_of (upd_of (upd_of (upd_of (upd_of (upd_of (upd_of (upd_of (upd_of (upd_of (upd_of (upd_of (upd_of (upd_of (upd_of (upd_of (upd_of (upd_of (upd_of (upd_of (upd_of (upd_of (upd_of (upd_of (upd_of (upd_of (upd_of rfl rfl) rfl) rfl) rfl) rfl) rfl) rfl) rfl) rfl) rfl) rfl) rfl) rfl) rfl) rfl) rfl) rfl) rfl) rfl) rfl) rfl) rfl) rfl) rfl) rfl) rfl) rfl) rfl) rfl), hmk57, ((hst174.front 3 rfl rfl).keepN 2 rfl), hm173, (by omega), (wantF_step (by omega) hf63 (wantStep_5 (of_decide_eq_false c97) c108 (by simpa using c151) (by simpa using c162))), rfl⟩
            · skip
              have q175 : (xs[k_65]'(by omega)).version = ver (RS.bump e1 1 (Int.tmod q3 3)).vers ((xs[k_65]'(by omega)).kind, (xs[k_65]'(by omega)).n) := by simpa using c151
              refine LA_leaveP 10 rfl rfl rfl (by decide +kernel) (by decide +kernel) (by decide +kernel) (by decide +kernel) (fun _ _ _ h => h) (Want.of rfl rfl rfl rfl (by rw [c151]; rfl)) (fun _ => ⟨hst141.rle', hst141.get (i := 0) rfl, hst141.get (i := 1) rfl, hst141.get (i := 2) rfl, hst141.get (i := 3) rfl⟩) ?_
              refine LA_leaveP 11 rfl rfl rfl (by decide +kernel) (by decide +kernel) (by decide +kernel) (by decide +kernel) (fun _ _ _ h => h) (Want.of rfl rfl rfl rfl (by rw [c151]; rfl)) (fun _ => ⟨hst141.rle', hst141.get (i := 0) rfl, hst141.get (i := 1) rfl, hst141.get (i := 2) rfl, hst141.get (i := 3) rfl⟩) ?_
              refine LA_takeP (v := (.bool false)) 12 rfl rfl rfl (by decide +kernel) (by decide +kernel) (by decide +kernel) (by decide +kernel) (fun _ _ _ h => h) (Want.plain rfl) (fun u179 => (x_pick rfl rfl (by rw [c151]; rfl))) (fun _ => ⟨hst141.rle', hst141.get (i := 0) rfl, hst141.get (i := 1) rfl, hst141.get (i := 2) rfl, hst141.get (i := 3) rfl⟩) ?_
              refine LA_done (by decide +kernel) ?_
              refine W_cond_false (by show Value.bool _ = _; exact congrArg Value.bool rfl) ?_
              refine W_skip ?_
              refine W_region_lit ?_
              refine L_val (v := (.map (some b48))) (w' := w140) rfl rfl rfl rfl ?_
              refine L_val (v := (.agg #[(.int .i64 ((xs[k_65]'(by omega)).kind)), (.int .i64 ((xs[k_65]'(by omega)).n))])) (w' := w140) rfl rfl rfl (x_load rfl rfl (run_loadVar_agg ti_23 (hst141.blk (i := 0) rfl) (l := [(.int .i64 ((xs[k_65]'(by omega)).kind)), (.int .i64 ((xs[k_65]'(by omega)).n))]) rfl rfl)) ?_
              obtain ⟨c181, w182, hr183, hm184, hst185⟩ := MapC.update hi61 (hst141.front 3 rfl rfl) law23 mt_36 ((xs[k_65]'(by omega)).kind, (xs[k_65]'(by omega)).n) true (.bool true) rfl
              refine L_skip rfl rfl (x_mapUpdate rfl rfl rfl rfl hr183) ?_
              refine L_nil ?_
              refine W_region_lit ?_
              refine L_val (v := (.int .i64 ((k_65 + 1 : Nat) : Int))) (w' := w182) rfl rfl rfl (x_add_nat rfl rfl rfl (by omega)) ?_
              refine L_val (v := (.int .i64 ((k_65 + 1 : Nat) : Int))) (w' := w182) rfl rfl rfl rfl ?_
              refine L_nil ?_
              refine ⟨xs.length - (k_65 + 1), by first | omega | (simp only [List.length_append, List.length_cons, List.length_nil]; omega), ?_⟩
              exact ⟨_, (k_65 + 1), (AL.set seen66 ((xs[k_65]'(by omega)).kind, (xs[k_65]'(by omega)).n) true), wt67, c181, (upd_of (upd_of (upd_of (upd_of (upd_of (upd_of (upd_of (upd_of (upd_of (upd_of (upd_of (upd_of (upd_of (upd_of (upd_of (upd_of (upd_of (upd_of (upd_of (upd_of (upd_of (upd_of (upd_of (upd_of (upd_of (upd_of (upd_of (upd_of (upd_of rfl rfl) rfl) rfl) rfl) rfl) rfl) rfl) rfl) rfl) rfl) rfl) rfl) rfl) rfl) rfl) rfl) rfl) rfl) rfl) rfl) rfl) rfl) rfl) rfl) rfl) rfl) rfl) rfl) rfl), hmk57, ((hst185.front 3 rfl rfl).keepN 2 rfl), hm184, (by omega), (wantF_step (by omega) hf63 (wantStep_3 (of_decide_eq_false c97) c108 (by simpa using c151))), rfl⟩
      · skip
        have q186 := of_decide_eq_false c70
        refine W_cond_false (by show Value.bool _ = _; exact congrArg Value.bool c70) ?_
        refine W_exit ?_
        refine W_seq ?_
        refine W_seq ?_
        have hW := wantF_end (by omega) hf63
        refine W_region_lit ?_
        refine L_val (v := (.int .i64 md)) (w' := w59) rfl rfl rfl rfl ?_
        refine L_val (v := (.bool (decide (md < 0)))) (w' := w59) rfl rfl rfl (by kernel_rfl) ?_
        refine L_nil ?_
        rcases Bool.eq_false_or_eq_true (decide (md < 0)) with c187 | c187
        · skip
          have q188 := of_decide_eq_true c187
          refine W_cond_true (by show Value.bool _ = _; exact congrArg Value.bool c187) ?_
          refine W_region_lit ?_
          refine L_val (v := (.int .i64 1)) (w' := w59) rfl rfl rfl rfl ?_
          refine L_nil ?_
          refine W_seq ?_
          refine W_seq ?_
          refine W_region_lit ?_
          refine L_val (v := (.int .i64 md)) (w' := w59) rfl rfl rfl rfl ?_
          refine L_val (v := (.bool (md == 5))) (w' := w59) rfl rfl rfl (by kernel_rfl) ?_
          refine L_val (v := (.bool (md == 5))) (w' := w59) rfl rfl rfl rfl ?_
          rcases Bool.eq_false_or_eq_true (md == 5) with c189 | c189
          · skip
            have q190 := eq_of_beq c189
            refine L_guard rfl rfl rfl rfl c189 ?_
            refine L_val (v := (.int .i64 1)) (w' := w59) rfl rfl rfl rfl ?_
            refine L_guard rfl rfl rfl rfl c189 ?_
            refine L_val (v := (.bool false)) (w' := w59) rfl rfl rfl (by kernel_rfl) ?_
            refine L_val (v := (.bool false)) (w' := w59) rfl rfl rfl (x_pick rfl rfl (by rw [c189]; rfl)) ?_
            refine L_nil ?_
            refine W_cond_false (by show Value.bool _ = _; exact congrArg Value.bool rfl) ?_
            refine W_skip ?_
            refine W_seq ?_
            refine W_seq ?_
            have hA : RS.addE (RS.bump e1 1 (Int.tmod q3 3)) md xs = 1 := (RS.addE_want h5 md xs hW).trans (want2_eq (by omega))
            have h2m := RS.two h5 md xs
            refine W_region_lit ?_
            refine L_val (v := (ptr p17 0)) (w' := w59) rfl rfl rfl rfl ?_
            refine L_val (v := (.int .i64 md)) (w' := w59) rfl rfl rfl rfl ?_
            refine L_val (v := (.slice a53 xs.length cap54)) (w' := w59) rfl rfl rfl rfl ?_
            have hst191 := hst58
            refine L_callS [c43] [cS68] hst191 rfl rfl rfl (x_call (vs := #[(ptr p17 0), (.int .i64 md), (.slice a53 xs.length cap54)]) rfl rfl (by kernel_rfl) ent_11) (Add_spec (v := (.slice a53 xs.length cap54)) md (RdS.mono hv (Le.trans hle7 (Le.trans hle15 (Le.trans hle27 hle41)))) (by first | omega | simp) (hst191.sats.take 1 rfl) hreg47) (fun v192 w193 R194 L195 hp196 hle197 hst198 => ?_)
            obtain ⟨c199, rfl, rfl, hreg200⟩ := hp196
            have hreg201 : Reg R194 p17 (RS.add (RS.bump e1 1 (Int.tmod q3 3)) md xs) c199 := hreg200
            refine L_val (v := (.int .i64 1)) (w' := w193) rfl rfl rfl rfl ?_
            refine L_val (v := (.bool ((RS.addE (RS.bump e1 1 (Int.tmod q3 3)) md xs) != 1))) (w' := w193) rfl rfl rfl (by kernel_rfl) ?_
            refine L_val (v := (.bool ((RS.addE (RS.bump e1 1 (Int.tmod q3 3)) md xs) != 1))) (w' := w193) rfl rfl rfl rfl ?_
            have c202 : ((RS.addE (RS.bump e1 1 (Int.tmod q3 3)) md xs) != 1) = false := by rw [hA]; simp
            have q203 : RS.addE (RS.bump e1 1 (Int.tmod q3 3)) md xs = 1 := by simpa using c202
            refine L_guard rfl rfl rfl rfl c202 ?_
            refine L_val (v := (ptr p17 0)) (w' := w193) rfl rfl rfl rfl ?_
            refine L_guard rfl rfl rfl rfl c202 ?_
            refine L_callG hst198 (v := (.bool (holds (RS.add (RS.bump e1 1 (Int.tmod q3 3)) md xs).vers (RS.add (RS.bump e1 1 (Int.tmod q3 3)) md xs).mods 5))) rfl rfl rfl (x_call (vs := #[(ptr p17 0), (.int .i64 5)]) rfl rfl (by kernel_rfl) ent_15) (Holds_reg (w := w193) 5 hreg201 hst198.rle' (hst198.get (i := 0) rfl)) (fun w204 hst205 => ?_)
            refine L_guard rfl rfl rfl rfl c202 ?_
            refine L_val (v := (.bool (!(holds (RS.add (RS.bump e1 1 (Int.tmod q3 3)) md xs).vers (RS.add (RS.bump e1 1 (Int.tmod q3 3)) md xs).mods 5)))) (w' := w204) rfl rfl rfl rfl ?_
            refine L_val (v := (.bool (!(holds (RS.add (RS.bump e1 1 (Int.tmod q3 3)) md xs).vers (RS.add (RS.bump e1 1 (Int.tmod q3 3)) md xs).mods 5)))) (w' := w204) rfl rfl rfl (x_pick rfl rfl (by rw [c202]; rfl)) ?_
            refine L_nil ?_
            have c206 : (holds (RS.add (RS.bump e1 1 (Int.tmod q3 3)) md xs).vers (RS.add (RS.bump e1 1 (Int.tmod q3 3)) md xs).mods 5) = true := RS.five h5 md xs
            refine W_cond_false (by show Value.bool _ = _; exact congrArg Value.bool (by rw [c206]; rfl)) ?_
            refine W_skip ?_
            refine W_seq ?_
            refine W_region_lit ?_
            refine L_val (v := (.bool true)) (w' := w204) rfl rfl rfl rfl ?_
            refine L_val (v := (.bool true)) (w' := w204) rfl rfl rfl rfl ?_
            refine L_guard rfl rfl rfl rfl rfl ?_
            refine L_val (v := (ptr p17 0)) (w' := w204) rfl rfl rfl rfl ?_
            refine L_guard rfl rfl rfl rfl rfl ?_
            refine L_val (v := (.int .i64 md)) (w' := w204) rfl rfl rfl rfl ?_
            refine L_guard rfl rfl rfl rfl rfl ?_
            refine L_callG hst205 (v := (.bool (holds (RS.add (RS.bump e1 1 (Int.tmod q3 3)) md xs).vers (RS.add (RS.bump e1 1 (Int.tmod q3 3)) md xs).mods md))) rfl rfl rfl (x_call (vs := #[(ptr p17 0), (.int .i64 md)]) rfl rfl (by kernel_rfl) ent_15) (Holds_reg (w := w204) md hreg201 hst205.rle' (hst205.get (i := 0) rfl)) (fun w207 hst208 => ?_)
            refine L_guard rfl rfl rfl rfl rfl ?_
            refine L_val (v := (.int .i64 1)) (w' := w207) rfl rfl rfl rfl ?_
            refine L_guard rfl rfl rfl rfl rfl ?_
            refine L_val (v := (.bool false)) (w' := w207) rfl rfl rfl (by kernel_rfl) ?_
            refine L_guard rfl rfl rfl rfl rfl ?_
            refine L_val (v := (.bool false)) (w' := w207) rfl rfl rfl rfl ?_
            refine L_guard rfl rfl rfl rfl rfl ?_
            refine L_val (v := (.int .i64 md)) (w' := w207) rfl rfl rfl rfl ?_
            refine L_guard rfl rfl rfl rfl rfl ?_
            refine L_val (v := (.bool (md == 5))) (w' := w207) rfl rfl rfl (by kernel_rfl) ?_
            refine L_guard rfl rfl rfl rfl rfl ?_
            refine L_val (v := (.bool (md == 5))) (w' := w207) rfl rfl rfl rfl ?_
            refine L_guard rfl rfl rfl rfl rfl ?_
            have hq209 : ((holds (RS.add (RS.bump e1 1 (Int.tmod q3 3)) md xs).vers (RS.add (RS.bump e1 1 (Int.tmod q3 3)) md xs).mods md) == (md == 5)) = true := by rw [RS.holds_add h5 md xs hA]; rw [beq_iff_eq, Bool.eq_iff_iff, Bool.or_eq_true, decide_eq_true_eq, decide_eq_true_eq]; first | (rw [beq_iff_eq]; omega) | (simp only [iff_true]; omega)
            refine L_val (v := .bool ((holds (RS.add (RS.bump e1 1 (Int.tmod q3 3)) md xs).vers (RS.add (RS.bump e1 1 (Int.tmod q3 3)) md xs).mods md) == (md == 5))) (w' := w207) rfl rfl rfl (by kernel_rfl) ?_
            refine L_val (v := (.bool ((holds (RS.add (RS.bump e1 1 (Int.tmod q3 3)) md xs).vers (RS.add (RS.bump e1 1 (Int.tmod q3 3)) md xs).mods md) == (md == 5)))) (w' := w207) rfl rfl rfl rfl ?_
            refine L_val (v := (.bool ((holds (RS.add (RS.bump e1 1 (Int.tmod q3 3)) md xs).vers (RS.add (RS.bump e1 1 (Int.tmod q3 3)) md xs).mods md) == (md == 5)))) (w' := w207) rfl rfl rfl rfl ?_
            refine L_guard rfl rfl rfl rfl hq209 ?_
            refine L_val (v := (ptr p17 0)) (w' := w207) rfl rfl rfl rfl ?_
            refine L_guard rfl rfl rfl rfl hq209 ?_
            refine L_call rfl rfl rfl (x_call (vs := #[(ptr p17 0)]) rfl rfl (by kernel_rfl) ent_13) (Modules_reg hreg201 (hst208.get (i := 0) rfl) (RS.add_ne hne md xs) (Nat.le_trans h2m (by decide))) ?_
            rintro e210 w211 ⟨v212, R213, L214, rfl, hst215, c216, rfl, ho217⟩
            refine ⟨_, rfl, ?_⟩
            have hst218 := Step.gain hst208 hst215
            have ho219 := OwnL.reint (R' := R194) ho217
            refine L_guard rfl rfl rfl rfl hq209 ?_
            obtain ⟨a220, cap221, e222, hc223⟩ := ho219.value
            subst e222
            refine L_val (v := (.int .i64 (((RS.modules (RS.add (RS.bump e1 1 (Int.tmod q3 3)) md xs)).length : Nat) : Int))) (w' := w211) rfl rfl rfl (x_len_slice rfl sl_31 rfl) ?_
            refine L_guard rfl rfl rfl rfl hq209 ?_
            have hq224 : decide ((((RS.modules (RS.add (RS.bump e1 1 (Int.tmod q3 3)) md xs)).length : Nat) : Int) ≤ 2) = true := decide_eq_true (by rw [RS.modules_len]; omega)
            refine L_val (v := .bool (decide ((((RS.modules (RS.add (RS.bump e1 1 (Int.tmod q3 3)) md xs)).length : Nat) : Int) ≤ 2))) (w' := w211) rfl rfl rfl (by kernel_rfl) ?_
            refine L_val (v := (.bool (decide ((((RS.modules (RS.add (RS.bump e1 1 (Int.tmod q3 3)) md xs)).length : Nat) : Int) ≤ 2)))) (w' := w211) rfl rfl rfl (x_pick rfl rfl (by rw [hq209]; rfl)) ?_
            refine L_val (v := (.bool (decide ((((RS.modules (RS.add (RS.bump e1 1 (Int.tmod q3 3)) md xs)).length : Nat) : Int) ≤ 2)))) (w' := w211) rfl rfl rfl rfl ?_
            refine L_nil ?_
            refine W_ret ?_
            refine ⟨_, _, res_run (rs := [.tmp 6]) (vs := [(.bool (decide ((((RS.modules (RS.add (RS.bump e1 1 (Int.tmod q3 3)) md xs)).length : Nat) : Int) ≤ 2)))]) Try.results4 (.cons (.tmp rfl) .nil) hmk57, ?_⟩
            exact ⟨_, _, [], rfl, hst218.keepN 0 rfl, congrArg Value.bool hq224, rfl⟩
          · skip
            have q225 := ne_of_beq_false c189
            refine L_unwanted rfl rfl rfl rfl (by rw [c189]; rfl) rfl rfl ?_
            refine L_unwanted rfl rfl rfl rfl (by rw [c189]; rfl) rfl rfl ?_
            refine L_val (v := (.bool false)) (w' := w59) rfl rfl rfl (x_pick rfl rfl (by rw [c189]; rfl)) ?_
            refine L_nil ?_
            refine W_cond_false (by show Value.bool _ = _; exact congrArg Value.bool rfl) ?_
            refine W_skip ?_
            refine W_seq ?_
            refine W_seq ?_
            have hA : RS.addE (RS.bump e1 1 (Int.tmod q3 3)) md xs = 1 := (RS.addE_want h5 md xs hW).trans (want2_eq (by omega))
            have h2m := RS.two h5 md xs
            refine W_region_lit ?_
            refine L_val (v := (ptr p17 0)) (w' := w59) rfl rfl rfl rfl ?_
            refine L_val (v := (.int .i64 md)) (w' := w59) rfl rfl rfl rfl ?_
            refine L_val (v := (.slice a53 xs.length cap54)) (w' := w59) rfl rfl rfl rfl ?_
            have hst226 := hst58
            refine L_callS [c43] [cS68] hst226 rfl rfl rfl (x_call (vs := #[(ptr p17 0), (.int .i64 md), (.slice a53 xs.length cap54)]) rfl rfl (by kernel_rfl) ent_11) (Add_spec (v := (.slice a53 xs.length cap54)) md (RdS.mono hv (Le.trans hle7 (Le.trans hle15 (Le.trans hle27 hle41)))) (by first | omega | simp) (hst226.sats.take 1 rfl) hreg47) (fun v227 w228 R229 L230 hp231 hle232 hst233 => ?_)
            obtain ⟨c234, rfl, rfl, hreg235⟩ := hp231
            have hreg236 : Reg R229 p17 (RS.add (RS.bump e1 1 (Int.tmod q3 3)) md xs) c234 := hreg235
            refine L_val (v := (.int .i64 1)) (w' := w228) rfl rfl rfl rfl ?_
            refine L_val (v := (.bool ((RS.addE (RS.bump e1 1 (Int.tmod q3 3)) md xs) != 1))) (w' := w228) rfl rfl rfl (by kernel_rfl) ?_
            refine L_val (v := (.bool ((RS.addE (RS.bump e1 1 (Int.tmod q3 3)) md xs) != 1))) (w' := w228) rfl rfl rfl rfl ?_
            have c237 : ((RS.addE (RS.bump e1 1 (Int.tmod q3 3)) md xs) != 1) = false := by rw [hA]; simp
            have q238 : RS.addE (RS.bump e1 1 (Int.tmod q3 3)) md xs = 1 := by simpa using c237
            refine L_guard rfl rfl rfl rfl c237 ?_
            refine L_val (v := (ptr p17 0)) (w' := w228) rfl rfl rfl rfl ?_
            refine L_guard rfl rfl rfl rfl c237 ?_
            refine L_callG hst233 (v := (.bool (holds (RS.add (RS.bump e1 1 (Int.tmod q3 3)) md xs).vers (RS.add (RS.bump e1 1 (Int.tmod q3 3)) md xs).mods 5))) rfl rfl rfl (x_call (vs := #[(ptr p17 0), (.int .i64 5)]) rfl rfl (by kernel_rfl) ent_15) (Holds_reg (w := w228) 5 hreg236 hst233.rle' (hst233.get (i := 0) rfl)) (fun w239 hst240 => ?_)
            refine L_guard rfl rfl rfl rfl c237 ?_
            refine L_val (v := (.bool (!(holds (RS.add (RS.bump e1 1 (Int.tmod q3 3)) md xs).vers (RS.add (RS.bump e1 1 (Int.tmod q3 3)) md xs).mods 5)))) (w' := w239) rfl rfl rfl rfl ?_
            refine L_val (v := (.bool (!(holds (RS.add (RS.bump e1 1 (Int.tmod q3 3)) md xs).vers (RS.add (RS.bump e1 1 (Int.tmod q3 3)) md xs).mods 5)))) (w' := w239) rfl rfl rfl (x_pick rfl rfl (by rw [c237]; rfl)) ?_
            refine L_nil ?_
            have c241 : (holds (RS.add (RS.bump e1 1 (Int.tmod q3 3)) md xs).vers (RS.add (RS.bump e1 1 (Int.tmod q3 3)) md xs).mods 5) = true := RS.five h5 md xs
            refine W_cond_false (by show Value.bool _ = _; exact congrArg Value.bool (by rw [c241]; rfl)) ?_
            refine W_skip ?_
            refine W_seq ?_
            refine W_region_lit ?_
            refine L_val (v := (.bool true)) (w' := w239) rfl rfl rfl rfl ?_
            refine L_val (v := (.bool true)) (w' := w239) rfl rfl rfl rfl ?_
            refine L_guard rfl rfl rfl rfl rfl ?_
            refine L_val (v := (ptr p17 0)) (w' := w239) rfl rfl rfl rfl ?_
            refine L_guard rfl rfl rfl rfl rfl ?_
            refine L_val (v := (.int .i64 md)) (w' := w239) rfl rfl rfl rfl ?_
            refine L_guard rfl rfl rfl rfl rfl ?_
            refine L_callG hst240 (v := (.bool (holds (RS.add (RS.bump e1 1 (Int.tmod q3 3)) md xs).vers (RS.add (RS.bump e1 1 (Int.tmod q3 3)) md xs).mods md))) rfl rfl rfl (x_call (vs := #[(ptr p17 0), (.int .i64 md)]) rfl rfl (by kernel_rfl) ent_15) (Holds_reg (w := w239) md hreg236 hst240.rle' (hst240.get (i := 0) rfl)) (fun w242 hst243 => ?_)
            refine L_guard rfl rfl rfl rfl rfl ?_
            refine L_val (v := (.int .i64 1)) (w' := w242) rfl rfl rfl rfl ?_
            refine L_guard rfl rfl rfl rfl rfl ?_
            refine L_val (v := (.bool false)) (w' := w242) rfl rfl rfl (by kernel_rfl) ?_
            refine L_guard rfl rfl rfl rfl rfl ?_
            refine L_val (v := (.bool false)) (w' := w242) rfl rfl rfl rfl ?_
            refine L_guard rfl rfl rfl rfl rfl ?_
            refine L_val (v := (.int .i64 md)) (w' := w242) rfl rfl rfl rfl ?_
            refine L_guard rfl rfl rfl rfl rfl ?_
            refine L_val (v := (.bool (md == 5))) (w' := w242) rfl rfl rfl (by kernel_rfl) ?_
            refine L_guard rfl rfl rfl rfl rfl ?_
            refine L_val (v := (.bool (md == 5))) (w' := w242) rfl rfl rfl rfl ?_
            refine L_guard rfl rfl rfl rfl rfl ?_
            have hq244 : ((holds (RS.add (RS.bump e1 1 (Int.tmod q3 3)) md xs).vers (RS.add (RS.bump e1 1 (Int.tmod q3 3)) md xs).mods md) == (md == 5)) = true := by rw [RS.holds_add h5 md xs hA]; rw [beq_iff_eq, Bool.eq_iff_iff, Bool.or_eq_true, decide_eq_true_eq, decide_eq_true_eq]; first | (rw [beq_iff_eq]; omega) | (simp only [iff_true]; omega)
            refine L_val (v := .bool ((holds (RS.add (RS.bump e1 1 (Int.tmod q3 3)) md xs).vers (RS.add (RS.bump e1 1 (Int.tmod q3 3)) md xs).mods md) == (md == 5))) (w' := w242) rfl rfl rfl (by kernel_rfl) ?_
            refine L_val (v := (.bool ((holds (RS.add (RS.bump e1 1 (Int.tmod q3 3)) md xs).vers (RS.add (RS.bump e1 1 (Int.tmod q3 3)) md xs).mods md) == (md == 5)))) (w' := w242) rfl rfl rfl rfl ?_
            refine L_val (v := (.bool ((holds (RS.add (RS.bump e1 1 (Int.tmod q3 3)) md xs).vers (RS.add (RS.bump e1 1 (Int.tmod q3 3)) md xs).mods md) == (md == 5)))) (w' := w242) rfl rfl rfl rfl ?_
            refine L_guard rfl rfl rfl rfl hq244 ?_
            refine L_val (v := (ptr p17 0)) (w' := w242) rfl rfl rfl rfl ?_
            refine L_guard rfl rfl rfl rfl hq244 ?_
            refine L_call rfl rfl rfl (x_call (vs := #[(ptr p17 0)]) rfl rfl (by kernel_rfl) ent_13) (Modules_reg hreg236 (hst243.get (i := 0) rfl) (RS.add_ne hne md xs) (Nat.le_trans h2m (by decide))) ?_
            rintro e245 w246 ⟨v247, R248, L249, rfl, hst250, c251, rfl, ho252⟩
            refine ⟨_, rfl, ?_⟩
            have hst253 := Step.gain hst243 hst250
            have ho254 := OwnL.reint (R' := R229) ho252
            refine L_guard rfl rfl rfl rfl hq244 ?_
            obtain ⟨a255, cap256, e257, hc258⟩ := ho254.value
            subst e257
            refine L_val (v := (.int .i64 (((RS.modules (RS.add (RS.bump e1 1 (Int.tmod q3 3)) md xs)).length : Nat) : Int))) (w' := w246) rfl rfl rfl (x_len_slice rfl sl_31 rfl) ?_
            refine L_guard rfl rfl rfl rfl hq244 ?_
            have hq259 : decide ((((RS.modules (RS.add (RS.bump e1 1 (Int.tmod q3 3)) md xs)).length : Nat) : Int) ≤ 2) = true := decide_eq_true (by rw [RS.modules_len]; omega)
            refine L_val (v := .bool (decide ((((RS.modules (RS.add (RS.bump e1 1 (Int.tmod q3 3)) md xs)).length : Nat) : Int) ≤ 2))) (w' := w246) rfl rfl rfl (by kernel_rfl) ?_
            refine L_val (v := (.bool (decide ((((RS.modules (RS.add (RS.bump e1 1 (Int.tmod q3 3)) md xs)).length : Nat) : Int) ≤ 2)))) (w' := w246) rfl rfl rfl (x_pick rfl rfl (by rw [hq244]; rfl)) ?_
            refine L_val (v := (.bool (decide ((((RS.modules (RS.add (RS.bump e1 1 (Int.tmod q3 3)) md xs)).length : Nat) : Int) ≤ 2)))) (w' := w246) rfl rfl rfl rfl ?_
            refine L_nil ?_
            refine W_ret ?_
            refine ⟨_, _, res_run (rs := [.tmp 6]) (vs := [(.bool (decide ((((RS.modules (RS.add (RS.bump e1 1 (Int.tmod q3 3)) md xs)).length : Nat) : Int) ≤ 2)))]) Try.results4 (.cons (.tmp rfl) .nil) hmk57, ?_⟩
            exact ⟨_, _, [], rfl, hst253.keepN 0 rfl, congrArg Value.bool hq259, rfl⟩
        · skip
          have q260 := of_decide_eq_false c187
          refine W_cond_false (by show Value.bool _ = _; exact congrArg Value.bool c187) ?_
          refine W_skip ?_
          refine W_seq ?_
          refine W_seq ?_
          refine W_region_lit ?_
          refine L_val (v := (.int .i64 md)) (w' := w59) rfl rfl rfl rfl ?_
          refine L_val (v := (.bool (md == 5))) (w' := w59) rfl rfl rfl (by kernel_rfl) ?_
          refine L_val (v := (.bool (md == 5))) (w' := w59) rfl rfl rfl rfl ?_
          rcases Bool.eq_false_or_eq_true (md == 5) with c261 | c261
          · skip
            have q262 := eq_of_beq c261
            refine L_guard rfl rfl rfl rfl c261 ?_
            refine L_val (v := (.int .i64 wt67)) (w' := w59) rfl rfl rfl rfl ?_
            refine L_guard rfl rfl rfl rfl c261 ?_
            refine L_val (v := (.bool (wt67 != 1))) (w' := w59) rfl rfl rfl (by kernel_rfl) ?_
            refine L_val (v := (.bool (wt67 != 1))) (w' := w59) rfl rfl rfl (x_pick rfl rfl (by rw [c261]; rfl)) ?_
            refine L_nil ?_
            rcases Bool.eq_false_or_eq_true (wt67 != 1) with c263 | c263
            · skip
              have q264 : ¬ wt67 = 1 := by simpa using c263
              refine W_cond_true (by show Value.bool _ = _; exact congrArg Value.bool c263) ?_
              refine W_region_lit ?_
              refine L_val (v := (.int .i64 41)) (w' := w59) rfl rfl rfl rfl ?_
              refine L_nil ?_
              refine W_seq ?_
              refine W_seq ?_
              have hA : RS.addE (RS.bump e1 1 (Int.tmod q3 3)) md xs = 41 := (RS.addE_want h5 md xs hW).trans (want2_eq (by omega))
              have h2m := RS.two h5 md xs
              refine W_region_lit ?_
              refine L_val (v := (ptr p17 0)) (w' := w59) rfl rfl rfl rfl ?_
              refine L_val (v := (.int .i64 md)) (w' := w59) rfl rfl rfl rfl ?_
              refine L_val (v := (.slice a53 xs.length cap54)) (w' := w59) rfl rfl rfl rfl ?_
              have hst265 := hst58
              refine L_callS [c43] [cS68] hst265 rfl rfl rfl (x_call (vs := #[(ptr p17 0), (.int .i64 md), (.slice a53 xs.length cap54)]) rfl rfl (by kernel_rfl) ent_11) (Add_spec (v := (.slice a53 xs.length cap54)) md (RdS.mono hv (Le.trans hle7 (Le.trans hle15 (Le.trans hle27 hle41)))) (by first | omega | simp) (hst265.sats.take 1 rfl) hreg47) (fun v266 w267 R268 L269 hp270 hle271 hst272 => ?_)
              obtain ⟨c273, rfl, rfl, hreg274⟩ := hp270
              have hreg275 : Reg R268 p17 (RS.add (RS.bump e1 1 (Int.tmod q3 3)) md xs) c273 := hreg274
              refine L_val (v := (.int .i64 41)) (w' := w267) rfl rfl rfl rfl ?_
              refine L_val (v := (.bool ((RS.addE (RS.bump e1 1 (Int.tmod q3 3)) md xs) != 41))) (w' := w267) rfl rfl rfl (by kernel_rfl) ?_
              refine L_val (v := (.bool ((RS.addE (RS.bump e1 1 (Int.tmod q3 3)) md xs) != 41))) (w' := w267) rfl rfl rfl rfl ?_
              have c276 : ((RS.addE (RS.bump e1 1 (Int.tmod q3 3)) md xs) != 41) = false := by rw [hA]; simp
              have q277 : RS.addE (RS.bump e1 1 (Int.tmod q3 3)) md xs = 41 := by simpa using c276
              refine L_guard rfl rfl rfl rfl c276 ?_
              refine L_val (v := (ptr p17 0)) (w' := w267) rfl rfl rfl rfl ?_
              refine L_guard rfl rfl rfl rfl c276 ?_
              refine L_callG hst272 (v := (.bool (holds (RS.add (RS.bump e1 1 (Int.tmod q3 3)) md xs).vers (RS.add (RS.bump e1 1 (Int.tmod q3 3)) md xs).mods 5))) rfl rfl rfl (x_call (vs := #[(ptr p17 0), (.int .i64 5)]) rfl rfl (by kernel_rfl) ent_15) (Holds_reg (w := w267) 5 hreg275 hst272.rle' (hst272.get (i := 0) rfl)) (fun w278 hst279 => ?_)
              refine L_guard rfl rfl rfl rfl c276 ?_
              refine L_val (v := (.bool (!(holds (RS.add (RS.bump e1 1 (Int.tmod q3 3)) md xs).vers (RS.add (RS.bump e1 1 (Int.tmod q3 3)) md xs).mods 5)))) (w' := w278) rfl rfl rfl rfl ?_
              refine L_val (v := (.bool (!(holds (RS.add (RS.bump e1 1 (Int.tmod q3 3)) md xs).vers (RS.add (RS.bump e1 1 (Int.tmod q3 3)) md xs).mods 5)))) (w' := w278) rfl rfl rfl (x_pick rfl rfl (by rw [c276]; rfl)) ?_
              refine L_nil ?_
              have c280 : (holds (RS.add (RS.bump e1 1 (Int.tmod q3 3)) md xs).vers (RS.add (RS.bump e1 1 (Int.tmod q3 3)) md xs).mods 5) = true := RS.five h5 md xs
              refine W_cond_false (by show Value.bool _ = _; exact congrArg Value.bool (by rw [c280]; rfl)) ?_
              refine W_skip ?_
              refine W_seq ?_
              refine W_region_lit ?_
              refine L_val (v := (.bool true)) (w' := w278) rfl rfl rfl rfl ?_
              refine L_val (v := (.bool true)) (w' := w278) rfl rfl rfl rfl ?_
              refine L_guard rfl rfl rfl rfl rfl ?_
              refine L_val (v := (ptr p17 0)) (w' := w278) rfl rfl rfl rfl ?_
              refine L_guard rfl rfl rfl rfl rfl ?_
              refine L_val (v := (.int .i64 md)) (w' := w278) rfl rfl rfl rfl ?_
              refine L_guard rfl rfl rfl rfl rfl ?_
              refine L_callG hst279 (v := (.bool (holds (RS.add (RS.bump e1 1 (Int.tmod q3 3)) md xs).vers (RS.add (RS.bump e1 1 (Int.tmod q3 3)) md xs).mods md))) rfl rfl rfl (x_call (vs := #[(ptr p17 0), (.int .i64 md)]) rfl rfl (by kernel_rfl) ent_15) (Holds_reg (w := w278) md hreg275 hst279.rle' (hst279.get (i := 0) rfl)) (fun w281 hst282 => ?_)
              refine L_guard rfl rfl rfl rfl rfl ?_
              refine L_val (v := (.int .i64 41)) (w' := w281) rfl rfl rfl rfl ?_
              refine L_guard rfl rfl rfl rfl rfl ?_
              refine L_val (v := (.bool false)) (w' := w281) rfl rfl rfl (by kernel_rfl) ?_
              refine L_guard rfl rfl rfl rfl rfl ?_
              refine L_val (v := (.bool false)) (w' := w281) rfl rfl rfl rfl ?_
              refine L_guard rfl rfl rfl rfl rfl ?_
              refine L_val (v := (.int .i64 md)) (w' := w281) rfl rfl rfl rfl ?_
              refine L_guard rfl rfl rfl rfl rfl ?_
              refine L_val (v := (.bool (md == 5))) (w' := w281) rfl rfl rfl (by kernel_rfl) ?_
              refine L_guard rfl rfl rfl rfl rfl ?_
              refine L_val (v := (.bool (md == 5))) (w' := w281) rfl rfl rfl rfl ?_
              refine L_guard rfl rfl rfl rfl rfl ?_
              have hq283 : ((holds (RS.add (RS.bump e1 1 (Int.tmod q3 3)) md xs).vers (RS.add (RS.bump e1 1 (Int.tmod q3 3)) md xs).mods md) == (md == 5)) = true := by rw [RS.holds_add h5 md xs hA]; rw [beq_iff_eq, Bool.eq_iff_iff, Bool.or_eq_true, decide_eq_true_eq, decide_eq_true_eq]; first | (rw [beq_iff_eq]; omega) | (simp only [iff_true]; omega)
              refine L_val (v := .bool ((holds (RS.add (RS.bump e1 1 (Int.tmod q3 3)) md xs).vers (RS.add (RS.bump e1 1 (Int.tmod q3 3)) md xs).mods md) == (md == 5))) (w' := w281) rfl rfl rfl (by kernel_rfl) ?_
              refine L_val (v := (.bool ((holds (RS.add (RS.bump e1 1 (Int.tmod q3 3)) md xs).vers (RS.add (RS.bump e1 1 (Int.tmod q3 3)) md xs).mods md) == (md == 5)))) (w' := w281) rfl rfl rfl rfl ?_
              refine L_val (v := (.bool ((holds (RS.add (RS.bump e1 1 (Int.tmod q3 3)) md xs).vers (RS.add (RS.bump e1 1 (Int.tmod q3 3)) md xs).mods md) == (md == 5)))) (w' := w281) rfl rfl rfl rfl ?_
              refine L_guard rfl rfl rfl rfl hq283 ?_
              refine L_val (v := (ptr p17 0)) (w' := w281) rfl rfl rfl rfl ?_
              refine L_guard rfl rfl rfl rfl hq283 ?_
              refine L_call rfl rfl rfl (x_call (vs := #[(ptr p17 0)]) rfl rfl (by kernel_rfl) ent_13) (Modules_reg hreg275 (hst282.get (i := 0) rfl) (RS.add_ne hne md xs) (Nat.le_trans h2m (by decide))) ?_
              rintro e284 w285 ⟨v286, R287, L288, rfl, hst289, c290, rfl, ho291⟩
              refine ⟨_, rfl, ?_⟩
              have hst292 := Step.gain hst282 hst289
              have ho293 := OwnL.reint (R' := R268) ho291
              refine L_guard rfl rfl rfl rfl hq283 ?_
              obtain ⟨a294, cap295, e296, hc297⟩ := ho293.value
              subst e296
              refine L_val (v := (.int .i64 (((RS.modules (RS.add (RS.bump e1 1 (Int.tmod q3 3)) md xs)).length : Nat) : Int))) (w' := w285) rfl rfl rfl (x_len_slice rfl sl_31 rfl) ?_
              refine L_guard rfl rfl rfl rfl hq283 ?_
              have hq298 : decide ((((RS.modules (RS.add (RS.bump e1 1 (Int.tmod q3 3)) md xs)).length : Nat) : Int) ≤ 2) = true := decide_eq_true (by rw [RS.modules_len]; omega)
              refine L_val (v := .bool (decide ((((RS.modules (RS.add (RS.bump e1 1 (Int.tmod q3 3)) md xs)).length : Nat) : Int) ≤ 2))) (w' := w285) rfl rfl rfl (by kernel_rfl) ?_
              refine L_val (v := (.bool (decide ((((RS.modules (RS.add (RS.bump e1 1 (Int.tmod q3 3)) md xs)).length : Nat) : Int) ≤ 2)))) (w' := w285) rfl rfl rfl (x_pick rfl rfl (by rw [hq283]; rfl)) ?_
              refine L_val (v := (.bool (decide ((((RS.modules (RS.add (RS.bump e1 1 (Int.tmod q3 3)) md xs)).length : Nat) : Int) ≤ 2)))) (w' := w285) rfl rfl rfl rfl ?_
              refine L_nil ?_
              refine W_ret ?_
              refine ⟨_, _, res_run (rs := [.tmp 6]) (vs := [(.bool (decide ((((RS.modules (RS.add (RS.bump e1 1 (Int.tmod q3 3)) md xs)).length : Nat) : Int) ≤ 2)))]) Try.results4 (.cons (.tmp rfl) .nil) hmk57, ?_⟩
              exact ⟨_, _, [], rfl, hst292.keepN 0 rfl, congrArg Value.bool hq298, rfl⟩
            · skip
              have q299 : wt67 = 1 := by simpa using c263
              refine W_cond_false (by show Value.bool _ = _; exact congrArg Value.bool c263) ?_
              refine W_skip ?_
              refine W_seq ?_
              refine W_seq ?_
              have hA : RS.addE (RS.bump e1 1 (Int.tmod q3 3)) md xs = wt67 := (RS.addE_want h5 md xs hW).trans (want2_eq (by omega))
              have h2m := RS.two h5 md xs
              refine W_region_lit ?_
              refine L_val (v := (ptr p17 0)) (w' := w59) rfl rfl rfl rfl ?_
              refine L_val (v := (.int .i64 md)) (w' := w59) rfl rfl rfl rfl ?_
              refine L_val (v := (.slice a53 xs.length cap54)) (w' := w59) rfl rfl rfl rfl ?_
              have hst300 := hst58
              refine L_callS [c43] [cS68] hst300 rfl rfl rfl (x_call (vs := #[(ptr p17 0), (.int .i64 md), (.slice a53 xs.length cap54)]) rfl rfl (by kernel_rfl) ent_11) (Add_spec (v := (.slice a53 xs.length cap54)) md (RdS.mono hv (Le.trans hle7 (Le.trans hle15 (Le.trans hle27 hle41)))) (by first | omega | simp) (hst300.sats.take 1 rfl) hreg47) (fun v301 w302 R303 L304 hp305 hle306 hst307 => ?_)
              obtain ⟨c308, rfl, rfl, hreg309⟩ := hp305
              have hreg310 : Reg R303 p17 (RS.add (RS.bump e1 1 (Int.tmod q3 3)) md xs) c308 := hreg309
              refine L_val (v := (.int .i64 wt67)) (w' := w302) rfl rfl rfl rfl ?_
              refine L_val (v := (.bool ((RS.addE (RS.bump e1 1 (Int.tmod q3 3)) md xs) != wt67))) (w' := w302) rfl rfl rfl (by kernel_rfl) ?_
              refine L_val (v := (.bool ((RS.addE (RS.bump e1 1 (Int.tmod q3 3)) md xs) != wt67))) (w' := w302) rfl rfl rfl rfl ?_
              have c311 : ((RS.addE (RS.bump e1 1 (Int.tmod q3 3)) md xs) != wt67) = false := by rw [hA]; simp
              have q312 : RS.addE (RS.bump e1 1 (Int.tmod q3 3)) md xs = wt67 := by simpa using c311
              refine L_guard rfl rfl rfl rfl c311 ?_
              refine L_val (v := (ptr p17 0)) (w' := w302) rfl rfl rfl rfl ?_
              refine L_guard rfl rfl rfl rfl c311 ?_
              refine L_callG hst307 (v := (.bool (holds (RS.add (RS.bump e1 1 (Int.tmod q3 3)) md xs).vers (RS.add (RS.bump e1 1 (Int.tmod q3 3)) md xs).mods 5))) rfl rfl rfl (x_call (vs := #[(ptr p17 0), (.int .i64 5)]) rfl rfl (by kernel_rfl) ent_15) (Holds_reg (w := w302) 5 hreg310 hst307.rle' (hst307.get (i := 0) rfl)) (fun w313 hst314 => ?_)
              refine L_guard rfl rfl rfl rfl c311 ?_
              refine L_val (v := (.bool (!(holds (RS.add (RS.bump e1 1 (Int.tmod q3 3)) md xs).vers (RS.add (RS.bump e1 1 (Int.tmod q3 3)) md xs).mods 5)))) (w' := w313) rfl rfl rfl rfl ?_
              refine L_val (v := (.bool (!(holds (RS.add (RS.bump e1 1 (Int.tmod q3 3)) md xs).vers (RS.add (RS.bump e1 1 (Int.tmod q3 3)) md xs).mods 5)))) (w' := w313) rfl rfl rfl (x_pick rfl rfl (by rw [c311]; rfl)) ?_
              refine L_nil ?_
              have c315 : (holds (RS.add (RS.bump e1 1 (Int.tmod q3 3)) md xs).vers (RS.add (RS.bump e1 1 (Int.tmod q3 3)) md xs).mods 5) = true := RS.five h5 md xs
              refine W_cond_false (by show Value.bool _ = _; exact congrArg Value.bool (by rw [c315]; rfl)) ?_
              refine W_skip ?_
              refine W_seq ?_
              refine W_region_lit ?_
              refine L_val (v := (.bool true)) (w' := w313) rfl rfl rfl rfl ?_
              refine L_val (v := (.bool true)) (w' := w313) rfl rfl rfl rfl ?_
              refine L_guard rfl rfl rfl rfl rfl ?_
              refine L_val (v := (ptr p17 0)) (w' := w313) rfl rfl rfl rfl ?_
              refine L_guard rfl rfl rfl rfl rfl ?_
              refine L_val (v := (.int .i64 md)) (w' := w313) rfl rfl rfl rfl ?_
              refine L_guard rfl rfl rfl rfl rfl ?_
              refine L_callG hst314 (v := (.bool (holds (RS.add (RS.bump e1 1 (Int.tmod q3 3)) md xs).vers (RS.add (RS.bump e1 1 (Int.tmod q3 3)) md xs).mods md))) rfl rfl rfl (x_call (vs := #[(ptr p17 0), (.int .i64 md)]) rfl rfl (by kernel_rfl) ent_15) (Holds_reg (w := w313) md hreg310 hst314.rle' (hst314.get (i := 0) rfl)) (fun w316 hst317 => ?_)
              refine L_guard rfl rfl rfl rfl rfl ?_
              refine L_val (v := (.int .i64 wt67)) (w' := w316) rfl rfl rfl rfl ?_
              refine L_guard rfl rfl rfl rfl rfl ?_
              refine L_val (v := (.bool (wt67 == 0))) (w' := w316) rfl rfl rfl (by kernel_rfl) ?_
              refine L_guard rfl rfl rfl rfl rfl ?_
              refine L_val (v := (.bool (wt67 == 0))) (w' := w316) rfl rfl rfl rfl ?_
              rcases Bool.eq_false_or_eq_true (wt67 == 0) with c318 | c318
              · skip
                have q319 := eq_of_beq c318
                refine L_unwanted rfl rfl rfl rfl (by rw [c318]; rfl) rfl rfl ?_
                refine L_unwanted rfl rfl rfl rfl (by rw [c318]; rfl) rfl rfl ?_
                refine L_guard rfl rfl rfl rfl rfl ?_
                refine L_val (v := (.bool true)) (w' := w316) rfl rfl rfl (x_pick rfl rfl (by rw [c318]; rfl)) ?_
                refine L_guard rfl rfl rfl rfl rfl ?_
                have hq320 : ((holds (RS.add (RS.bump e1 1 (Int.tmod q3 3)) md xs).vers (RS.add (RS.bump e1 1 (Int.tmod q3 3)) md xs).mods md) == true) = true := by rw [RS.holds_add h5 md xs hA]; rw [beq_iff_eq, Bool.eq_iff_iff, Bool.or_eq_true, decide_eq_true_eq, decide_eq_true_eq]; first | (rw [beq_iff_eq]; omega) | (simp only [iff_true]; omega)
                refine L_val (v := .bool ((holds (RS.add (RS.bump e1 1 (Int.tmod q3 3)) md xs).vers (RS.add (RS.bump e1 1 (Int.tmod q3 3)) md xs).mods md) == true)) (w' := w316) rfl rfl rfl (by kernel_rfl) ?_
                refine L_val (v := (.bool ((holds (RS.add (RS.bump e1 1 (Int.tmod q3 3)) md xs).vers (RS.add (RS.bump e1 1 (Int.tmod q3 3)) md xs).mods md) == true))) (w' := w316) rfl rfl rfl rfl ?_
                refine L_val (v := (.bool ((holds (RS.add (RS.bump e1 1 (Int.tmod q3 3)) md xs).vers (RS.add (RS.bump e1 1 (Int.tmod q3 3)) md xs).mods md) == true))) (w' := w316) rfl rfl rfl rfl ?_
                refine L_guard rfl rfl rfl rfl hq320 ?_
                refine L_val (v := (ptr p17 0)) (w' := w316) rfl rfl rfl rfl ?_
                refine L_guard rfl rfl rfl rfl hq320 ?_
                refine L_call rfl rfl rfl (x_call (vs := #[(ptr p17 0)]) rfl rfl (by kernel_rfl) ent_13) (Modules_reg hreg310 (hst317.get (i := 0) rfl) (RS.add_ne hne md xs) (Nat.le_trans h2m (by decide))) ?_
                rintro e321 w322 ⟨v323, R324, L325, rfl, hst326, c327, rfl, ho328⟩
                refine ⟨_, rfl, ?_⟩
                have hst329 := Step.gain hst317 hst326
                have ho330 := OwnL.reint (R' := R303) ho328
                refine L_guard rfl rfl rfl rfl hq320 ?_
                obtain ⟨a331, cap332, e333, hc334⟩ := ho330.value
                subst e333
                refine L_val (v := (.int .i64 (((RS.modules (RS.add (RS.bump e1 1 (Int.tmod q3 3)) md xs)).length : Nat) : Int))) (w' := w322) rfl rfl rfl (x_len_slice rfl sl_31 rfl) ?_
                refine L_guard rfl rfl rfl rfl hq320 ?_
                have hq335 : decide ((((RS.modules (RS.add (RS.bump e1 1 (Int.tmod q3 3)) md xs)).length : Nat) : Int) ≤ 2) = true := decide_eq_true (by rw [RS.modules_len]; omega)
                refine L_val (v := .bool (decide ((((RS.modules (RS.add (RS.bump e1 1 (Int.tmod q3 3)) md xs)).length : Nat) : Int) ≤ 2))) (w' := w322) rfl rfl rfl (by kernel_rfl) ?_
                refine L_val (v := (.bool (decide ((((RS.modules (RS.add (RS.bump e1 1 (Int.tmod q3 3)) md xs)).length : Nat) : Int) ≤ 2)))) (w' := w322) rfl rfl rfl (x_pick rfl rfl (by rw [hq320]; rfl)) ?_
                refine L_val (v := (.bool (decide ((((RS.modules (RS.add (RS.bump e1 1 (Int.tmod q3 3)) md xs)).length : Nat) : Int) ≤ 2)))) (w' := w322) rfl rfl rfl rfl ?_
                refine L_nil ?_
                refine W_ret ?_
                refine ⟨_, _, res_run (rs := [.tmp 6]) (vs := [(.bool (decide ((((RS.modules (RS.add (RS.bump e1 1 (Int.tmod q3 3)) md xs)).length : Nat) : Int) ≤ 2)))]) Try.results4 (.cons (.tmp rfl) .nil) hmk57, ?_⟩
                exact ⟨_, _, [], rfl, hst329.keepN 0 rfl, congrArg Value.bool hq335, rfl⟩
              · skip
                have q336 := ne_of_beq_false c318
                refine L_guard rfl rfl rfl rfl c318 ?_
                refine L_val (v := (.int .i64 md)) (w' := w316) rfl rfl rfl rfl ?_
                refine L_guard rfl rfl rfl rfl c318 ?_
                refine L_val (v := (.bool (md == 5))) (w' := w316) rfl rfl rfl (by kernel_rfl) ?_
                refine L_guard rfl rfl rfl rfl rfl ?_
                refine L_val (v := (.bool (md == 5))) (w' := w316) rfl rfl rfl (x_pick rfl rfl (by rw [c318]; rfl)) ?_
                refine L_guard rfl rfl rfl rfl rfl ?_
                have hq337 : ((holds (RS.add (RS.bump e1 1 (Int.tmod q3 3)) md xs).vers (RS.add (RS.bump e1 1 (Int.tmod q3 3)) md xs).mods md) == (md == 5)) = true := by rw [RS.holds_add h5 md xs hA]; rw [beq_iff_eq, Bool.eq_iff_iff, Bool.or_eq_true, decide_eq_true_eq, decide_eq_true_eq]; first | (rw [beq_iff_eq]; omega) | (simp only [iff_true]; omega)
                refine L_val (v := .bool ((holds (RS.add (RS.bump e1 1 (Int.tmod q3 3)) md xs).vers (RS.add (RS.bump e1 1 (Int.tmod q3 3)) md xs).mods md) == (md == 5))) (w' := w316) rfl rfl rfl (by kernel_rfl) ?_
                refine L_val (v := (.bool ((holds (RS.add (RS.bump e1 1 (Int.tmod q3 3)) md xs).vers (RS.add (RS.bump e1 1 (Int.tmod q3 3)) md xs).mods md) == (md == 5)))) (w' := w316) rfl rfl rfl rfl ?_
                refine L_val (v := (.bool ((holds (RS.add (RS.bump e1 1 (Int.tmod q3 3)) md xs).vers (RS.add (RS.bump e1 1 (Int.tmod q3 3)) md xs).mods md) == (md == 5)))) (w' := w316) rfl rfl rfl rfl ?_
                refine L_guard rfl rfl rfl rfl hq337 ?_
                refine L_val (v := (ptr p17 0)) (w' := w316) rfl rfl rfl rfl ?_
                refine L_guard rfl rfl rfl rfl hq337 ?_
                refine L_call rfl rfl rfl (x_call (vs := #[(ptr p17 0)]) rfl rfl (by kernel_rfl) ent_13) (Modules_reg hreg310 (hst317.get (i := 0) rfl) (RS.add_ne hne md xs) (Nat.le_trans h2m (by decide))) ?_
                rintro e338 w339 ⟨v340, R341, L342, rfl, hst343, c344, rfl, ho345⟩
                refine ⟨_, rfl, ?_⟩
                have hst346 := Step.gain hst317 hst343
                have ho347 := OwnL.reint (R' := R303) ho345
                refine L_guard rfl rfl rfl rfl hq337 ?_
                obtain ⟨a348, cap349, e350, hc351⟩ := ho347.value
                subst e350
                refine L_val (v := (.int .i64 (((RS.modules (RS.add (RS.bump e1 1 (Int.tmod q3 3)) md xs)).length : Nat) : Int))) (w' := w339) rfl rfl rfl (x_len_slice rfl sl_31 rfl) ?_
                refine L_guard rfl rfl rfl rfl hq337 ?_
                have hq352 : decide ((((RS.modules (RS.add (RS.bump e1 1 (Int.tmod q3 3)) md xs)).length : Nat) : Int) ≤ 2) = true := decide_eq_true (by rw [RS.modules_len]; omega)
                refine L_val (v := .bool (decide ((((RS.modules (RS.add (RS.bump e1 1 (Int.tmod q3 3)) md xs)).length : Nat) : Int) ≤ 2))) (w' := w339) rfl rfl rfl (by kernel_rfl) ?_
                refine L_val (v := (.bool (decide ((((RS.modules (RS.add (RS.bump e1 1 (Int.tmod q3 3)) md xs)).length : Nat) : Int) ≤ 2)))) (w' := w339) rfl rfl rfl (x_pick rfl rfl (by rw [hq337]; rfl)) ?_
                refine L_val (v := (.bool (decide ((((RS.modules (RS.add (RS.bump e1 1 (Int.tmod q3 3)) md xs)).length : Nat) : Int) ≤ 2)))) (w' := w339) rfl rfl rfl rfl ?_
                refine L_nil ?_
                refine W_ret ?_
                refine ⟨_, _, res_run (rs := [.tmp 6]) (vs := [(.bool (decide ((((RS.modules (RS.add (RS.bump e1 1 (Int.tmod q3 3)) md xs)).length : Nat) : Int) ≤ 2)))]) Try.results4 (.cons (.tmp rfl) .nil) hmk57, ?_⟩
                exact ⟨_, _, [], rfl, hst346.keepN 0 rfl, congrArg Value.bool hq352, rfl⟩
          · skip
            have q353 := ne_of_beq_false c261
            refine L_unwanted rfl rfl rfl rfl (by rw [c261]; rfl) rfl rfl ?_
            refine L_unwanted rfl rfl rfl rfl (by rw [c261]; rfl) rfl rfl ?_
            refine L_val (v := (.bool false)) (w' := w59) rfl rfl rfl (x_pick rfl rfl (by rw [c261]; rfl)) ?_
            refine L_nil ?_
            refine W_cond_false (by show Value.bool _ = _; exact congrArg Value.bool rfl) ?_
            refine W_skip ?_
            refine W_seq ?_
            refine W_seq ?_
            have hA : RS.addE (RS.bump e1 1 (Int.tmod q3 3)) md xs = wt67 := (RS.addE_want h5 md xs hW).trans (want2_eq (by omega))
            have h2m := RS.two h5 md xs
            refine W_region_lit ?_
            refine L_val (v := (ptr p17 0)) (w' := w59) rfl rfl rfl rfl ?_
            refine L_val (v := (.int .i64 md)) (w' := w59) rfl rfl rfl rfl ?_
            refine L_val (v := (.slice a53 xs.length cap54)) (w' := w59) rfl rfl rfl rfl ?_
            have hst354 := hst58
            refine L_callS [c43] [cS68] hst354 rfl rfl rfl (x_call (vs := #[(ptr p17 0), (.int .i64 md), (.slice a53 xs.length cap54)]) rfl rfl (by kernel_rfl) ent_11) (Add_spec (v := (.slice a53 xs.length cap54)) md (RdS.mono hv (Le.trans hle7 (Le.trans hle15 (Le.trans hle27 hle41)))) (by first | omega | simp) (hst354.sats.take 1 rfl) hreg47) (fun v355 w356 R357 L358 hp359 hle360 hst361 => ?_)
            obtain ⟨c362, rfl, rfl, hreg363⟩ := hp359
            have hreg364 : Reg R357 p17 (RS.add (RS.bump e1 1 (Int.tmod q3 3)) md xs) c362 := hreg363
            refine L_val (v := (.int .i64 wt67)) (w' := w356) rfl rfl rfl rfl ?_
            refine L_val (v := (.bool ((RS.addE (RS.bump e1 1 (Int.tmod q3 3)) md xs) != wt67))) (w' := w356) rfl rfl rfl (by kernel_rfl) ?_
            refine L_val (v := (.bool ((RS.addE (RS.bump e1 1 (Int.tmod q3 3)) md xs) != wt67))) (w' := w356) rfl rfl rfl rfl ?_
            have c365 : ((RS.addE (RS.bump e1 1 (Int.tmod q3 3)) md xs) != wt67) = false := by rw [hA]; simp
            have q366 : RS.addE (RS.bump e1 1 (Int.tmod q3 3)) md xs = wt67 := by simpa using c365
            refine L_guard rfl rfl rfl rfl c365 ?_
            refine L_val (v := (ptr p17 0)) (w' := w356) rfl rfl rfl rfl ?_
            refine L_guard rfl rfl rfl rfl c365 ?_
            refine L_callG hst361 (v := (.bool (holds (RS.add (RS.bump e1 1 (Int.tmod q3 3)) md xs).vers (RS.add (RS.bump e1 1 (Int.tmod q3 3)) md xs).mods 5))) rfl rfl rfl (x_call (vs := #[(ptr p17 0), (.int .i64 5)]) rfl rfl (by kernel_rfl) ent_15) (Holds_reg (w := w356) 5 hreg364 hst361.rle' (hst361.get (i := 0) rfl)) (fun w367 hst368 => ?_)
            refine L_guard rfl rfl rfl rfl c365 ?_
            refine L_val (v := (.bool (!(holds (RS.add (RS.bump e1 1 (Int.tmod q3 3)) md xs).vers (RS.add (RS.bump e1 1 (Int.tmod q3 3)) md xs).mods 5)))) (w' := w367) rfl rfl rfl rfl ?_
            refine L_val (v := (.bool (!(holds (RS.add (RS.bump e1 1 (Int.tmod q3 3)) md xs).vers (RS.add (RS.bump e1 1 (Int.tmod q3 3)) md xs).mods 5)))) (w' := w367) rfl rfl rfl (x_pick rfl rfl (by rw [c365]; rfl)) ?_
            refine L_nil ?_
            have c369 : (holds (RS.add (RS.bump e1 1 (Int.tmod q3 3)) md xs).vers (RS.add (RS.bump e1 1 (Int.tmod q3 3)) md xs).mods 5) = true := RS.five h5 md xs
            refine W_cond_false (by show Value.bool _ = _; exact congrArg Value.bool (by rw [c369]; rfl)) ?_
            refine W_skip ?_
            refine W_seq ?_
            refine W_region_lit ?_
            refine L_val (v := (.bool true)) (w' := w367) rfl rfl rfl rfl ?_
            refine L_val (v := (.bool true)) (w' := w367) rfl rfl rfl rfl ?_
            refine L_guard rfl rfl rfl rfl rfl ?_
            refine L_val (v := (ptr p17 0)) (w' := w367) rfl rfl rfl rfl ?_
            refine L_guard rfl rfl rfl rfl rfl ?_
            refine L_val (v := (.int .i64 md)) (w' := w367) rfl rfl rfl rfl ?_
            refine L_guard rfl rfl rfl rfl rfl ?_
            refine L_callG hst368 (v := (.bool (holds (RS.add (RS.bump e1 1 (Int.tmod q3 3)) md xs).vers (RS.add (RS.bump e1 1 (Int.tmod q3 3)) md xs).mods md))) rfl rfl rfl (x_call (vs := #[(ptr p17 0), (.int .i64 md)]) rfl rfl (by kernel_rfl) ent_15) (Holds_reg (w := w367) md hreg364 hst368.rle' (hst368.get (i := 0) rfl)) (fun w370 hst371 => ?_)
            refine L_guard rfl rfl rfl rfl rfl ?_
            refine L_val (v := (.int .i64 wt67)) (w' := w370) rfl rfl rfl rfl ?_
            refine L_guard rfl rfl rfl rfl rfl ?_
            refine L_val (v := (.bool (wt67 == 0))) (w' := w370) rfl rfl rfl (by kernel_rfl) ?_
            refine L_guard rfl rfl rfl rfl rfl ?_
            refine L_val (v := (.bool (wt67 == 0))) (w' := w370) rfl rfl rfl rfl ?_
            rcases Bool.eq_false_or_eq_true (wt67 == 0) with c372 | c372
            · skip
              have q373 := eq_of_beq c372
              refine L_unwanted rfl rfl rfl rfl (by rw [c372]; rfl) rfl rfl ?_
              refine L_unwanted rfl rfl rfl rfl (by rw [c372]; rfl) rfl rfl ?_
              refine L_guard rfl rfl rfl rfl rfl ?_
              refine L_val (v := (.bool true)) (w' := w370) rfl rfl rfl (x_pick rfl rfl (by rw [c372]; rfl)) ?_
              refine L_guard rfl rfl rfl rfl rfl ?_
              have hq374 : ((holds (RS.add (RS.bump e1 1 (Int.tmod q3 3)) md xs).vers (RS.add (RS.bump e1 1 (Int.tmod q3 3)) md xs).mods md) == true) = true := by rw [RS.holds_add h5 md xs hA]; rw [beq_iff_eq, Bool.eq_iff_iff, Bool.or_eq_true, decide_eq_true_eq, decide_eq_true_eq]; first | (rw [beq_iff_eq]; omega) | (simp only [iff_true]; omega)
              refine L_val (v := .bool ((holds (RS.add (RS.bump e1 1 (Int.tmod q3 3)) md xs).vers (RS.add (RS.bump e1 1 (Int.tmod q3 3)) md xs).mods md) == true)) (w' := w370) rfl rfl rfl (by kernel_rfl) ?_
              refine L_val (v := (.bool ((holds (RS.add (RS.bump e1 1 (Int.tmod q3 3)) md xs).vers (RS.add (RS.bump e1 1 (Int.tmod q3 3)) md xs).mods md) == true))) (w' := w370) rfl rfl rfl rfl ?_
              refine L_val (v := (.bool ((holds (RS.add (RS.bump e1 1 (Int.tmod q3 3)) md xs).vers (RS.add (RS.bump e1 1 (Int.tmod q3 3)) md xs).mods md) == true))) (w' := w370) rfl rfl rfl rfl ?_
              refine L_guard rfl rfl rfl rfl hq374 ?_
              refine L_val (v := (ptr p17 0)) (w' := w370) rfl rfl rfl rfl ?_
              refine L_guard rfl rfl rfl rfl hq374 ?_
              refine L_call rfl rfl rfl (x_call (vs := #[(ptr p17 0)]) rfl rfl (by kernel_rfl) ent_13) (Modules_reg hreg364 (hst371.get (i := 0) rfl) (RS.add_ne hne md xs) (Nat.le_trans h2m (by decide))) ?_
              rintro e375 w376 ⟨v377, R378, L379, rfl, hst380, c381, rfl, ho382⟩
              refine ⟨_, rfl, ?_⟩
              have hst383 := Step.gain hst371 hst380
              have ho384 := OwnL.reint (R' := R357) ho382
              refine L_guard rfl rfl rfl rfl hq374 ?_
              obtain ⟨a385, cap386, e387, hc388⟩ := ho384.value
              subst e387
              refine L_val (v := (.int .i64 (((RS.modules (RS.add (RS.bump e1 1 (Int.tmod q3 3)) md xs)).length : Nat) : Int))) (w' := w376) rfl rfl rfl (x_len_slice rfl sl_31 rfl) ?_
              refine L_guard rfl rfl rfl rfl hq374 ?_
              have hq389 : decide ((((RS.modules (RS.add (RS.bump e1 1 (Int.tmod q3 3)) md xs)).length : Nat) : Int) ≤ 2) = true := decide_eq_true (by rw [RS.modules_len]; omega)
              refine L_val (v := .bool (decide ((((RS.modules (RS.add (RS.bump e1 1 (Int.tmod q3 3)) md xs)).length : Nat) : Int) ≤ 2))) (w' := w376) rfl rfl rfl (by kernel_rfl) ?_
              refine L_val (v := (.bool (decide ((((RS.modules (RS.add (RS.bump e1 1 (Int.tmod q3 3)) md xs)).length : Nat) : Int) ≤ 2)))) (w' := w376) rfl rfl rfl (x_pick rfl rfl (by rw [hq374]; rfl)) ?_
              refine L_val (v := (.bool (decide ((((RS.modules (RS.add (RS.bump e1 1 (Int.tmod q3 3)) md xs)).length : Nat) : Int) ≤ 2)))) (w' := w376) rfl rfl rfl rfl ?_
              refine L_nil ?_
              refine W_ret ?_
              refine ⟨_, _, res_run (rs := [.tmp 6]) (vs := [(.bool (decide ((((RS.modules (RS.add (RS.bump e1 1 (Int.tmod q3 3)) md xs)).length : Nat) : Int) ≤ 2)))]) Try.results4 (.cons (.tmp rfl) .nil) hmk57, ?_⟩
              exact ⟨_, _, [], rfl, hst383.keepN 0 rfl, congrArg Value.bool hq389, rfl⟩
            · skip
              have q390 := ne_of_beq_false c372
              refine L_guard rfl rfl rfl rfl c372 ?_
              refine L_val (v := (.int .i64 md)) (w' := w370) rfl rfl rfl rfl ?_
              refine L_guard rfl rfl rfl rfl c372 ?_
              refine L_val (v := (.bool (md == 5))) (w' := w370) rfl rfl rfl (by kernel_rfl) ?_
              refine L_guard rfl rfl rfl rfl rfl ?_
              refine L_val (v := (.bool (md == 5))) (w' := w370) rfl rfl rfl (x_pick rfl rfl (by rw [c372]; rfl)) ?_
              refine L_guard rfl rfl rfl rfl rfl ?_
              have hq391 : ((holds (RS.add (RS.bump e1 1 (Int.tmod q3 3)) md xs).vers (RS.add (RS.bump e1 1 (Int.tmod q3 3)) md xs).mods md) == (md == 5)) = true := by rw [RS.holds_add h5 md xs hA]; rw [beq_iff_eq, Bool.eq_iff_iff, Bool.or_eq_true, decide_eq_true_eq, decide_eq_true_eq]; first | (rw [beq_iff_eq]; omega) | (simp only [iff_true]; omega)
              refine L_val (v := .bool ((holds (RS.add (RS.bump e1 1 (Int.tmod q3 3)) md xs).vers (RS.add (RS.bump e1 1 (Int.tmod q3 3)) md xs).mods md) == (md == 5))) (w' := w370) rfl rfl rfl (by kernel_rfl) ?_
              refine L_val (v := (.bool ((holds (RS.add (RS.bump e1 1 (Int.tmod q3 3)) md xs).vers (RS.add (RS.bump e1 1 (Int.tmod q3 3)) md xs).mods md) == (md == 5)))) (w' := w370) rfl rfl rfl rfl ?_
              refine L_val (v := (.bool ((holds (RS.add (RS.bump e1 1 (Int.tmod q3 3)) md xs).vers (RS.add (RS.bump e1 1 (Int.tmod q3 3)) md xs).mods md) == (md == 5)))) (w' := w370) rfl rfl rfl rfl ?_
              refine L_guard rfl rfl rfl rfl hq391 ?_
              refine L_val (v := (ptr p17 0)) (w' := w370) rfl rfl rfl rfl ?_
              refine L_guard rfl rfl rfl rfl hq391 ?_
              refine L_call rfl rfl rfl (x_call (vs := #[(ptr p17 0)]) rfl rfl (by kernel_rfl) ent_13) (Modules_reg hreg364 (hst371.get (i := 0) rfl) (RS.add_ne hne md xs) (Nat.le_trans h2m (by decide))) ?_
              rintro e392 w393 ⟨v394, R395, L396, rfl, hst397, c398, rfl, ho399⟩
              refine ⟨_, rfl, ?_⟩
              have hst400 := Step.gain hst371 hst397
              have ho401 := OwnL.reint (R' := R357) ho399
              refine L_guard rfl rfl rfl rfl hq391 ?_
              obtain ⟨a402, cap403, e404, hc405⟩ := ho401.value
              subst e404
              refine L_val (v := (.int .i64 (((RS.modules (RS.add (RS.bump e1 1 (Int.tmod q3 3)) md xs)).length : Nat) : Int))) (w' := w393) rfl rfl rfl (x_len_slice rfl sl_31 rfl) ?_
              refine L_guard rfl rfl rfl rfl hq391 ?_
              have hq406 : decide ((((RS.modules (RS.add (RS.bump e1 1 (Int.tmod q3 3)) md xs)).length : Nat) : Int) ≤ 2) = true := decide_eq_true (by rw [RS.modules_len]; omega)
              refine L_val (v := .bool (decide ((((RS.modules (RS.add (RS.bump e1 1 (Int.tmod q3 3)) md xs)).length : Nat) : Int) ≤ 2))) (w' := w393) rfl rfl rfl (by kernel_rfl) ?_
              refine L_val (v := (.bool (decide ((((RS.modules (RS.add (RS.bump e1 1 (Int.tmod q3 3)) md xs)).length : Nat) : Int) ≤ 2)))) (w' := w393) rfl rfl rfl (x_pick rfl rfl (by rw [hq391]; rfl)) ?_
              refine L_val (v := (.bool (decide ((((RS.modules (RS.add (RS.bump e1 1 (Int.tmod q3 3)) md xs)).length : Nat) : Int) ≤ 2)))) (w' := w393) rfl rfl rfl rfl ?_
              refine L_nil ?_
              refine W_ret ?_
              refine ⟨_, _, res_run (rs := [.tmp 6]) (vs := [(.bool (decide ((((RS.modules (RS.add (RS.bump e1 1 (Int.tmod q3 3)) md xs)).length : Nat) : Int) ≤ 2)))]) Try.results4 (.cons (.tmp rfl) .nil) hmk57, ?_⟩
              exact ⟨_, _, [], rfl, hst400.keepN 0 rfl, congrArg Value.bool hq406, rfl⟩
  · skip
    have q407 := ne_of_beq_false c33
    refine W_cond_false (by show Value.bool _ = _; exact congrArg Value.bool c33) ?_
    refine W_skip ?_
    refine W_seq ?_
    have h5 : RS.mods e1 = [(5, [])] := by first | exact e1_mods | (rw [RS.bump_mods]; exact e1_mods)
    have hne : RS.vers e1 ≠ [] := by first | exact e1_ne | exact RS.bump_ne e1_ne _ _
    refine W_region_lit ?_
    refine L_val (v := (.int .i64 0)) (w' := w23) rfl rfl rfl rfl ?_
    refine L_nil ?_
    refine W_seq ?_
    refine W_region_lit ?_
    refine L_new hst28 (v := fun b => .map (some b)) (ob := .map #[] 0) rfl rfl rfl (by kernel_rfl) (fun b408 w409 hst410 => ?_)
    have hm411 : MapC kk (vE Value.bool) (some b408) [] _ := MapC.made b408
    generalize one b408 (.map #[] 0) = c412 at hm411 hst410
    refine L_val (v := (.map (some b408))) (w' := w409) rfl rfl rfl rfl ?_
    refine L_nil ?_
    refine W_seq ?_
    refine W_seq ?_
    refine W_region_lit ?_
    refine L_val (v := v) (w' := w409) rfl rfl rfl rfl ?_
    obtain ⟨a413, cap414, e415, hc416⟩ := hv.shape
    subst e415
    refine L_val (v := (.int .i64 (xs.length : Int))) (w' := w409) rfl rfl rfl (x_len_slice rfl sl_29 rfl) ?_
    refine L_val (v := (.int .i64 0)) (w' := w409) rfl rfl rfl rfl ?_
    refine L_nil ?_
    refine W_block ?_
    refine W_loop (I := fun σ w_ m_ => ∃ (σ0 : Fr) (k_ : Nat) (seen : List (Th × Bool)) (wt : Int) (cS : Hp), σ = upd (upd (upd (upd (upd (upd (upd (upd (upd (upd (upd (upd (upd (upd (upd (upd (upd (upd (upd (upd (upd (upd (upd (upd σ0 0 (.int .i64 md)) 1 (.slice a413 xs.length cap414)) 2 (.int .u8 a2)) 6 (.bool false)) 7 (.bool true)) 8 (ptr p17 0)) 9 (.int .i64 wt)) 10 (.map (some b408))) 14 (.bool true)) 15 (ptr p17 0)) 16 (ptr p17 0)) 17 (.bool false)) 18 (.bool false)) 19 (ptr p17 0)) 20 (.int .i64 0)) 21 (.bool false)) 22 (.bool false)) 23 (.int .u8 a2)) 24 (.int .u8 q2)) 25 (.bool (q2 == 0))) 32 (.map (some b408))) 33 (.slice a413 xs.length cap414)) 34 (.int .i64 (xs.length : Int))) 35 (.int .i64 (k_ : Int)) ∧ mks (σ0 0) = [] ∧ Step w R [] w_ R24 [c29, cS] ∧ MapC kk (vE Value.bool) (some b408) seen cS ∧ k_ ≤ xs.length ∧ wantF (RS.vers e1) (xs.drop k_) seen wt = wantF (RS.vers e1) xs [] 0 ∧ m_ = xs.length - k_) (m := xs.length - 0) ?_ ?_
    · skip
      exact ⟨_, 0, [], 0, c412, (upd_of (upd_of (upd_of (upd_of (upd_of (upd_of (upd_of (upd_of (upd_of (upd_of (upd_of (upd_of (upd_of (upd_of (upd_of (upd_of (upd_of (upd_of (upd_of (upd_of (upd_of (upd_of (upd_of (upd_of rfl rfl) rfl) rfl) rfl) rfl) rfl) rfl) rfl) rfl) rfl) rfl) rfl) rfl) rfl) rfl) rfl) rfl) rfl) rfl) rfl) rfl) rfl) rfl) rfl), rfl, (hst410.front 1 rfl rfl), hm411, (by omega), rfl, rfl⟩
    · skip
      rintro m429 σ_ w419 ⟨s424, k_425, seen426, wt427, cS428, rfl, hmk417, hst418, hi421, hf422, hf423, rfl⟩
      refine W_seq ?_
      refine W_region_lit ?_
      refine L_val (v := (.bool (decide ((k_425 : Int) < (xs.length : Int))))) (w' := w419) rfl rfl rfl (by kernel_rfl) ?_
      refine L_nil ?_
      refine W_seq ?_
      rcases Bool.eq_false_or_eq_true (decide ((k_425 : Int) < (xs.length : Int))) with c430 | c430
      · skip
        have q431 := of_decide_eq_true c430
        refine W_cond_true (by show Value.bool _ = _; exact congrArg Value.bool c430) ?_
        refine W_skip ?_
        refine W_seq ?_
        refine W_block ?_
        refine W_seq ?_
        refine W_region_lit ?_
        obtain ⟨b432, off433, cap434, cs435, T436, fz437, e438, hc439, hb440, he441⟩ := hv.open (by omega)
        cases e438
        obtain ⟨cl442, hs443, hr444⟩ := he441.at k_425 (by omega)
        obtain rfl := tyFact_open hr444
        refine L_val (v := (ptr b432 (off433 + k_425 * 3))) (w' := w419) rfl rfl rfl (x_indexAddr' rfl sl_29 ti_38 rfl rfl (by omega)) ?_
        refine L_val (v := (.agg #[(.int .i64 ((xs[k_425]'(by omega)).kind)), (.int .i64 ((xs[k_425]'(by omega)).n)), (.int .i64 ((xs[k_425]'(by omega)).version))])) (w' := w419) rfl rfl rfl (x_load rfl rfl (run_loadVar_agg ti_38 ((Le.trans hle7 (Le.trans hle15 (Le.trans hle27 hst418.rle'))) _ _ hb440) hs443 rfl)) ?_
        refine L_new hst418 (v := fun b => ptr b 0) (ob := .cells #[(.int .i64 0), (.int .i64 0), (.int .i64 0)] 38 (0, 0)) rfl rfl rfl (by kernel_rfl) (fun b445 w446 hst447 => ?_)
        refine L_store hst447 0 ti_38 rfl rfl rfl rfl rfl rfl rfl rfl rfl rfl rfl (fun w448 hst449 => ?_)
        change Step _ _ _ _ _ [one b445 (.cells #[(.int .i64 ((xs[k_425]'(by omega)).kind)), (.int .i64 ((xs[k_425]'(by omega)).n)), (.int .i64 ((xs[k_425]'(by omega)).version))] 38 (0, 0)), c29, cS428] at hst449
        refine L_nil ?_
        refine W_seq ?_
        refine W_region_lit ?_
        refine L_val (v := (ptr b445 0)) (w' := w448) rfl rfl rfl (by kernel_rfl) ?_
        refine L_val (v := (.int .i64 ((xs[k_425]'(by omega)).kind))) (w' := w448) rfl rfl rfl (x_load rfl rfl (run_loadVar_one ti_3 (hst449.blk (i := 0) rfl) rfl)) ?_
        refine L_val (v := (ptr b445 1)) (w' := w448) rfl rfl rfl (by kernel_rfl) ?_
        refine L_val (v := (.int .i64 ((xs[k_425]'(by omega)).n))) (w' := w448) rfl rfl rfl (x_load rfl rfl (run_loadVar_one ti_3 (hst449.blk (i := 0) rfl) rfl)) ?_
        refine L_val (v := (.agg #[(.int .i64 ((xs[k_425]'(by omega)).kind)), (.int .i64 ((xs[k_425]'(by omega)).n))])) (w' := w448) rfl rfl rfl (by kernel_rfl) ?_
        refine L_new hst449 (v := fun b => ptr b 0) (ob := .cells #[(.int .i64 0), (.int .i64 0)] 23 (0, 0)) rfl rfl rfl (by kernel_rfl) (fun b450 w451 hst452 => ?_)
        refine L_store hst452 0 ti_23 rfl rfl rfl rfl rfl rfl rfl rfl rfl rfl rfl (fun w453 hst454 => ?_)
        change Step _ _ _ _ _ [one b450 (.cells #[(.int .i64 ((xs[k_425]'(by omega)).kind)), (.int .i64 ((xs[k_425]'(by omega)).n))] 23 (0, 0)), one b445 (.cells #[(.int .i64 ((xs[k_425]'(by omega)).kind)), (.int .i64 ((xs[k_425]'(by omega)).n)), (.int .i64 ((xs[k_425]'(by omega)).version))] 38 (0, 0)), c29, cS428] at hst454
        refine L_nil ?_
        refine W_seq ?_
        refine W_seq ?_
        refine W_region_lit ?_
        refine L_val (v := (ptr p17 0)) (w' := w453) rfl rfl rfl rfl ?_
        refine L_val (v := (ptr b445 0)) (w' := w453) rfl rfl rfl (by kernel_rfl) ?_
        refine L_val (v := (.int .i64 ((xs[k_425]'(by omega)).kind))) (w' := w453) rfl rfl rfl (x_load rfl rfl (run_loadVar_one ti_3 (hst454.blk (i := 1) rfl) rfl)) ?_
        refine L_val (v := (ptr b445 1)) (w' := w453) rfl rfl rfl (by kernel_rfl) ?_
        refine L_val (v := (.int .i64 ((xs[k_425]'(by omega)).n))) (w' := w453) rfl rfl rfl (x_load rfl rfl (run_loadVar_one ti_3 (hst454.blk (i := 1) rfl) rfl)) ?_
        refine L_callG hst454 (v := (.int .i64 (ver e1.vers ((xs[k_425]'(by omega)).kind, (xs[k_425]'(by omega)).n)))) rfl rfl rfl (x_call (vs := #[(ptr p17 0), (.int .i64 ((xs[k_425]'(by omega)).kind)), (.int .i64 ((xs[k_425]'(by omega)).n))]) rfl rfl (by kernel_rfl) ent_16) (Version_reg (w := w453) ((xs[k_425]'(by omega)).kind) ((xs[k_425]'(by omega)).n) hreg32 (hst454.get (i := 2) rfl)) (fun w455 hst456 => ?_)
        refine L_val (v := (.bool (decide (ver e1.vers ((xs[k_425]'(by omega)).kind, (xs[k_425]'(by omega)).n) < 0)))) (w' := w455) rfl rfl rfl (by kernel_rfl) ?_
        refine L_val (v := (.bool (decide (ver e1.vers ((xs[k_425]'(by omega)).kind, (xs[k_425]'(by omega)).n) < 0)))) (w' := w455) rfl rfl rfl rfl ?_
        rcases Bool.eq_false_or_eq_true (decide (ver e1.vers ((xs[k_425]'(by omega)).kind, (xs[k_425]'(by omega)).n) < 0)) with c457 | c457
        · skip
          have q458 := of_decide_eq_true c457
          refine L_unwanted rfl rfl rfl rfl (by rw [c457]; rfl) rfl rfl ?_
          refine L_unwanted rfl rfl rfl rfl (by rw [c457]; rfl) rfl rfl ?_
          refine L_unwanted rfl rfl rfl rfl (by rw [c457]; rfl) rfl rfl ?_
          refine L_val (v := (.bool true)) (w' := w455) rfl rfl rfl (x_pick rfl rfl (by rw [c457]; rfl)) ?_
          refine L_nil ?_
          refine W_cond_true (by show Value.bool _ = _; exact congrArg Value.bool rfl) ?_
          refine W_region_lit ?_
          refine L_val (v := (.int .i64 1)) (w' := w455) rfl rfl rfl rfl ?_
          refine L_nil ?_
          refine W_region_lit ?_
          refine L_val (v := (.map (some b408))) (w' := w455) rfl rfl rfl rfl ?_
          refine L_val (v := (.agg #[(.int .i64 ((xs[k_425]'(by omega)).kind)), (.int .i64 ((xs[k_425]'(by omega)).n))])) (w' := w455) rfl rfl rfl (x_load rfl rfl (run_loadVar_agg ti_23 (hst456.blk (i := 0) rfl) (l := [(.int .i64 ((xs[k_425]'(by omega)).kind)), (.int .i64 ((xs[k_425]'(by omega)).n))]) rfl rfl)) ?_
          obtain ⟨c459, w460, hr461, hm462, hst463⟩ := MapC.update hi421 (hst456.front 3 rfl rfl) law23 mt_36 ((xs[k_425]'(by omega)).kind, (xs[k_425]'(by omega)).n) true (.bool true) rfl
          refine L_skip rfl rfl (x_mapUpdate rfl rfl rfl rfl hr461) ?_
          refine L_nil ?_
          refine W_region_lit ?_
          refine L_val (v := (.int .i64 ((k_425 + 1 : Nat) : Int))) (w' := w460) rfl rfl rfl (x_add_nat rfl rfl rfl (by omega)) ?_
          refine L_val (v := (.int .i64 ((k_425 + 1 : Nat) : Int))) (w' := w460) rfl rfl rfl rfl ?_
          refine L_nil ?_
          refine ⟨xs.length - (k_425 + 1), by first | omega | (simp only [List.length_append, List.length_cons, List.length_nil]; omega), ?_⟩
          exact ⟨_, (k_425 + 1), (AL.set seen426 ((xs[k_425]'(by omega)).kind, (xs[k_425]'(by omega)).n) true), 1, c459, (upd_of (upd_of (upd_of (upd_of (upd_of (upd_of (upd_of (upd_of (upd_of (upd_of (upd_of (upd_of (upd_of (upd_of (upd_of (upd_of (upd_of (upd_of (upd_of (upd_of (upd_of (upd_of (upd_of (upd_of rfl rfl) rfl) rfl) rfl) rfl) rfl) rfl) rfl) rfl) rfl) rfl) rfl) rfl) rfl) rfl) rfl) rfl) rfl) rfl) rfl) rfl) rfl) rfl) rfl), hmk417, ((hst463.front 3 rfl rfl).keepN 2 rfl), hm462, (by omega), (wantF_step (by omega) hf423 (wantStep_1 (of_decide_eq_true c457))), rfl⟩
        · skip
          have q464 := of_decide_eq_false c457
          refine L_guard rfl rfl rfl rfl c457 ?_
          refine L_val (v := (.map (some b408))) (w' := w455) rfl rfl rfl rfl ?_
          refine L_guard rfl rfl rfl rfl c457 ?_
          refine L_val (v := (.agg #[(.int .i64 ((xs[k_425]'(by omega)).kind)), (.int .i64 ((xs[k_425]'(by omega)).n))])) (w' := w455) rfl rfl rfl (x_load rfl rfl (run_loadVar_agg ti_23 (hst456.blk (i := 0) rfl) (l := [(.int .i64 ((xs[k_425]'(by omega)).kind)), (.int .i64 ((xs[k_425]'(by omega)).n))]) rfl rfl)) ?_
          refine L_guard rfl rfl rfl rfl c457 ?_
          obtain ⟨v465, hr466, hv467⟩ := MapC.lookupD (w := w455) hi421 (hst456.get (i := 3) rfl) law23 mt_36 ti_4 ((xs[k_425]'(by omega)).kind, (xs[k_425]'(by omega)).n) false false rfl
          have hv467' : v465 = .bool ((AL.get seen426 ((xs[k_425]'(by omega)).kind, (xs[k_425]'(by omega)).n)).getD false) := hv467
          subst hv467'
          refine L_val (v := (.bool ((AL.get seen426 ((xs[k_425]'(by omega)).kind, (xs[k_425]'(by omega)).n)).getD false))) (w' := w455) rfl rfl rfl (x_lookup rfl rfl rfl hr466) ?_
          refine L_val (v := (.bool ((AL.get seen426 ((xs[k_425]'(by omega)).kind, (xs[k_425]'(by omega)).n)).getD false))) (w' := w455) rfl rfl rfl (x_pick rfl rfl (by rw [c457]; rfl)) ?_
          refine L_nil ?_
          rcases Bool.eq_false_or_eq_true ((AL.get seen426 ((xs[k_425]'(by omega)).kind, (xs[k_425]'(by omega)).n)).getD false) with c468 | c468
          · skip
            refine W_cond_true (by show Value.bool _ = _; exact congrArg Value.bool c468) ?_
            refine W_region_lit ?_
            refine L_val (v := (.int .i64 1)) (w' := w455) rfl rfl rfl rfl ?_
            refine L_nil ?_
            refine W_region_lit ?_
            refine L_val (v := (.map (some b408))) (w' := w455) rfl rfl rfl rfl ?_
            refine L_val (v := (.agg #[(.int .i64 ((xs[k_425]'(by omega)).kind)), (.int .i64 ((xs[k_425]'(by omega)).n))])) (w' := w455) rfl rfl rfl (x_load rfl rfl (run_loadVar_agg ti_23 (hst456.blk (i := 0) rfl) (l := [(.int .i64 ((xs[k_425]'(by omega)).kind)), (.int .i64 ((xs[k_425]'(by omega)).n))]) rfl rfl)) ?_
            obtain ⟨c469, w470, hr471, hm472, hst473⟩ := MapC.update hi421 (hst456.front 3 rfl rfl) law23 mt_36 ((xs[k_425]'(by omega)).kind, (xs[k_425]'(by omega)).n) true (.bool true) rfl
            refine L_skip rfl rfl (x_mapUpdate rfl rfl rfl rfl hr471) ?_
            refine L_nil ?_
            refine W_region_lit ?_
            refine L_val (v := (.int .i64 ((k_425 + 1 : Nat) : Int))) (w' := w470) rfl rfl rfl (x_add_nat rfl rfl rfl (by omega)) ?_
            refine L_val (v := (.int .i64 ((k_425 + 1 : Nat) : Int))) (w' := w470) rfl rfl rfl rfl ?_
            refine L_nil ?_
            refine ⟨xs.length - (k_425 + 1), by first | omega | (simp only [List.length_append, List.length_cons, List.length_nil]; omega), ?_⟩
            exact ⟨_, (k_425 + 1), (AL.set seen426 ((xs[k_425]'(by omega)).kind, (xs[k_425]'(by omega)).n) true), 1, c469, (upd_of (upd_of (upd_of (upd_of (upd_of (upd_of (upd_of (upd_of (upd_of (upd_of (upd_of (upd_of (upd_of (upd_of (upd_of (upd_of (upd_of (upd_of (upd_of (upd_of (upd_of (upd_of (upd_of (upd_of rfl rfl) rfl) rfl) rfl) rfl) rfl) rfl) rfl) rfl) rfl) rfl) rfl) rfl) rfl) rfl) rfl) rfl) rfl) rfl) rfl) rfl) rfl) rfl) rfl), hmk417, ((hst473.front 3 rfl rfl).keepN 2 rfl), hm472, (by omega), (wantF_step (by omega) hf423 (wantStep_2 (of_decide_eq_false c457) c468)), rfl⟩
          · skip
            refine W_cond_false (by show Value.bool _ = _; exact congrArg Value.bool c468) ?_
            refine W_seq ?_
            refine W_region_draw [] (fun w => Le R24 (hp w) ∧ Le (one b450 (.cells #[(.int .i64 ((xs[k_425]'(by omega)).kind)), (.int .i64 ((xs[k_425]'(by omega)).n))] 23 (0, 0))) (hp w) ∧ Le (one b445 (.cells #[(.int .i64 ((xs[k_425]'(by omega)).kind)), (.int .i64 ((xs[k_425]'(by omega)).n)), (.int .i64 ((xs[k_425]'(by omega)).version))] 38 (0, 0))) (hp w) ∧ Le c29 (hp w) ∧ Le cS428 (hp w)) hmix (by decide +kernel) (fun _ _ h => h) ?_
            have hst475 := hst456.draws (w455.drawn + 1)
            generalize draws w455 (w455.drawn + 1) = w474 at hst475 ⊢
            refine LA_takeP (v := (ptr b445 2)) 0 rfl rfl rfl (by decide +kernel) (by decide +kernel) (by decide +kernel) (by decide +kernel) (fun _ _ _ h => h) (Want.plain rfl) (fun u477 => (by kernel_rfl)) (fun _ => ⟨hst475.rle', hst475.get (i := 0) rfl, hst475.get (i := 1) rfl, hst475.get (i := 2) rfl, hst475.get (i := 3) rfl⟩) ?_
            refine LA_take (v := (.int .i64 ((xs[k_425]'(by omega)).version))) 1 rfl rfl rfl (by decide +kernel) (by decide +kernel) (by decide +kernel) (by decide +kernel) (by decide +kernel) (fun _ _ _ h => h) (Want.plain rfl) (fun u480 hF481 => (x_load rfl rfl (run_loadVar_one ti_3 (hF481.2.2.1 _ _ (one_self _ _)) rfl))) ⟨hst475.rle', hst475.get (i := 0) rfl, hst475.get (i := 1) rfl, hst475.get (i := 2) rfl, hst475.get (i := 3) rfl⟩ ?_
            refine LA_takeP (v := (ptr p17 0)) 2 rfl rfl rfl (by decide +kernel) (by decide +kernel) (by decide +kernel) (by decide +kernel) (fun _ _ _ h => h) (Want.plain rfl) (fun u483 => rfl) (fun _ => ⟨hst475.rle', hst475.get (i := 0) rfl, hst475.get (i := 1) rfl, hst475.get (i := 2) rfl, hst475.get (i := 3) rfl⟩) ?_
            refine LA_takeP (v := (ptr b445 0)) 3 rfl rfl rfl (by decide +kernel) (by decide +kernel) (by decide +kernel) (by decide +kernel) (fun _ _ _ h => h) (Want.plain rfl) (fun u486 => (by kernel_rfl)) (fun _ => ⟨hst475.rle', hst475.get (i := 0) rfl, hst475.get (i := 1) rfl, hst475.get (i := 2) rfl, hst475.get (i := 3) rfl⟩) ?_
            refine LA_take (v := (.int .i64 ((xs[k_425]'(by omega)).kind))) 4 rfl rfl rfl (by decide +kernel) (by decide +kernel) (by decide +kernel) (by decide +kernel) (by decide +kernel) (fun _ _ _ h => h) (Want.plain rfl) (fun u489 hF490 => (x_load rfl rfl (run_loadVar_one ti_3 (hF490.2.2.1 _ _ (one_self _ _)) rfl))) ⟨hst475.rle', hst475.get (i := 0) rfl, hst475.get (i := 1) rfl, hst475.get (i := 2) rfl, hst475.get (i := 3) rfl⟩ ?_
            refine LA_takeP (v := (ptr b445 1)) 5 rfl rfl rfl (by decide +kernel) (by decide +kernel) (by decide +kernel) (by decide +kernel) (fun _ _ _ h => h) (Want.plain rfl) (fun u492 => (by kernel_rfl)) (fun _ => ⟨hst475.rle', hst475.get (i := 0) rfl, hst475.get (i := 1) rfl, hst475.get (i := 2) rfl, hst475.get (i := 3) rfl⟩) ?_
            refine LA_take (v := (.int .i64 ((xs[k_425]'(by omega)).n))) 6 rfl rfl rfl (by decide +kernel) (by decide +kernel) (by decide +kernel) (by decide +kernel) (by decide +kernel) (fun _ _ _ h => h) (Want.plain rfl) (fun u495 hF496 => (x_load rfl rfl (run_loadVar_one ti_3 (hF496.2.2.1 _ _ (one_self _ _)) rfl))) ⟨hst475.rle', hst475.get (i := 0) rfl, hst475.get (i := 1) rfl, hst475.get (i := 2) rfl, hst475.get (i := 3) rfl⟩ ?_
            refine LA_all [7] (by decide +kernel) (by simp) ?_
            intro i_ hi_
            simp only [List.mem_cons, List.not_mem_nil, or_false] at hi_
            subst hi_
            refine One_call (i := 7) rfl rfl rfl (Want.plain rfl) (x_call (vs := #[(ptr p17 0), (.int .i64 ((xs[k_425]'(by omega)).kind)), (.int .i64 ((xs[k_425]'(by omega)).n))]) rfl rfl (by kernel_rfl) ent_16) (Version_reg (w := w474) ((xs[k_425]'(by omega)).kind) ((xs[k_425]'(by omega)).n) hreg32 (hst475.get (i := 2) rfl)) ?_
            rintro e502 w500 ⟨rfl, hw503⟩
            have hst501 := hst475.grown hw503
            refine ⟨_, rfl, (fun _ => ⟨hst501.rle', hst501.get (i := 0) rfl, hst501.get (i := 1) rfl, hst501.get (i := 2) rfl, hst501.get (i := 3) rfl⟩), ?_⟩
            refine LA_takeP (v := (.bool (((xs[k_425]'(by omega)).version) != (ver e1.vers ((xs[k_425]'(by omega)).kind, (xs[k_425]'(by omega)).n))))) 8 rfl rfl rfl (by decide +kernel) (by decide +kernel) (by decide +kernel) (by decide +kernel) (fun _ _ _ h => h) (Want.plain rfl) (fun u505 => (by kernel_rfl)) (fun _ => ⟨hst501.rle', hst501.get (i := 0) rfl, hst501.get (i := 1) rfl, hst501.get (i := 2) rfl, hst501.get (i := 3) rfl⟩) ?_
            refine LA_takeP (v := (.bool (((xs[k_425]'(by omega)).version) != (ver e1.vers ((xs[k_425]'(by omega)).kind, (xs[k_425]'(by omega)).n))))) 9 rfl rfl rfl (by decide +kernel) (by decide +kernel) (by decide +kernel) (by decide +kernel) (fun _ _ _ h => h) (Want.plain rfl) (fun u508 => rfl) (fun _ => ⟨hst501.rle', hst501.get (i := 0) rfl, hst501.get (i := 1) rfl, hst501.get (i := 2) rfl, hst501.get (i := 3) rfl⟩) ?_
            rcases Bool.eq_false_or_eq_true (((xs[k_425]'(by omega)).version) != (ver e1.vers ((xs[k_425]'(by omega)).kind, (xs[k_425]'(by omega)).n))) with c511 | c511
            · skip
              have q512 : ¬ (xs[k_425]'(by omega)).version = ver e1.vers ((xs[k_425]'(by omega)).kind, (xs[k_425]'(by omega)).n) := by simpa using c511
              refine LA_takeP (v := (.int .i64 wt427)) 10 rfl rfl rfl (by decide +kernel) (by decide +kernel) (by decide +kernel) (by decide +kernel) (fun _ _ _ h => h) (Want.of rfl rfl rfl rfl (by rw [c511]; rfl)) (fun u514 => rfl) (fun _ => ⟨hst501.rle', hst501.get (i := 0) rfl, hst501.get (i := 1) rfl, hst501.get (i := 2) rfl, hst501.get (i := 3) rfl⟩) ?_
              refine LA_takeP (v := (.bool (wt427 == 0))) 11 rfl rfl rfl (by decide +kernel) (by decide +kernel) (by decide +kernel) (by decide +kernel) (fun _ _ _ h => h) (Want.of rfl rfl rfl rfl (by rw [c511]; rfl)) (fun u517 => (by kernel_rfl)) (fun _ => ⟨hst501.rle', hst501.get (i := 0) rfl, hst501.get (i := 1) rfl, hst501.get (i := 2) rfl, hst501.get (i := 3) rfl⟩) ?_
              refine LA_takeP (v := (.bool (wt427 == 0))) 12 rfl rfl rfl (by decide +kernel) (by decide +kernel) (by decide +kernel) (by decide +kernel) (fun _ _ _ h => h) (Want.plain rfl) (fun u520 => (x_pick rfl rfl (by rw [c511]; rfl))) (fun _ => ⟨hst501.rle', hst501.get (i := 0) rfl, hst501.get (i := 1) rfl, hst501.get (i := 2) rfl, hst501.get (i := 3) rfl⟩) ?_
              refine LA_done (by decide +kernel) ?_
              rcases Bool.eq_false_or_eq_true (wt427 == 0) with c522 | c522
              · skip
                have q523 := eq_of_beq c522
                refine W_cond_true (by show Value.bool _ = _; exact congrArg Value.bool c522) ?_
                refine W_region_lit ?_
                refine L_val (v := (.int .i64 40)) (w' := w500) rfl rfl rfl rfl ?_
                refine L_nil ?_
                refine W_region_lit ?_
                refine L_val (v := (.map (some b408))) (w' := w500) rfl rfl rfl rfl ?_
                refine L_val (v := (.agg #[(.int .i64 ((xs[k_425]'(by omega)).kind)), (.int .i64 ((xs[k_425]'(by omega)).n))])) (w' := w500) rfl rfl rfl (x_load rfl rfl (run_loadVar_agg ti_23 (hst501.blk (i := 0) rfl) (l := [(.int .i64 ((xs[k_425]'(by omega)).kind)), (.int .i64 ((xs[k_425]'(by omega)).n))]) rfl rfl)) ?_
                obtain ⟨c524, w525, hr526, hm527, hst528⟩ := MapC.update hi421 (hst501.front 3 rfl rfl) law23 mt_36 ((xs[k_425]'(by omega)).kind, (xs[k_425]'(by omega)).n) true (.bool true) rfl
                refine L_skip rfl rfl (x_mapUpdate rfl rfl rfl rfl hr526) ?_
                refine L_nil ?_
                refine W_region_lit ?_
                refine L_val (v := (.int .i64 ((k_425 + 1 : Nat) : Int))) (w' := w525) rfl rfl rfl (x_add_nat rfl rfl rfl (by omega)) ?_
                refine L_val (v := (.int .i64 ((k_425 + 1 : Nat) : Int))) (w' := w525) rfl rfl rfl rfl ?_
                refine L_nil ?_
                refine ⟨xs.length - (k_425 + 1), by first | omega | (simp only [List.length_append, List.length_cons, List.length_nil]; omega), ?_⟩
                exact ⟨_, (k_425 + 1), (AL.set seen426 ((xs[k_425]'(by omega)).kind, (xs[k_425]'(by omega)).n) true), 40, c524, (upd_of (upd_of (upd_of (upd_of (upd_of (upd_of (upd_of (upd_of (upd_of (upd_of (upd_of (upd_of (upd_of (upd_of (upd_of (upd_of (upd_of (upd_of (upd_of (upd_of (upd_of (upd_of (upd_of (upd_of rfl rfl) rfl) rfl) rfl) rfl) rfl) rfl) rfl) rfl) rfl) rfl) rfl) rfl) rfl) rfl) rfl) rfl) rfl) rfl) rfl) rfl) rfl) rfl) rfl), hmk417, ((hst528.front 3 rfl rfl).keepN 2 rfl), hm527, (by omega), (wantF_step (by omega) hf423 (wantStep_4 (of_decide_eq_false c457) c468 (by simpa using c511) (by simpa using c522))), rfl⟩
              · skip
                have q529 := ne_of_beq_false c522
                refine W_cond_false (by show Value.bool _ = _; exact congrArg Value.bool c522) ?_
                refine W_skip ?_
                refine W_region_lit ?_
                refine L_val (v := (.map (some b408))) (w' := w500) rfl rfl rfl rfl ?_
                refine L_val (v := (.agg #[(.int .i64 ((xs[k_425]'(by omega)).kind)), (.int .i64 ((xs[k_425]'(by omega)).n))])) (w' := w500) rfl rfl rfl (x_load rfl rfl (run_loadVar_agg ti_23 (hst501.blk (i := 0) rfl) (l := [(.int .i64 ((xs[k_425]'(by omega)).kind)), (.int .i64 ((xs[k_425]'(by omega)).n))]) rfl rfl)) ?_
                obtain ⟨c530, w531, hr532, hm533, hst534⟩ := MapC.update hi421 (hst501.front 3 rfl rfl) law23 mt_36 ((xs[k_425]'(by omega)).kind, (xs[k_425]'(by omega)).n) true (.bool true) rfl
                refine L_skip rfl rfl (x_mapUpdate rfl rfl rfl rfl hr532) ?_
                refine L_nil ?_
                refine W_region_lit ?_
                refine L_val (v := (.int .i64 ((k_425 + 1 : Nat) : Int))) (w' := w531) rfl rfl rfl (x_add_nat rfl rfl rfl (by omega)) ?_
                refine L_val (v := (.int .i64 ((k_425 + 1 : Nat) : Int))) (w' := w531) rfl rfl rfl rfl ?_
                refine L_nil ?_
                refine ⟨xs.length - (k_425 + 1), by first | omega | (simp only [List.length_append, List.length_cons, List.length_nil]; omega), ?_⟩
                exact ⟨_, (k_425 + 1), (AL.set seen426 ((xs[k_425]'(by omega)).kind, (xs[k_425]'(by omega)).n) true), wt427, c530, (upd_of (upd_of (upd_of (upd_of (upd_of (upd_of (upd_of (upd_of (upd_of (upd_of (upd_of (upd_of (upd_of (upd_of (upd_of (upd_of (upd_of (upd_of (upd_of (upd_of (upd_of (upd_of (upd_of (upd_of rfl rfl) rfl) rfl) rfl) rfl) rfl) rfl) rfl) rfl) rfl) rfl) rfl) rfl) rfl) rfl) rfl) rfl) rfl) rfl) rfl) rfl) rfl) rfl) rfl), hmk417, ((hst534.front 3 rfl rfl).keepN 2 rfl), hm533, (by omega), (wantF_step (by omega) hf423 (wantStep_5 (of_decide_eq_false c457) c468 (by simpa using c511) (by simpa using c522))), rfl⟩
            · skip
              have q535 : (xs[k_425]'(by omega)).version = ver e1.vers ((xs[k_425]'(by omega)).kind, (xs[k_425]'(by omega)).n) := by simpa using c511
              refine LA_leaveP 10 rfl rfl rfl (by decide +kernel) (by decide +kernel) (by decide +kernel) (by decide +kernel) (fun _ _ _ h => h) (Want.of rfl rfl rfl rfl (by rw [c511]; rfl)) (fun _ => ⟨hst501.rle', hst501.get (i := 0) rfl, hst501.get (i := 1) rfl, hst501.get (i := 2) rfl, hst501.get (i := 3) rfl⟩) ?_
              refine LA_leaveP 11 rfl rfl rfl (by decide +kernel) (by decide +kernel) (by decide +kernel) (by decide +kernel) (fun _ _ _ h => h) (Want.of rfl rfl rfl rfl (by rw [c511]; rfl)) (fun _ => ⟨hst501.rle', hst501.get (i := 0) rfl, hst501.get (i := 1) rfl, hst501.get (i := 2) rfl, hst501.get (i := 3) rfl⟩) ?_
              refine LA_takeP (v := (.bool false)) 12 rfl rfl rfl (by decide +kernel) (by decide +kernel) (by decide +kernel) (by decide +kernel) (fun _ _ _ h => h) (Want.plain rfl) (fun u539 => (x_pick rfl rfl (by rw [c511]; rfl))) (fun _ => ⟨hst501.rle', hst501.get (i := 0) rfl, hst501.get (i := 1) rfl, hst501.get (i := 2) rfl, hst501.get (i := 3) rfl⟩) ?_
              refine LA_done (by decide +kernel) ?_
              refine W_cond_false (by show Value.bool _ = _; exact congrArg Value.bool rfl) ?_
              refine W_skip ?_
              refine W_region_lit ?_
              refine L_val (v := (.map (some b408))) (w' := w500) rfl rfl rfl rfl ?_
              refine L_val (v := (.agg #[(.int .i64 ((xs[k_425]'(by omega)).kind)), (.int .i64 ((xs[k_425]'(by omega)).n))])) (w' := w500) rfl rfl rfl (x_load rfl rfl (run_loadVar_agg ti_23 (hst501.blk (i := 0) rfl) (l := [(.int .i64 ((xs[k_425]'(by omega)).kind)), (.int .i64 ((xs[k_425]'(by omega)).n))]) rfl rfl)) ?_
              obtain ⟨c541, w542, hr543, hm544, hst545⟩ := MapC.update hi421 (hst501.front 3 rfl rfl) law23 mt_36 ((xs[k_425]'(by omega)).kind, (xs[k_425]'(by omega)).n) true (.bool true) rfl
              refine L_skip rfl rfl (x_mapUpdate rfl rfl rfl rfl hr543) ?_
              refine L_nil ?_
              refine W_region_lit ?_
              refine L_val (v := (.int .i64 ((k_425 + 1 : Nat) : Int))) (w' := w542) rfl rfl rfl (x_add_nat rfl rfl rfl (by omega)) ?_
              refine L_val (v := (.int .i64 ((k_425 + 1 : Nat) : Int))) (w' := w542) rfl rfl rfl rfl ?_
              refine L_nil ?_
              refine ⟨xs.length - (k_425 + 1), by first | omega | (simp only [List.length_append, List.length_cons, List.length_nil]; omega), ?_⟩
              exact ⟨_, (k_425 + 1), (AL.set seen426 ((xs[k_425]'(by omega)).kind, (xs[k_425]'(by omega)).n) true), wt427, c541, (upd_of (upd_of (upd_of (upd_of (upd_of (upd_of (upd_of (upd_of (upd_of (upd_of (upd_of (upd_of (upd_of (upd_of (upd_of (upd_of (upd_of (upd_of (upd_of (upd_of (upd_of (upd_of (upd_of (upd_of rfl rfl) rfl) rfl) rfl) rfl) rfl) rfl) rfl) rfl) rfl) rfl) rfl) rfl) rfl) rfl) rfl) rfl) rfl) rfl) rfl) rfl) rfl) rfl) rfl), hmk417, ((hst545.front 3 rfl rfl).keepN 2 rfl), hm544, (by omega), (wantF_step (by omega) hf423 (wantStep_3 (of_decide_eq_false c457) c468 (by simpa using c511))), rfl⟩
      · skip
        have q546 := of_decide_eq_false c430
        refine W_cond_false (by show Value.bool _ = _; exact congrArg Value.bool c430) ?_
        refine W_exit ?_
        refine W_seq ?_
        refine W_seq ?_
        have hW := wantF_end (by omega) hf423
        refine W_region_lit ?_
        refine L_val (v := (.int .i64 md)) (w' := w419) rfl rfl rfl rfl ?_
        refine L_val (v := (.bool (decide (md < 0)))) (w' := w419) rfl rfl rfl (by kernel_rfl) ?_
        refine L_nil ?_
        rcases Bool.eq_false_or_eq_true (decide (md < 0)) with c547 | c547
        · skip
          have q548 := of_decide_eq_true c547
          refine W_cond_true (by show Value.bool _ = _; exact congrArg Value.bool c547) ?_
          refine W_region_lit ?_
          refine L_val (v := (.int .i64 1)) (w' := w419) rfl rfl rfl rfl ?_
          refine L_nil ?_
          refine W_seq ?_
          refine W_seq ?_
          refine W_region_lit ?_
          refine L_val (v := (.int .i64 md)) (w' := w419) rfl rfl rfl rfl ?_
          refine L_val (v := (.bool (md == 5))) (w' := w419) rfl rfl rfl (by kernel_rfl) ?_
          refine L_val (v := (.bool (md == 5))) (w' := w419) rfl rfl rfl rfl ?_
          rcases Bool.eq_false_or_eq_true (md == 5) with c549 | c549
          · skip
            have q550 := eq_of_beq c549
            refine L_guard rfl rfl rfl rfl c549 ?_
            refine L_val (v := (.int .i64 1)) (w' := w419) rfl rfl rfl rfl ?_
            refine L_guard rfl rfl rfl rfl c549 ?_
            refine L_val (v := (.bool false)) (w' := w419) rfl rfl rfl (by kernel_rfl) ?_
            refine L_val (v := (.bool false)) (w' := w419) rfl rfl rfl (x_pick rfl rfl (by rw [c549]; rfl)) ?_
            refine L_nil ?_
            refine W_cond_false (by show Value.bool _ = _; exact congrArg Value.bool rfl) ?_
            refine W_skip ?_
            refine W_seq ?_
            refine W_seq ?_
            have hA : RS.addE e1 md xs = 1 := (RS.addE_want h5 md xs hW).trans (want2_eq (by omega))
            have h2m := RS.two h5 md xs
            refine W_region_lit ?_
            refine L_val (v := (ptr p17 0)) (w' := w419) rfl rfl rfl rfl ?_
            refine L_val (v := (.int .i64 md)) (w' := w419) rfl rfl rfl rfl ?_
            refine L_val (v := (.slice a413 xs.length cap414)) (w' := w419) rfl rfl rfl rfl ?_
            have hst551 := hst418
            refine L_callS [c29] [cS428] hst551 rfl rfl rfl (x_call (vs := #[(ptr p17 0), (.int .i64 md), (.slice a413 xs.length cap414)]) rfl rfl (by kernel_rfl) ent_11) (Add_spec (v := (.slice a413 xs.length cap414)) md (RdS.mono hv (Le.trans hle7 (Le.trans hle15 hle27))) (by first | omega | simp) (hst551.sats.take 1 rfl) hreg32) (fun v552 w553 R554 L555 hp556 hle557 hst558 => ?_)
            obtain ⟨c559, rfl, rfl, hreg560⟩ := hp556
            have hreg561 : Reg R554 p17 (RS.add e1 md xs) c559 := hreg560
            refine L_val (v := (.int .i64 1)) (w' := w553) rfl rfl rfl rfl ?_
            refine L_val (v := (.bool ((RS.addE e1 md xs) != 1))) (w' := w553) rfl rfl rfl (by kernel_rfl) ?_
            refine L_val (v := (.bool ((RS.addE e1 md xs) != 1))) (w' := w553) rfl rfl rfl rfl ?_
            have c562 : ((RS.addE e1 md xs) != 1) = false := by rw [hA]; simp
            have q563 : RS.addE e1 md xs = 1 := by simpa using c562
            refine L_guard rfl rfl rfl rfl c562 ?_
            refine L_val (v := (ptr p17 0)) (w' := w553) rfl rfl rfl rfl ?_
            refine L_guard rfl rfl rfl rfl c562 ?_
            refine L_callG hst558 (v := (.bool (holds (RS.add e1 md xs).vers (RS.add e1 md xs).mods 5))) rfl rfl rfl (x_call (vs := #[(ptr p17 0), (.int .i64 5)]) rfl rfl (by kernel_rfl) ent_15) (Holds_reg (w := w553) 5 hreg561 hst558.rle' (hst558.get (i := 0) rfl)) (fun w564 hst565 => ?_)
            refine L_guard rfl rfl rfl rfl c562 ?_
            refine L_val (v := (.bool (!(holds (RS.add e1 md xs).vers (RS.add e1 md xs).mods 5)))) (w' := w564) rfl rfl rfl rfl ?_
            refine L_val (v := (.bool (!(holds (RS.add e1 md xs).vers (RS.add e1 md xs).mods 5)))) (w' := w564) rfl rfl rfl (x_pick rfl rfl (by rw [c562]; rfl)) ?_
            refine L_nil ?_
            have c566 : (holds (RS.add e1 md xs).vers (RS.add e1 md xs).mods 5) = true := RS.five h5 md xs
            refine W_cond_false (by show Value.bool _ = _; exact congrArg Value.bool (by rw [c566]; rfl)) ?_
            refine W_skip ?_
            refine W_seq ?_
            refine W_region_lit ?_
            refine L_val (v := (.bool true)) (w' := w564) rfl rfl rfl rfl ?_
            refine L_val (v := (.bool true)) (w' := w564) rfl rfl rfl rfl ?_
            refine L_guard rfl rfl rfl rfl rfl ?_
            refine L_val (v := (ptr p17 0)) (w' := w564) rfl rfl rfl rfl ?_
            refine L_guard rfl rfl rfl rfl rfl ?_
            refine L_val (v := (.int .i64 md)) (w' := w564) rfl rfl rfl rfl ?_
            refine L_guard rfl rfl rfl rfl rfl ?_
            refine L_callG hst565 (v := (.bool (holds (RS.add e1 md xs).vers (RS.add e1 md xs).mods md))) rfl rfl rfl (x_call (vs := #[(ptr p17 0), (.int .i64 md)]) rfl rfl (by kernel_rfl) ent_15) (Holds_reg (w := w564) md hreg561 hst565.rle' (hst565.get (i := 0) rfl)) (fun w567 hst568 => ?_)
            refine L_guard rfl rfl rfl rfl rfl ?_
            refine L_val (v := (.int .i64 1)) (w' := w567) rfl rfl rfl rfl ?_
            refine L_guard rfl rfl rfl rfl rfl ?_
            refine L_val (v := (.bool false)) (w' := w567) rfl rfl rfl (by kernel_rfl) ?_
            refine L_guard rfl rfl rfl rfl rfl ?_
            refine L_val (v := (.bool false)) (w' := w567) rfl rfl rfl rfl ?_
            refine L_guard rfl rfl rfl rfl rfl ?_
            refine L_val (v := (.int .i64 md)) (w' := w567) rfl rfl rfl rfl ?_
            refine L_guard rfl rfl rfl rfl rfl ?_
            refine L_val (v := (.bool (md == 5))) (w' := w567) rfl rfl rfl (by kernel_rfl) ?_
            refine L_guard rfl rfl rfl rfl rfl ?_
            refine L_val (v := (.bool (md == 5))) (w' := w567) rfl rfl rfl rfl ?_
            refine L_guard rfl rfl rfl rfl rfl ?_
            have hq569 : ((holds (RS.add e1 md xs).vers (RS.add e1 md xs).mods md) == (md == 5)) = true := by rw [RS.holds_add h5 md xs hA]; rw [beq_iff_eq, Bool.eq_iff_iff, Bool.or_eq_true, decide_eq_true_eq, decide_eq_true_eq]; first | (rw [beq_iff_eq]; omega) | (simp only [iff_true]; omega)
            refine L_val (v := .bool ((holds (RS.add e1 md xs).vers (RS.add e1 md xs).mods md) == (md == 5))) (w' := w567) rfl rfl rfl (by kernel_rfl) ?_
            refine L_val (v := (.bool ((holds (RS.add e1 md xs).vers (RS.add e1 md xs).mods md) == (md == 5)))) (w' := w567) rfl rfl rfl rfl ?_
            refine L_val (v := (.bool ((holds (RS.add e1 md xs).vers (RS.add e1 md xs).mods md) == (md == 5)))) (w' := w567) rfl rfl rfl rfl ?_
            refine L_guard rfl rfl rfl rfl hq569 ?_
            refine L_val (v := (ptr p17 0)) (w' := w567) rfl rfl rfl rfl ?_
            refine L_guard rfl rfl rfl rfl hq569 ?_
            refine L_call rfl rfl rfl (x_call (vs := #[(ptr p17 0)]) rfl rfl (by kernel_rfl) ent_13) (Modules_reg hreg561 (hst568.get (i := 0) rfl) (RS.add_ne hne md xs) (Nat.le_trans h2m (by decide))) ?_
            rintro e570 w571 ⟨v572, R573, L574, rfl, hst575, c576, rfl, ho577⟩
            refine ⟨_, rfl, ?_⟩
            have hst578 := Step.gain hst568 hst575
            have ho579 := OwnL.reint (R' := R554) ho577
            refine L_guard rfl rfl rfl rfl hq569 ?_
            obtain ⟨a580, cap581, e582, hc583⟩ := ho579.value
            subst e582
            refine L_val (v := (.int .i64 (((RS.modules (RS.add e1 md xs)).length : Nat) : Int))) (w' := w571) rfl rfl rfl (x_len_slice rfl sl_31 rfl) ?_
            refine L_guard rfl rfl rfl rfl hq569 ?_
            have hq584 : decide ((((RS.modules (RS.add e1 md xs)).length : Nat) : Int) ≤ 2) = true := decide_eq_true (by rw [RS.modules_len]; omega)
            refine L_val (v := .bool (decide ((((RS.modules (RS.add e1 md xs)).length : Nat) : Int) ≤ 2))) (w' := w571) rfl rfl rfl (by kernel_rfl) ?_
            refine L_val (v := (.bool (decide ((((RS.modules (RS.add e1 md xs)).length : Nat) : Int) ≤ 2)))) (w' := w571) rfl rfl rfl (x_pick rfl rfl (by rw [hq569]; rfl)) ?_
            refine L_val (v := (.bool (decide ((((RS.modules (RS.add e1 md xs)).length : Nat) : Int) ≤ 2)))) (w' := w571) rfl rfl rfl rfl ?_
            refine L_nil ?_
            refine W_ret ?_
            refine ⟨_, _, res_run (rs := [.tmp 6]) (vs := [(.bool (decide ((((RS.modules (RS.add e1 md xs)).length : Nat) : Int) ≤ 2)))]) Try.results4 (.cons (.tmp rfl) .nil) hmk417, ?_⟩
            exact ⟨_, _, [], rfl, hst578.keepN 0 rfl, congrArg Value.bool hq584, rfl⟩
          · skip
            have q585 := ne_of_beq_false c549
            refine L_unwanted rfl rfl rfl rfl (by rw [c549]; rfl) rfl rfl ?_
            refine L_unwanted rfl rfl rfl rfl (by rw [c549]; rfl) rfl rfl ?_
            refine L_val (v := (.bool false)) (w' := w419) rfl rfl rfl (x_pick rfl rfl (by rw [c549]; rfl)) ?_
            refine L_nil ?_
            refine W_cond_false (by show Value.bool _ = _; exact congrArg Value.bool rfl) ?_
            refine W_skip ?_
            refine W_seq ?_
            refine W_seq ?_
            have hA : RS.addE e1 md xs = 1 := (RS.addE_want h5 md xs hW).trans (want2_eq (by omega))
            have h2m := RS.two h5 md xs
            refine W_region_lit ?_
            refine L_val (v := (ptr p17 0)) (w' := w419) rfl rfl rfl rfl ?_
            refine L_val (v := (.int .i64 md)) (w' := w419) rfl rfl rfl rfl ?_
            refine L_val (v := (.slice a413 xs.length cap414)) (w' := w419) rfl rfl rfl rfl ?_
            have hst586 := hst418
            refine L_callS [c29] [cS428] hst586 rfl rfl rfl (x_call (vs := #[(ptr p17 0), (.int .i64 md), (.slice a413 xs.length cap414)]) rfl rfl (by kernel_rfl) ent_11) (Add_spec (v := (.slice a413 xs.length cap414)) md (RdS.mono hv (Le.trans hle7 (Le.trans hle15 hle27))) (by first | omega | simp) (hst586.sats.take 1 rfl) hreg32) (fun v587 w588 R589 L590 hp591 hle592 hst593 => ?_)
            obtain ⟨c594, rfl, rfl, hreg595⟩ := hp591
            have hreg596 : Reg R589 p17 (RS.add e1 md xs) c594 := hreg595
            refine L_val (v := (.int .i64 1)) (w' := w588) rfl rfl rfl rfl ?_
            refine L_val (v := (.bool ((RS.addE e1 md xs) != 1))) (w' := w588) rfl rfl rfl (by kernel_rfl) ?_
            refine L_val (v := (.bool ((RS.addE e1 md xs) != 1))) (w' := w588) rfl rfl rfl rfl ?_
            have c597 : ((RS.addE e1 md xs) != 1) = false := by rw [hA]; simp
            have q598 : RS.addE e1 md xs = 1 := by simpa using c597
            refine L_guard rfl rfl rfl rfl c597 ?_
            refine L_val (v := (ptr p17 0)) (w' := w588) rfl rfl rfl rfl ?_
            refine L_guard rfl rfl rfl rfl c597 ?_
            refine L_callG hst593 (v := (.bool (holds (RS.add e1 md xs).vers (RS.add e1 md xs).mods 5))) rfl rfl rfl (x_call (vs := #[(ptr p17 0), (.int .i64 5)]) rfl rfl (by kernel_rfl) ent_15) (Holds_reg (w := w588) 5 hreg596 hst593.rle' (hst593.get (i := 0) rfl)) (fun w599 hst600 => ?_)
            refine L_guard rfl rfl rfl rfl c597 ?_
            refine L_val (v := (.bool (!(holds (RS.add e1 md xs).vers (RS.add e1 md xs).mods 5)))) (w' := w599) rfl rfl rfl rfl ?_
            refine L_val (v := (.bool (!(holds (RS.add e1 md xs).vers (RS.add e1 md xs).mods 5)))) (w' := w599) rfl rfl rfl (x_pick rfl rfl (by rw [c597]; rfl)) ?_
            refine L_nil ?_
            have c601 : (holds (RS.add e1 md xs).vers (RS.add e1 md xs).mods 5) = true := RS.five h5 md xs
            refine W_cond_false (by show Value.bool _ = _; exact congrArg Value.bool (by rw [c601]; rfl)) ?_
            refine W_skip ?_
            refine W_seq ?_
            refine W_region_lit ?_
            refine L_val (v := (.bool true)) (w' := w599) rfl rfl rfl rfl ?_
            refine L_val (v := (.bool true)) (w' := w599) rfl rfl rfl rfl ?_
            refine L_guard rfl rfl rfl rfl rfl ?_
            refine L_val (v := (ptr p17 0)) (w' := w599) rfl rfl rfl rfl ?_
            refine L_guard rfl rfl rfl rfl rfl ?_
            refine L_val (v := (.int .i64 md)) (w' := w599) rfl rfl rfl rfl ?_
            refine L_guard rfl rfl rfl rfl rfl ?_
            refine L_callG hst600 (v := (.bool (holds (RS.add e1 md xs).vers (RS.add e1 md xs).mods md))) rfl rfl rfl (x_call (vs := #[(ptr p17 0), (.int .i64 md)]) rfl rfl (by kernel_rfl) ent_15) (Holds_reg (w := w599) md hreg596 hst600.rle' (hst600.get (i := 0) rfl)) (fun w602 hst603 => ?_)
            refine L_guard rfl rfl rfl rfl rfl ?_
            refine L_val (v := (.int .i64 1)) (w' := w602) rfl rfl rfl rfl ?_
            refine L_guard rfl rfl rfl rfl rfl ?_
            refine L_val (v := (.bool false)) (w' := w602) rfl rfl rfl (by kernel_rfl) ?_
            refine L_guard rfl rfl rfl rfl rfl ?_
            refine L_val (v := (.bool false)) (w' := w602) rfl rfl rfl rfl ?_
            refine L_guard rfl rfl rfl rfl rfl ?_
            refine L_val (v := (.int .i64 md)) (w' := w602) rfl rfl rfl rfl ?_
            refine L_guard rfl rfl rfl rfl rfl ?_
            refine L_val (v := (.bool (md == 5))) (w' := w602) rfl rfl rfl (by kernel_rfl) ?_
            refine L_guard rfl rfl rfl rfl rfl ?_
            refine L_val (v := (.bool (md == 5))) (w' := w602) rfl rfl rfl rfl ?_
            refine L_guard rfl rfl rfl rfl rfl ?_
            have hq604 : ((holds (RS.add e1 md xs).vers (RS.add e1 md xs).mods md) == (md == 5)) = true := by rw [RS.holds_add h5 md xs hA]; rw [beq_iff_eq, Bool.eq_iff_iff, Bool.or_eq_true, decide_eq_true_eq, decide_eq_true_eq]; first | (rw [beq_iff_eq]; omega) | (simp only [iff_true]; omega)
            refine L_val (v := .bool ((holds (RS.add e1 md xs).vers (RS.add e1 md xs).mods md) == (md == 5))) (w' := w602) rfl rfl rfl (by kernel_rfl) ?_
            refine L_val (v := (.bool ((holds (RS.add e1 md xs).vers (RS.add e1 md xs).mods md) == (md == 5)))) (w' := w602) rfl rfl rfl rfl ?_
            refine L_val (v := (.bool ((holds (RS.add e1 md xs).vers (RS.add e1 md xs).mods md) == (md == 5)))) (w' := w602) rfl rfl rfl rfl ?_
            refine L_guard rfl rfl rfl rfl hq604 ?_
            refine L_val (v := (ptr p17 0)) (w' := w602) rfl rfl rfl rfl ?_
            refine L_guard rfl rfl rfl rfl hq604 ?_
            refine L_call rfl rfl rfl (x_call (vs := #[(ptr p17 0)]) rfl rfl (by kernel_rfl) ent_13) (Modules_reg hreg596 (hst603.get (i := 0) rfl) (RS.add_ne hne md xs) (Nat.le_trans h2m (by decide))) ?_
            rintro e605 w606 ⟨v607, R608, L609, rfl, hst610, c611, rfl, ho612⟩
            refine ⟨_, rfl, ?_⟩
            have hst613 := Step.gain hst603 hst610
            have ho614 := OwnL.reint (R' := R589) ho612
            refine L_guard rfl rfl rfl rfl hq604 ?_
            obtain ⟨a615, cap616, e617, hc618⟩ := ho614.value
            subst e617
            refine L_val (v := (.int .i64 (((RS.modules (RS.add e1 md xs)).length : Nat) : Int))) (w' := w606) rfl rfl rfl (x_len_slice rfl sl_31 rfl) ?_
            refine L_guard rfl rfl rfl rfl hq604 ?_
            have hq619 : decide ((((RS.modules (RS.add e1 md xs)).length : Nat) : Int) ≤ 2) = true := decide_eq_true (by rw [RS.modules_len]; omega)
            refine L_val (v := .bool (decide ((((RS.modules (RS.add e1 md xs)).length : Nat) : Int) ≤ 2))) (w' := w606) rfl rfl rfl (by kernel_rfl) ?_
            refine L_val (v := (.bool (decide ((((RS.modules (RS.add e1 md xs)).length : Nat) : Int) ≤ 2)))) (w' := w606) rfl rfl rfl (x_pick rfl rfl (by rw [hq604]; rfl)) ?_
            refine L_val (v := (.bool (decide ((((RS.modules (RS.add e1 md xs)).length : Nat) : Int) ≤ 2)))) (w' := w606) rfl rfl rfl rfl ?_
            refine L_nil ?_
            refine W_ret ?_
            refine ⟨_, _, res_run (rs := [.tmp 6]) (vs := [(.bool (decide ((((RS.modules (RS.add e1 md xs)).length : Nat) : Int) ≤ 2)))]) Try.results4 (.cons (.tmp rfl) .nil) hmk417, ?_⟩
            exact ⟨_, _, [], rfl, hst613.keepN 0 rfl, congrArg Value.bool hq619, rfl⟩
        · skip
          have q620 := of_decide_eq_false c547
          refine W_cond_false (by show Value.bool _ = _; exact congrArg Value.bool c547) ?_
          refine W_skip ?_
          refine W_seq ?_
          refine W_seq ?_
          refine W_region_lit ?_
          refine L_val (v := (.int .i64 md)) (w' := w419) rfl rfl rfl rfl ?_
          refine L_val (v := (.bool (md == 5))) (w' := w419) rfl rfl rfl (by kernel_rfl) ?_
          refine L_val (v := (.bool (md == 5))) (w' := w419) rfl rfl rfl rfl ?_
          rcases Bool.eq_false_or_eq_true (md == 5) with c621 | c621
          · skip
            have q622 := eq_of_beq c621
            refine L_guard rfl rfl rfl rfl c621 ?_
            refine L_val (v := (.int .i64 wt427)) (w' := w419) rfl rfl rfl rfl ?_
            refine L_guard rfl rfl rfl rfl c621 ?_
            refine L_val (v := (.bool (wt427 != 1))) (w' := w419) rfl rfl rfl (by kernel_rfl) ?_
            refine L_val (v := (.bool (wt427 != 1))) (w' := w419) rfl rfl rfl (x_pick rfl rfl (by rw [c621]; rfl)) ?_
            refine L_nil ?_
            rcases Bool.eq_false_or_eq_true (wt427 != 1) with c623 | c623
            · skip
              have q624 : ¬ wt427 = 1 := by simpa using c623
              refine W_cond_true (by show Value.bool _ = _; exact congrArg Value.bool c623) ?_
              refine W_region_lit ?_
              refine L_val (v := (.int .i64 41)) (w' := w419) rfl rfl rfl rfl ?_
              refine L_nil ?_
              refine W_seq ?_
              refine W_seq ?_
              have hA : RS.addE e1 md xs = 41 := (RS.addE_want h5 md xs hW).trans (want2_eq (by omega))
              have h2m := RS.two h5 md xs
              refine W_region_lit ?_
              refine L_val (v := (ptr p17 0)) (w' := w419) rfl rfl rfl rfl ?_
              refine L_val (v := (.int .i64 md)) (w' := w419) rfl rfl rfl rfl ?_
              refine L_val (v := (.slice a413 xs.length cap414)) (w' := w419) rfl rfl rfl rfl ?_
              have hst625 := hst418
              refine L_callS [c29] [cS428] hst625 rfl rfl rfl (x_call (vs := #[(ptr p17 0), (.int .i64 md), (.slice a413 xs.length cap414)]) rfl rfl (by kernel_rfl) ent_11) (Add_spec (v := (.slice a413 xs.length cap414)) md (RdS.mono hv (Le.trans hle7 (Le.trans hle15 hle27))) (by first | omega | simp) (hst625.sats.take 1 rfl) hreg32) (fun v626 w627 R628 L629 hp630 hle631 hst632 => ?_)
              obtain ⟨c633, rfl, rfl, hreg634⟩ := hp630
              have hreg635 : Reg R628 p17 (RS.add e1 md xs) c633 := hreg634
              refine L_val (v := (.int .i64 41)) (w' := w627) rfl rfl rfl rfl ?_
              refine L_val (v := (.bool ((RS.addE e1 md xs) != 41))) (w' := w627) rfl rfl rfl (by kernel_rfl) ?_
              refine L_val (v := (.bool ((RS.addE e1 md xs) != 41))) (w' := w627) rfl rfl rfl rfl ?_
              have c636 : ((RS.addE e1 md xs) != 41) = false := by rw [hA]; simp
              have q637 : RS.addE e1 md xs = 41 := by simpa using c636
              refine L_guard rfl rfl rfl rfl c636 ?_
              refine L_val (v := (ptr p17 0)) (w' := w627) rfl rfl rfl rfl ?_
              refine L_guard rfl rfl rfl rfl c636 ?_
              refine L_callG hst632 (v := (.bool (holds (RS.add e1 md xs).vers (RS.add e1 md xs).mods 5))) rfl rfl rfl (x_call (vs := #[(ptr p17 0), (.int .i64 5)]) rfl rfl (by kernel_rfl) ent_15) (Holds_reg (w := w627) 5 hreg635 hst632.rle' (hst632.get (i := 0) rfl)) (fun w638 hst639 => ?_)
              refine L_guard rfl rfl rfl rfl c636 ?_
              refine L_val (v := (.bool (!(holds (RS.add e1 md xs).vers (RS.add e1 md xs).mods 5)))) (w' := w638) rfl rfl rfl rfl ?_
              refine L_val (v := (.bool (!(holds (RS.add e1 md xs).vers (RS.add e1 md xs).mods 5)))) (w' := w638) rfl rfl rfl (x_pick rfl rfl (by rw [c636]; rfl)) ?_
              refine L_nil ?_
              have c640 : (holds (RS.add e1 md xs).vers (RS.add e1 md xs).mods 5) = true := RS.five h5 md xs
              refine W_cond_false (by show Value.bool _ = _; exact congrArg Value.bool (by rw [c640]; rfl)) ?_
              refine W_skip ?_
              refine W_seq ?_
              refine W_region_lit ?_
              refine L_val (v := (.bool true)) (w' := w638) rfl rfl rfl rfl ?_
              refine L_val (v := (.bool true)) (w' := w638) rfl rfl rfl rfl ?_
              refine L_guard rfl rfl rfl rfl rfl ?_
              refine L_val (v := (ptr p17 0)) (w' := w638) rfl rfl rfl rfl ?_
              refine L_guard rfl rfl rfl rfl rfl ?_
              refine L_val (v := (.int .i64 md)) (w' := w638) rfl rfl rfl rfl ?_
              refine L_guard rfl rfl rfl rfl rfl ?_
              refine L_callG hst639 (v := (.bool (holds (RS.add e1 md xs).vers (RS.add e1 md xs).mods md))) rfl rfl rfl (x_call (vs := #[(ptr p17 0), (.int .i64 md)]) rfl rfl (by kernel_rfl) ent_15) (Holds_reg (w := w638) md hreg635 hst639.rle' (hst639.get (i := 0) rfl)) (fun w641 hst642 => ?_)
              refine L_guard rfl rfl rfl rfl rfl ?_
              refine L_val (v := (.int .i64 41)) (w' := w641) rfl rfl rfl rfl ?_
              refine L_guard rfl rfl rfl rfl rfl ?_
              refine L_val (v := (.bool false)) (w' := w641) rfl rfl rfl (by kernel_rfl) ?_
              refine L_guard rfl rfl rfl rfl rfl ?_
              refine L_val (v := (.bool false)) (w' := w641) rfl rfl rfl rfl ?_
              refine L_guard rfl rfl rfl rfl rfl ?_
              refine L_val (v := (.int .i64 md)) (w' := w641) rfl rfl rfl rfl ?_
              refine L_guard rfl rfl rfl rfl rfl ?_
              refine L_val (v := (.bool (md == 5))) (w' := w641) rfl rfl rfl (by kernel_rfl) ?_
              refine L_guard rfl rfl rfl rfl rfl ?_
              refine L_val (v := (.bool (md == 5))) (w' := w641) rfl rfl rfl rfl ?_
              refine L_guard rfl rfl rfl rfl rfl ?_
              have hq643 : ((holds (RS.add e1 md xs).vers (RS.add e1 md xs).mods md) == (md == 5)) = true := by rw [RS.holds_add h5 md xs hA]; rw [beq_iff_eq, Bool.eq_iff_iff, Bool.or_eq_true, decide_eq_true_eq, decide_eq_true_eq]; first | (rw [beq_iff_eq]; omega) | (simp only [iff_true]; omega)
              refine L_val (v := .bool ((holds (RS.add e1 md xs).vers (RS.add e1 md xs).mods md) == (md == 5))) (w' := w641) rfl rfl rfl (by kernel_rfl) ?_
              refine L_val (v := (.bool ((holds (RS.add e1 md xs).vers (RS.add e1 md xs).mods md) == (md == 5)))) (w' := w641) rfl rfl rfl rfl ?_
              refine L_val (v := (.bool ((holds (RS.add e1 md xs).vers (RS.add e1 md xs).mods md) == (md == 5)))) (w' := w641) rfl rfl rfl rfl ?_
              refine L_guard rfl rfl rfl rfl hq643 ?_
              refine L_val (v := (ptr p17 0)) (w' := w641) rfl rfl rfl rfl ?_
              refine L_guard rfl rfl rfl rfl hq643 ?_
              refine L_call rfl rfl rfl (x_call (vs := #[(ptr p17 0)]) rfl rfl (by kernel_rfl) ent_13) (Modules_reg hreg635 (hst642.get (i := 0) rfl) (RS.add_ne hne md xs) (Nat.le_trans h2m (by decide))) ?_
              rintro e644 w645 ⟨v646, R647, L648, rfl, hst649, c650, rfl, ho651⟩
              refine ⟨_, rfl, ?_⟩
              have hst652 := Step.gain hst642 hst649
              have ho653 := OwnL.reint (R' := R628) ho651
              refine L_guard rfl rfl rfl rfl hq643 ?_
              obtain ⟨a654, cap655, e656, hc657⟩ := ho653.value
              subst e656
              refine L_val (v := (.int .i64 (((RS.modules (RS.add e1 md xs)).length : Nat) : Int))) (w' := w645) rfl rfl rfl (x_len_slice rfl sl_31 rfl) ?_
              refine L_guard rfl rfl rfl rfl hq643 ?_
              have hq658 : decide ((((RS.modules (RS.add e1 md xs)).length : Nat) : Int) ≤ 2) = true := decide_eq_true (by rw [RS.modules_len]; omega)
              refine L_val (v := .bool (decide ((((RS.modules (RS.add e1 md xs)).length : Nat) : Int) ≤ 2))) (w' := w645) rfl rfl rfl (by kernel_rfl) ?_
              refine L_val (v := (.bool (decide ((((RS.modules (RS.add e1 md xs)).length : Nat) : Int) ≤ 2)))) (w' := w645) rfl rfl rfl (x_pick rfl rfl (by rw [hq643]; rfl)) ?_
              refine L_val (v := (.bool (decide ((((RS.modules (RS.add e1 md xs)).length : Nat) : Int) ≤ 2)))) (w' := w645) rfl rfl rfl rfl ?_
              refine L_nil ?_
              refine W_ret ?_
              refine ⟨_, _, res_run (rs := [.tmp 6]) (vs := [(.bool (decide ((((RS.modules (RS.add e1 md xs)).length : Nat) : Int) ≤ 2)))]) Try.results4 (.cons (.tmp rfl) .nil) hmk417, ?_⟩
              exact ⟨_, _, [], rfl, hst652.keepN 0 rfl, congrArg Value.bool hq658, rfl⟩
            · skip
              have q659 : wt427 = 1 := by simpa using c623
              refine W_cond_false (by show Value.bool _ = _; exact congrArg Value.bool c623) ?_
              refine W_skip ?_
              refine W_seq ?_
              refine W_seq ?_
              have hA : RS.addE e1 md xs = wt427 := (RS.addE_want h5 md xs hW).trans (want2_eq (by omega))
              have h2m := RS.two h5 md xs
              refine W_region_lit ?_
              refine L_val (v := (ptr p17 0)) (w' := w419) rfl rfl rfl rfl ?_
              refine L_val (v := (.int .i64 md)) (w' := w419) rfl rfl rfl rfl ?_
              refine L_val (v := (.slice a413 xs.length cap414)) (w' := w419) rfl rfl rfl rfl ?_
              have hst660 := hst418
              refine L_callS [c29] [cS428] hst660 rfl rfl rfl (x_call (vs := #[(ptr p17 0), (.int .i64 md), (.slice a413 xs.length cap414)]) rfl rfl (by kernel_rfl) ent_11) (Add_spec (v := (.slice a413 xs.length cap414)) md (RdS.mono hv (Le.trans hle7 (Le.trans hle15 hle27))) (by first | omega | simp) (hst660.sats.take 1 rfl) hreg32) (fun v661 w662 R663 L664 hp665 hle666 hst667 => ?_)
              obtain ⟨c668, rfl, rfl, hreg669⟩ := hp665
              have hreg670 : Reg R663 p17 (RS.add e1 md xs) c668 := hreg669
              refine L_val (v := (.int .i64 wt427)) (w' := w662) rfl rfl rfl rfl ?_
              refine L_val (v := (.bool ((RS.addE e1 md xs) != wt427))) (w' := w662) rfl rfl rfl (by kernel_rfl) ?_
              refine L_val (v := (.bool ((RS.addE e1 md xs) != wt427))) (w' := w662) rfl rfl rfl rfl ?_
              have c671 : ((RS.addE e1 md xs) != wt427) = false := by rw [hA]; simp
              have q672 : RS.addE e1 md xs = wt427 := by simpa using c671
              refine L_guard rfl rfl rfl rfl c671 ?_
              refine L_val (v := (ptr p17 0)) (w' := w662) rfl rfl rfl rfl ?_
              refine L_guard rfl rfl rfl rfl c671 ?_
              refine L_callG hst667 (v := (.bool (holds (RS.add e1 md xs).vers (RS.add e1 md xs).mods 5))) rfl rfl rfl (x_call (vs := #[(ptr p17 0), (.int .i64 5)]) rfl rfl (by kernel_rfl) ent_15) (Holds_reg (w := w662) 5 hreg670 hst667.rle' (hst667.get (i := 0) rfl)) (fun w673 hst674 => ?_)
              refine L_guard rfl rfl rfl rfl c671 ?_
              refine L_val (v := (.bool (!(holds (RS.add e1 md xs).vers (RS.add e1 md xs).mods 5)))) (w' := w673) rfl rfl rfl rfl ?_
              refine L_val (v := (.bool (!(holds (RS.add e1 md xs).vers (RS.add e1 md xs).mods 5)))) (w' := w673) rfl rfl rfl (x_pick rfl rfl (by rw [c671]; rfl)) ?_
              refine L_nil ?_
              have c675 : (holds (RS.add e1 md xs).vers (RS.add e1 md xs).mods 5) = true := RS.five h5 md xs
              refine W_cond_false (by show Value.bool _ = _; exact congrArg Value.bool (by rw [c675]; rfl)) ?_
              refine W_skip ?_
              refine W_seq ?_
              refine W_region_lit ?_
              refine L_val (v := (.bool true)) (w' := w673) rfl rfl rfl rfl ?_
              refine L_val (v := (.bool true)) (w' := w673) rfl rfl rfl rfl ?_
              refine L_guard rfl rfl rfl rfl rfl ?_
              refine L_val (v := (ptr p17 0)) (w' := w673) rfl rfl rfl rfl ?_
              refine L_guard rfl rfl rfl rfl rfl ?_
              refine L_val (v := (.int .i64 md)) (w' := w673) rfl rfl rfl rfl ?_
              refine L_guard rfl rfl rfl rfl rfl ?_
              refine L_callG hst674 (v := (.bool (holds (RS.add e1 md xs).vers (RS.add e1 md xs).mods md))) rfl rfl rfl (x_call (vs := #[(ptr p17 0), (.int .i64 md)]) rfl rfl (by kernel_rfl) ent_15) (Holds_reg (w := w673) md hreg670 hst674.rle' (hst674.get (i := 0) rfl)) (fun w676 hst677 => ?_)
              refine L_guard rfl rfl rfl rfl rfl ?_
              refine L_val (v := (.int .i64 wt427)) (w' := w676) rfl rfl rfl rfl ?_
              refine L_guard rfl rfl rfl rfl rfl ?_
              refine L_val (v := (.bool (wt427 == 0))) (w' := w676) rfl rfl rfl (by kernel_rfl) ?_
              refine L_guard rfl rfl rfl rfl rfl ?_
              refine L_val (v := (.bool (wt427 == 0))) (w' := w676) rfl rfl rfl rfl ?_
              rcases Bool.eq_false_or_eq_true (wt427 == 0) with c678 | c678
              · skip
                have q679 := eq_of_beq c678
                refine L_unwanted rfl rfl rfl rfl (by rw [c678]; rfl) rfl rfl ?_
                refine L_unwanted rfl rfl rfl rfl (by rw [c678]; rfl) rfl rfl ?_
                refine L_guard rfl rfl rfl rfl rfl ?_
                refine L_val (v := (.bool true)) (w' := w676) rfl rfl rfl (x_pick rfl rfl (by rw [c678]; rfl)) ?_
                refine L_guard rfl rfl rfl rfl rfl ?_
                have hq680 : ((holds (RS.add e1 md xs).vers (RS.add e1 md xs).mods md) == true) = true := by rw [RS.holds_add h5 md xs hA]; rw [beq_iff_eq, Bool.eq_iff_iff, Bool.or_eq_true, decide_eq_true_eq, decide_eq_true_eq]; first | (rw [beq_iff_eq]; omega) | (simp only [iff_true]; omega)
                refine L_val (v := .bool ((holds (RS.add e1 md xs).vers (RS.add e1 md xs).mods md) == true)) (w' := w676) rfl rfl rfl (by kernel_rfl) ?_
                refine L_val (v := (.bool ((holds (RS.add e1 md xs).vers (RS.add e1 md xs).mods md) == true))) (w' := w676) rfl rfl rfl rfl ?_
                refine L_val (v := (.bool ((holds (RS.add e1 md xs).vers (RS.add e1 md xs).mods md) == true))) (w' := w676) rfl rfl rfl rfl ?_
                refine L_guard rfl rfl rfl rfl hq680 ?_
                refine L_val (v := (ptr p17 0)) (w' := w676) rfl rfl rfl rfl ?_
                refine L_guard rfl rfl rfl rfl hq680 ?_
                refine L_call rfl rfl rfl (x_call (vs := #[(ptr p17 0)]) rfl rfl (by kernel_rfl) ent_13) (Modules_reg hreg670 (hst677.get (i := 0) rfl) (RS.add_ne hne md xs) (Nat.le_trans h2m (by decide))) ?_
                rintro e681 w682 ⟨v683, R684, L685, rfl, hst686, c687, rfl, ho688⟩
                refine ⟨_, rfl, ?_⟩
                have hst689 := Step.gain hst677 hst686
                have ho690 := OwnL.reint (R' := R663) ho688
                refine L_guard rfl rfl rfl rfl hq680 ?_
                obtain ⟨a691, cap692, e693, hc694⟩ := ho690.value
                subst e693
                refine L_val (v := (.int .i64 (((RS.modules (RS.add e1 md xs)).length : Nat) : Int))) (w' := w682) rfl rfl rfl (x_len_slice rfl sl_31 rfl) ?_
                refine L_guard rfl rfl rfl rfl hq680 ?_
                have hq695 : decide ((((RS.modules (RS.add e1 md xs)).length : Nat) : Int) ≤ 2) = true := decide_eq_true (by rw [RS.modules_len]; omega)
                refine L_val (v := .bool (decide ((((RS.modules (RS.add e1 md xs)).length : Nat) : Int) ≤ 2))) (w' := w682) rfl rfl rfl (by kernel_rfl) ?_
                refine L_val (v := (.bool (decide ((((RS.modules (RS.add e1 md xs)).length : Nat) : Int) ≤ 2)))) (w' := w682) rfl rfl rfl (x_pick rfl rfl (by rw [hq680]; rfl)) ?_
                refine L_val (v := (.bool (decide ((((RS.modules (RS.add e1 md xs)).length : Nat) : Int) ≤ 2)))) (w' := w682) rfl rfl rfl rfl ?_
                refine L_nil ?_
                refine W_ret ?_
                refine ⟨_, _, res_run (rs := [.tmp 6]) (vs := [(.bool (decide ((((RS.modules (RS.add e1 md xs)).length : Nat) : Int) ≤ 2)))]) Try.results4 (.cons (.tmp rfl) .nil) hmk417, ?_⟩
                exact ⟨_, _, [], rfl, hst689.keepN 0 rfl, congrArg Value.bool hq695, rfl⟩
              · skip
                have q696 := ne_of_beq_false c678
                refine L_guard rfl rfl rfl rfl c678 ?_
                refine L_val (v := (.int .i64 md)) (w' := w676) rfl rfl rfl rfl ?_
                refine L_guard rfl rfl rfl rfl c678 ?_
                refine L_val (v := (.bool (md == 5))) (w' := w676) rfl rfl rfl (by kernel_rfl) ?_
                refine L_guard rfl rfl rfl rfl rfl ?_
                refine L_val (v := (.bool (md == 5))) (w' := w676) rfl rfl rfl (x_pick rfl rfl (by rw [c678]; rfl)) ?_
                refine L_guard rfl rfl rfl rfl rfl ?_
                have hq697 : ((holds (RS.add e1 md xs).vers (RS.add e1 md xs).mods md) == (md == 5)) = true := by rw [RS.holds_add h5 md xs hA]; rw [beq_iff_eq, Bool.eq_iff_iff, Bool.or_eq_true, decide_eq_true_eq, decide_eq_true_eq]; first | (rw [beq_iff_eq]; omega) | (simp only [iff_true]; omega)
                refine L_val (v := .bool ((holds (RS.add e1 md xs).vers (RS.add e1 md xs).mods md) == (md == 5))) (w' := w676) rfl rfl rfl (by kernel_rfl) ?_
                refine L_val (v := (.bool ((holds (RS.add e1 md xs).vers (RS.add e1 md xs).mods md) == (md == 5)))) (w' := w676) rfl rfl rfl rfl ?_
                refine L_val (v := (.bool ((holds (RS.add e1 md xs).vers (RS.add e1 md xs).mods md) == (md == 5)))) (w' := w676) rfl rfl rfl rfl ?_
                refine L_guard rfl rfl rfl rfl hq697 ?_
                refine L_val (v := (ptr p17 0)) (w' := w676) rfl rfl rfl rfl ?_
                refine L_guard rfl rfl rfl rfl hq697 ?_
                refine L_call rfl rfl rfl (x_call (vs := #[(ptr p17 0)]) rfl rfl (by kernel_rfl) ent_13) (Modules_reg hreg670 (hst677.get (i := 0) rfl) (RS.add_ne hne md xs) (Nat.le_trans h2m (by decide))) ?_
                rintro e698 w699 ⟨v700, R701, L702, rfl, hst703, c704, rfl, ho705⟩
                refine ⟨_, rfl, ?_⟩
                have hst706 := Step.gain hst677 hst703
                have ho707 := OwnL.reint (R' := R663) ho705
                refine L_guard rfl rfl rfl rfl hq697 ?_
                obtain ⟨a708, cap709, e710, hc711⟩ := ho707.value
                subst e710
                refine L_val (v := (.int .i64 (((RS.modules (RS.add e1 md xs)).length : Nat) : Int))) (w' := w699) rfl rfl rfl (x_len_slice rfl sl_31 rfl) ?_
                refine L_guard rfl rfl rfl rfl hq697 ?_
                have hq712 : decide ((((RS.modules (RS.add e1 md xs)).length : Nat) : Int) ≤ 2) = true := decide_eq_true (by rw [RS.modules_len]; omega)
                refine L_val (v := .bool (decide ((((RS.modules (RS.add e1 md xs)).length : Nat) : Int) ≤ 2))) (w' := w699) rfl rfl rfl (by kernel_rfl) ?_
                refine L_val (v := (.bool (decide ((((RS.modules (RS.add e1 md xs)).length : Nat) : Int) ≤ 2)))) (w' := w699) rfl rfl rfl (x_pick rfl rfl (by rw [hq697]; rfl)) ?_
                refine L_val (v := (.bool (decide ((((RS.modules (RS.add e1 md xs)).length : Nat) : Int) ≤ 2)))) (w' := w699) rfl rfl rfl rfl ?_
                refine L_nil ?_
                refine W_ret ?_
                refine ⟨_, _, res_run (rs := [.tmp 6]) (vs := [(.bool (decide ((((RS.modules (RS.add e1 md xs)).length : Nat) : Int) ≤ 2)))]) Try.results4 (.cons (.tmp rfl) .nil) hmk417, ?_⟩
                exact ⟨_, _, [], rfl, hst706.keepN 0 rfl, congrArg Value.bool hq712, rfl⟩
          · skip
            have q713 := ne_of_beq_false c621
            refine L_unwanted rfl rfl rfl rfl (by rw [c621]; rfl) rfl rfl ?_
            refine L_unwanted rfl rfl rfl rfl (by rw [c621]; rfl) rfl rfl ?_
            refine L_val (v := (.bool false)) (w' := w419) rfl rfl rfl (x_pick rfl rfl (by rw [c621]; rfl)) ?_
            refine L_nil ?_
            refine W_cond_false (by show Value.bool _ = _; exact congrArg Value.bool rfl) ?_
            refine W_skip ?_
            refine W_seq ?_
            refine W_seq ?_
            have hA : RS.addE e1 md xs = wt427 := (RS.addE_want h5 md xs hW).trans (want2_eq (by omega))
            have h2m := RS.two h5 md xs
            refine W_region_lit ?_
            refine L_val (v := (ptr p17 0)) (w' := w419) rfl rfl rfl rfl ?_
            refine L_val (v := (.int .i64 md)) (w' := w419) rfl rfl rfl rfl ?_
            refine L_val (v := (.slice a413 xs.length cap414)) (w' := w419) rfl rfl rfl rfl ?_
            have hst714 := hst418
            refine L_callS [c29] [cS428] hst714 rfl rfl rfl (x_call (vs := #[(ptr p17 0), (.int .i64 md), (.slice a413 xs.length cap414)]) rfl rfl (by kernel_rfl) ent_11) (Add_spec (v := (.slice a413 xs.length cap414)) md (RdS.mono hv (Le.trans hle7 (Le.trans hle15 hle27))) (by first | omega | simp) (hst714.sats.take 1 rfl) hreg32) (fun v715 w716 R717 L718 hp719 hle720 hst721 => ?_)
            obtain ⟨c722, rfl, rfl, hreg723⟩ := hp719
            have hreg724 : Reg R717 p17 (RS.add e1 md xs) c722 := hreg723
            refine L_val (v := (.int .i64 wt427)) (w' := w716) rfl rfl rfl rfl ?_
            refine L_val (v := (.bool ((RS.addE e1 md xs) != wt427))) (w' := w716) rfl rfl rfl (by kernel_rfl) ?_
            refine L_val (v := (.bool ((RS.addE e1 md xs) != wt427))) (w' := w716) rfl rfl rfl rfl ?_
            have c725 : ((RS.addE e1 md xs) != wt427) = false := by rw [hA]; simp
            have q726 : RS.addE e1 md xs = wt427 := by simpa using c725
            refine L_guard rfl rfl rfl rfl c725 ?_
            refine L_val (v := (ptr p17 0)) (w' := w716) rfl rfl rfl rfl ?_
            refine L_guard rfl rfl rfl rfl c725 ?_
            refine L_callG hst721 (v := (.bool (holds (RS.add e1 md xs).vers (RS.add e1 md xs).mods 5))) rfl rfl rfl (x_call (vs := #[(ptr p17 0), (.int .i64 5)]) rfl rfl (by kernel_rfl) ent_15) (Holds_reg (w := w716) 5 hreg724 hst721.rle' (hst721.get (i := 0) rfl)) (fun w727 hst728 => ?_)
            refine L_guard rfl rfl rfl rfl c725 ?_
            refine L_val (v := (.bool (!(holds (RS.add e1 md xs).vers (RS.add e1 md xs).mods 5)))) (w' := w727) rfl rfl rfl rfl ?_
            refine L_val (v := (.bool (!(holds (RS.add e1 md xs).vers (RS.add e1 md xs).mods 5)))) (w' := w727) rfl rfl rfl (x_pick rfl rfl (by rw [c725]; rfl)) ?_
            refine L_nil ?_
            have c729 : (holds (RS.add e1 md xs).vers (RS.add e1 md xs).mods 5) = true := RS.five h5 md xs
            refine W_cond_false (by show Value.bool _ = _; exact congrArg Value.bool (by rw [c729]; rfl)) ?_
            refine W_skip ?_
            refine W_seq ?_
            refine W_region_lit ?_
            refine L_val (v := (.bool true)) (w' := w727) rfl rfl rfl rfl ?_
            refine L_val (v := (.bool true)) (w' := w727) rfl rfl rfl rfl ?_
            refine L_guard rfl rfl rfl rfl rfl ?_
            refine L_val (v := (ptr p17 0)) (w' := w727) rfl rfl rfl rfl ?_
            refine L_guard rfl rfl rfl rfl rfl ?_
            refine L_val (v := (.int .i64 md)) (w' := w727) rfl rfl rfl rfl ?_
            refine L_guard rfl rfl rfl rfl rfl ?_
            refine L_callG hst728 (v := (.bool (holds (RS.add e1 md xs).vers (RS.add e1 md xs).mods md))) rfl rfl rfl (x_call (vs := #[(ptr p17 0), (.int .i64 md)]) rfl rfl (by kernel_rfl) ent_15) (Holds_reg (w := w727) md hreg724 hst728.rle' (hst728.get (i := 0) rfl)) (fun w730 hst731 => ?_)
            refine L_guard rfl rfl rfl rfl rfl ?_
            refine L_val (v := (.int .i64 wt427)) (w' := w730) rfl rfl rfl rfl ?_
            refine L_guard rfl rfl rfl rfl rfl ?_
            refine L_val (v := (.bool (wt427 == 0))) (w' := w730) rfl rfl rfl (by kernel_rfl) ?_
            refine L_guard rfl rfl rfl rfl rfl ?_
            refine L_val (v := (.bool (wt427 == 0))) (w' := w730) rfl rfl rfl rfl ?_
            rcases Bool.eq_false_or_eq_true (wt427 == 0) with c732 | c732
            · skip
              have q733 := eq_of_beq c732
              refine L_unwanted rfl rfl rfl rfl (by rw [c732]; rfl) rfl rfl ?_
              refine L_unwanted rfl rfl rfl rfl (by rw [c732]; rfl) rfl rfl ?_
              refine L_guard rfl rfl rfl rfl rfl ?_
              refine L_val (v := (.bool true)) (w' := w730) rfl rfl rfl (x_pick rfl rfl (by rw [c732]; rfl)) ?_
              refine L_guard rfl rfl rfl rfl rfl ?_
              have hq734 : ((holds (RS.add e1 md xs).vers (RS.add e1 md xs).mods md) == true) = true := by rw [RS.holds_add h5 md xs hA]; rw [beq_iff_eq, Bool.eq_iff_iff, Bool.or_eq_true, decide_eq_true_eq, decide_eq_true_eq]; first | (rw [beq_iff_eq]; omega) | (simp only [iff_true]; omega)
              refine L_val (v := .bool ((holds (RS.add e1 md xs).vers (RS.add e1 md xs).mods md) == true)) (w' := w730) rfl rfl rfl (by kernel_rfl) ?_
              refine L_val (v := (.bool ((holds (RS.add e1 md xs).vers (RS.add e1 md xs).mods md) == true))) (w' := w730) rfl rfl rfl rfl ?_
              refine L_val (v := (.bool ((holds (RS.add e1 md xs).vers (RS.add e1 md xs).mods md) == true))) (w' := w730) rfl rfl rfl rfl ?_
              refine L_guard rfl rfl rfl rfl hq734 ?_
              refine L_val (v := (ptr p17 0)) (w' := w730) rfl rfl rfl rfl ?_
              refine L_guard rfl rfl rfl rfl hq734 ?_
              refine L_call rfl rfl rfl (x_call (vs := #[(ptr p17 0)]) rfl rfl (by kernel_rfl) ent_13) (Modules_reg hreg724 (hst731.get (i := 0) rfl) (RS.add_ne hne md xs) (Nat.le_trans h2m (by decide))) ?_
              rintro e735 w736 ⟨v737, R738, L739, rfl, hst740, c741, rfl, ho742⟩
              refine ⟨_, rfl, ?_⟩
              have hst743 := Step.gain hst731 hst740
              have ho744 := OwnL.reint (R' := R717) ho742
              refine L_guard rfl rfl rfl rfl hq734 ?_
              obtain ⟨a745, cap746, e747, hc748⟩ := ho744.value
              subst e747
              refine L_val (v := (.int .i64 (((RS.modules (RS.add e1 md xs)).length : Nat) : Int))) (w' := w736) rfl rfl rfl (x_len_slice rfl sl_31 rfl) ?_
              refine L_guard rfl rfl rfl rfl hq734 ?_
              have hq749 : decide ((((RS.modules (RS.add e1 md xs)).length : Nat) : Int) ≤ 2) = true := decide_eq_true (by rw [RS.modules_len]; omega)
              refine L_val (v := .bool (decide ((((RS.modules (RS.add e1 md xs)).length : Nat) : Int) ≤ 2))) (w' := w736) rfl rfl rfl (by kernel_rfl) ?_
              refine L_val (v := (.bool (decide ((((RS.modules (RS.add e1 md xs)).length : Nat) : Int) ≤ 2)))) (w' := w736) rfl rfl rfl (x_pick rfl rfl (by rw [hq734]; rfl)) ?_
              refine L_val (v := (.bool (decide ((((RS.modules (RS.add e1 md xs)).length : Nat) : Int) ≤ 2)))) (w' := w736) rfl rfl rfl rfl ?_
              refine L_nil ?_
              refine W_ret ?_
              refine ⟨_, _, res_run (rs := [.tmp 6]) (vs := [(.bool (decide ((((RS.modules (RS.add e1 md xs)).length : Nat) : Int) ≤ 2)))]) Try.results4 (.cons (.tmp rfl) .nil) hmk417, ?_⟩
              exact ⟨_, _, [], rfl, hst743.keepN 0 rfl, congrArg Value.bool hq749, rfl⟩
            · skip
              have q750 := ne_of_beq_false c732
              refine L_guard rfl rfl rfl rfl c732 ?_
              refine L_val (v := (.int .i64 md)) (w' := w730) rfl rfl rfl rfl ?_
              refine L_guard rfl rfl rfl rfl c732 ?_
              refine L_val (v := (.bool (md == 5))) (w' := w730) rfl rfl rfl (by kernel_rfl) ?_
              refine L_guard rfl rfl rfl rfl rfl ?_
              refine L_val (v := (.bool (md == 5))) (w' := w730) rfl rfl rfl (x_pick rfl rfl (by rw [c732]; rfl)) ?_
              refine L_guard rfl rfl rfl rfl rfl ?_
              have hq751 : ((holds (RS.add e1 md xs).vers (RS.add e1 md xs).mods md) == (md == 5)) = true := by rw [RS.holds_add h5 md xs hA]; rw [beq_iff_eq, Bool.eq_iff_iff, Bool.or_eq_true, decide_eq_true_eq, decide_eq_true_eq]; first | (rw [beq_iff_eq]; omega) | (simp only [iff_true]; omega)
              refine L_val (v := .bool ((holds (RS.add e1 md xs).vers (RS.add e1 md xs).mods md) == (md == 5))) (w' := w730) rfl rfl rfl (by kernel_rfl) ?_
              refine L_val (v := (.bool ((holds (RS.add e1 md xs).vers (RS.add e1 md xs).mods md) == (md == 5)))) (w' := w730) rfl rfl rfl rfl ?_
              refine L_val (v := (.bool ((holds (RS.add e1 md xs).vers (RS.add e1 md xs).mods md) == (md == 5)))) (w' := w730) rfl rfl rfl rfl ?_
              refine L_guard rfl rfl rfl rfl hq751 ?_
              refine L_val (v := (ptr p17 0)) (w' := w730) rfl rfl rfl rfl ?_
              refine L_guard rfl rfl rfl rfl hq751 ?_
              refine L_call rfl rfl rfl (x_call (vs := #[(ptr p17 0)]) rfl rfl (by kernel_rfl) ent_13) (Modules_reg hreg724 (hst731.get (i := 0) rfl) (RS.add_ne hne md xs) (Nat.le_trans h2m (by decide))) ?_
              rintro e752 w753 ⟨v754, R755, L756, rfl, hst757, c758, rfl, ho759⟩
              refine ⟨_, rfl, ?_⟩
              have hst760 := Step.gain hst731 hst757
              have ho761 := OwnL.reint (R' := R717) ho759
              refine L_guard rfl rfl rfl rfl hq751 ?_
              obtain ⟨a762, cap763, e764, hc765⟩ := ho761.value
              subst e764
              refine L_val (v := (.int .i64 (((RS.modules (RS.add e1 md xs)).length : Nat) : Int))) (w' := w753) rfl rfl rfl (x_len_slice rfl sl_31 rfl) ?_
              refine L_guard rfl rfl rfl rfl hq751 ?_
              have hq766 : decide ((((RS.modules (RS.add e1 md xs)).length : Nat) : Int) ≤ 2) = true := decide_eq_true (by rw [RS.modules_len]; omega)
              refine L_val (v := .bool (decide ((((RS.modules (RS.add e1 md xs)).length : Nat) : Int) ≤ 2))) (w' := w753) rfl rfl rfl (by kernel_rfl) ?_
              refine L_val (v := (.bool (decide ((((RS.modules (RS.add e1 md xs)).length : Nat) : Int) ≤ 2)))) (w' := w753) rfl rfl rfl (x_pick rfl rfl (by rw [hq751]; rfl)) ?_
              refine L_val (v := (.bool (decide ((((RS.modules (RS.add e1 md xs)).length : Nat) : Int) ≤ 2)))) (w' := w753) rfl rfl rfl rfl ?_
              refine L_nil ?_
              refine W_ret ?_
              refine ⟨_, _, res_run (rs := [.tmp 6]) (vs := [(.bool (decide ((((RS.modules (RS.add e1 md xs)).length : Nat) : Int) ≤ 2)))]) Try.results4 (.cons (.tmp rfl) .nil) hmk417, ?_⟩
              exact ⟨_, _, [], rfl, hst760.keepN 0 rfl, congrArg Value.bool hq766, rfl⟩

end Go.Fx.Ytlfabjfajcbdcaa
