/-
  Chapter 27: Bump, printed by gen6.py.
-/
import Derived.Test.YtlfabjfajcbdcaaAs5
set_option linter.unusedSimpArgs false
set_option linter.unusedVariables false
namespace Go.Fx.Ytlfabjfajcbdcaa
open Go Go.Fx Go.Proofs
set_option maxRecDepth 20000

theorem ent_13 : Ent Try.prog 13 := fun _ _ => by kernel_rfl
theorem ent_15 : Ent Try.prog 15 := fun _ _ => by kernel_rfl
theorem ent_31 : Ent Try.prog 31 := fun _ _ => by kernel_rfl

theorem Bump_spec {w : World} {R c : Hp} {p : Nat} {s : RS} (kind n : Int) (hs : Sats w R [c]) (hreg : Reg R p s c) (hmods : s.mods.length ≤ 1048576) (hcnt : s.cnt ≤ 1000000) :
    Calls Try.prog 14 #[ptr p 0, int kind, int n] w (Comes' w R [c] fun v' R' L' => ∃ c' co, L' = [c', co] ∧ Reg R' p (s.bump kind n) c' ∧ OwnL Ty.int 3 R' v' (s.bumpL kind n) co) := by
  obtain ⟨bv, bm, cV, cM, rfl, hd1, hd2, hm, hM, hok, hbm⟩ := hreg
  have hst := (Step.refl hs).split3 hd1 hd2
  refine calls_of_W (n := 54) Try.func14 rfl Try.ntmps14 (Nat.le_of_ble_eq_true rfl) ?_
  refine W_seq ?_
  refine W_region_lit ?_
  refine L_new hst (v := fun b => ptr b 0) (ob := .cells #[(.int .i64 kind)] 3 (0, 0)) rfl rfl rfl (by kernel_rfl) (fun b1 w2 hst3 => ?_)
  refine L_new hst3 (v := fun b => ptr b 0) (ob := .cells #[(.int .i64 n)] 3 (0, 0)) rfl rfl rfl (by kernel_rfl) (fun b4 w5 hst6 => ?_)
  refine L_val (v := (.slice none 0 0)) (w' := w5) rfl rfl rfl rfl ?_
  refine L_nil ?_
  refine W_seq ?_
  refine W_seq ?_
  refine W_region_lit ?_
  refine L_val (v := (ptr p 0)) (w' := w5) rfl rfl rfl rfl ?_
  refine L_val (v := (.int .i64 kind)) (w' := w5) rfl rfl rfl (x_load rfl rfl (run_loadVar_one ti_3 (hst6.blk (i := 1) rfl) rfl)) ?_
  refine L_val (v := (.int .i64 n)) (w' := w5) rfl rfl rfl (x_load rfl rfl (run_loadVar_one ti_3 (hst6.blk (i := 0) rfl) rfl)) ?_
  refine L_callG hst6 (v := (.int .i64 (ver s.vers (kind, n)))) rfl rfl rfl (x_call (vs := #[(ptr p 0), (.int .i64 kind), (.int .i64 n)]) rfl rfl (by kernel_rfl) ent_16) (Version_spec kind n (Le.refl _) (hst6.get (i := 2) rfl) hm (hst6.get (i := 3) rfl)) (fun w7 hst8 => ?_)
  refine L_val (v := (.bool (decide (ver s.vers (kind, n) < 0)))) (w' := w7) rfl rfl rfl (by kernel_rfl) ?_
  refine L_nil ?_
  rcases Bool.eq_false_or_eq_true (decide (ver s.vers (kind, n) < 0)) with c9 | c9
  · skip
    have q10 := of_decide_eq_true c9
    refine W_cond_true (by show Value.bool _ = _; exact congrArg Value.bool c9) ?_
    refine W_seq ?_
    refine W_region_lit ?_
    refine L_val (v := (.slice none 0 0)) (w' := w7) rfl rfl rfl rfl ?_
    refine L_nil ?_
    refine W_ret ?_
    refine ⟨_, _, res_run (rs := [.tmp 6]) (vs := [(.slice none 0 0)]) Try.results14 (.cons (.tmp rfl) .nil) rfl, ?_⟩
    obtain ⟨e1, e2⟩ := RS.bump_none (of_decide_eq_true c9)
    rw [e1, e2]
    have hst11 := (((hst8.front 4 rfl rfl).front 4 rfl rfl).front 4 rfl rfl).nothing
    obtain ⟨c', hst', hreg'⟩ := Reg.close (s := s) (((hst8.front 4 rfl rfl).front 4 rfl rfl).front 4 rfl rfl) hm hM hok hbm
    exact ⟨_, R, [c', non], rfl, ((hst'.keepN 1 rfl).nothing).front 1 rfl rfl, c', non, rfl, hreg', OwnL.empty _ _ _⟩
  · skip
    have q12 := of_decide_eq_false c9
    refine W_cond_false (by show Value.bool _ = _; exact congrArg Value.bool c9) ?_
    refine W_skip ?_
    refine W_seq ?_
    refine W_region_lit ?_
    refine L_val (v := (.slice none 0 0)) (w' := w7) rfl rfl rfl rfl ?_
    refine L_nil ?_
    refine W_seq ?_
    refine W_seq ?_
    have hneg := of_decide_eq_false c9
    have hne := ver_ne hneg
    obtain ⟨bv1, rfl⟩ := MapC.isSome hm hne
    obtain ⟨bm1, rfl⟩ : ∃ b, bm = some b := by cases bm with
      | none => exact absurd (hbm rfl) hne
      | some b => exact ⟨b, rfl⟩
    have hlo := hok.lo (kind, n)
    have hthere := ver_there hneg
    have hml := s.modules_len
    have ho14 := OwnL.empty Ty.int 3 R
    have hst15 := hst8.nothing
    refine W_region_lit ?_
    refine L_val (v := (ptr p 0)) (w' := w7) rfl rfl rfl rfl ?_
    refine L_call rfl rfl rfl (x_call (vs := #[(ptr p 0)]) rfl rfl (by kernel_rfl) ent_13) (Modules_spec (R := hp w7) (Step.ro (Le.refl _)).sats (hst15.get (i := 3) rfl) hM (hst15.get (i := 5) rfl) (Nat.le_trans hmods (by decide))) ?_
    rintro e16 w17 ⟨v18, R19, L20, rfl, hst21, c22, rfl, ho23⟩
    refine ⟨_, rfl, ?_⟩
    have hst24 := Step.gain hst15 hst21
    rw [RS.modules_eq] at ho23
    obtain ⟨R26, hst27, hle25, hc28⟩ := Step.frz hst24
    have hm30 := OwnL.mono ho14 hle25
    have hm31 := vS.lift hM hle25
    have hrd29 := OwnL.freeze (OwnL.reint (R' := R26) ho23) (Le.refl _) hc28
    obtain ⟨a32, cap33, e34, hc35⟩ := hrd29.shape
    subst e34
    refine L_val (v := (.int .i64 (s.modules.length : Int))) (w' := w17) rfl rfl rfl (x_len_slice rfl sl_31 rfl) ?_
    refine L_val (v := (.int .i64 0)) (w' := w17) rfl rfl rfl rfl ?_
    refine L_nil ?_
    refine W_block ?_
    refine W_loop (I := fun σ w_ m_ => ∃ (σ0 : Fr) (k_ : Nat) (vo : Value) (co : Hp), σ = upd (upd (upd (upd (upd (upd (upd (upd (upd (upd (upd (upd (upd (upd (upd (upd σ0 0 (ptr p 0)) 1 (.int .i64 kind)) 2 (.int .i64 n)) 4 (ptr b1 0)) 5 (ptr b4 0)) 6 (.slice none 0 0)) 7 vo) 11 (ptr p 0)) 12 (.int .i64 kind)) 13 (.int .i64 n)) 14 (.int .i64 (ver s.vers (kind, n)))) 15 (.bool (decide (ver s.vers (kind, n) < 0)))) 16 (ptr p 0)) 17 (.slice a32 s.modules.length cap33)) 18 (.int .i64 (s.modules.length : Int))) 19 (.int .i64 (k_ : Int)) ∧ mks (σ0 0) = [] ∧ Step w R [tri (regBlk p (some bv1) (some bm1)) cV cM] w_ R26 [one p (.cells #[(.map (some bv1)), (.map (some bm1))] 60 (0, 0)), cV, cM, one b1 (.cells #[(.int .i64 kind)] 3 (0, 0)), one b4 (.cells #[(.int .i64 n)] 3 (0, 0)), co] ∧ OwnL Ty.int 3 R26 vo ((s.modules.take k_).filter (s.brk kind n)) co ∧ k_ ≤ s.modules.length ∧ m_ = s.modules.length - k_) (m := s.modules.length - 0) ?_ ?_
    · skip
      exact ⟨_, 0, (.slice none 0 0), non, (upd_of (upd_of (upd_of (upd_of (upd_of (upd_of (upd_of (upd_of (upd_of (upd_of (upd_of (upd_of (upd_of (upd_of (upd_of (upd_of rfl rfl) rfl) rfl) rfl) rfl) rfl) rfl) rfl) rfl) rfl) rfl) rfl) rfl) rfl) rfl) rfl), rfl, (((((hst27.front 1 rfl rfl).front 2 rfl rfl).front 5 rfl rfl).front 5 rfl rfl).front 5 rfl rfl), (by simpa using hm30), (by omega), rfl⟩
    · skip
      rintro m46 σ_ w38 ⟨s42, k_43, vo44, co45, rfl, hmk36, hst37, hi40, hf41, rfl⟩
      refine W_seq ?_
      refine W_region_lit ?_
      refine L_val (v := (.bool (decide ((k_43 : Int) < (s.modules.length : Int))))) (w' := w38) rfl rfl rfl (by kernel_rfl) ?_
      refine L_nil ?_
      refine W_seq ?_
      rcases Bool.eq_false_or_eq_true (decide ((k_43 : Int) < (s.modules.length : Int))) with c47 | c47
      · skip
        have q48 := of_decide_eq_true c47
        refine W_cond_true (by show Value.bool _ = _; exact congrArg Value.bool c47) ?_
        refine W_skip ?_
        refine W_seq ?_
        refine W_block ?_
        refine W_seq ?_
        refine W_region_lit ?_
        obtain ⟨b49, off50, cap51, cs52, T53, fz54, e55, hc56, hb57, he58⟩ := hrd29.open (by omega)
        cases e55
        obtain ⟨cl59, hs60, hr61⟩ := he58.at k_43 (by omega)
        have hx62 : cl59 = [.int .i64 (s.modules[k_43]'(by omega))] := hr61
        subst hx62
        refine L_val (v := (ptr b49 (off50 + k_43 * 1))) (w' := w38) rfl rfl rfl (x_indexAddr' rfl sl_31 ti_3 rfl rfl (by omega)) ?_
        refine L_val (v := (.int .i64 (s.modules[k_43]'(by omega)))) (w' := w38) rfl rfl rfl (x_load rfl rfl (run_loadVar_one ti_3 (hst37.rle' _ _ hb57) (seg_get (j := 0) hs60 rfl))) ?_
        refine L_val (v := (.int .i64 (s.modules[k_43]'(by omega)))) (w' := w38) rfl rfl rfl rfl ?_
        refine L_nil ?_
        refine W_seq ?_
        refine W_region_lit ?_
        refine L_val (v := (ptr p 0)) (w' := w38) rfl rfl rfl rfl ?_
        refine L_val (v := (ptr p 0)) (w' := w38) rfl rfl rfl rfl ?_
        refine L_val (v := (ptr p 1)) (w' := w38) rfl rfl rfl (by kernel_rfl) ?_
        refine L_val (v := (.map (some bm1))) (w' := w38) rfl rfl rfl (x_load rfl rfl (run_loadVar_one ti_58 (hst37.blk (i := 0) rfl) rfl)) ?_
        refine L_val (v := (.int .i64 (s.modules[k_43]'(by omega)))) (w' := w38) rfl rfl rfl rfl ?_
        obtain ⟨v63, hr64, hv65⟩ := MapC.lookupD (w := w38) hm31 (hst37.get (i := 2) rfl) law3 mt_58 ti_29 (s.modules[k_43]'(by omega)) false [] (RdS.empty _ _)
        have hv65' : RdS tyFact R26 v63 ((AL.get s.mods (s.modules[k_43]'(by omega))).getD []) := hv65
        refine L_val (v := v63) (w' := w38) rfl rfl rfl (x_lookup rfl rfl rfl hr64) ?_
        refine L_val (v := (.func (.func 31) #[] #[(ptr b1 0), (ptr b4 0)])) (w' := w38) rfl rfl rfl (by kernel_rfl) ?_
        have hmax := len_get (fun k_ xs_ h_ => Nat.le_trans (hok.big k_ xs_ h_) (by decide)) (s.modules[k_43]'(by omega))
        obtain ⟨a66, cap67, e68, hc69⟩ := hv65'.shape
        subst e68
        refine L_callG hst37 (v := (.bool (List.any ((AL.get s.mods (s.modules[k_43]'(by omega))).getD []) (usesF kind n)))) rfl rfl rfl (x_call (vs := #[(.slice a66 (((AL.get s.mods (s.modules[k_43]'(by omega))).getD []).length) cap67), (.func (.func 31) #[] #[(ptr b1 0), (ptr b4 0)])]) rfl rfl (by kernel_rfl) ent_30) (ContainsFunc_spec (v := (.slice a66 (((AL.get s.mods (s.modules[k_43]'(by omega))).getD []).length) cap67)) (xs := ((AL.get s.mods (s.modules[k_43]'(by omega))).getD [])) (usesF kind n) (Le.refl _) (RdS.mono hv65' hst37.rle') (by first | omega | (have h_ := hmax; omega)) ent_31 (fun w1 (g1 : Grow w38 w1) x _ => Bump1_spec x (Le.refl _) (Le.trans (hst37.get (i := 3) rfl) g1.le) (Le.trans (hst37.get (i := 4) rfl) g1.le))) (fun w70 hst71 => ?_)
        refine L_val (v := (.bool (List.any ((AL.get s.mods (s.modules[k_43]'(by omega))).getD []) (usesF kind n)))) (w' := w70) rfl rfl rfl rfl ?_
        refine L_nil ?_
        refine W_seq ?_
        refine W_region_lit ?_
        refine L_val (v := (.bool (List.any ((AL.get s.mods (s.modules[k_43]'(by omega))).getD []) (usesF kind n)))) (w' := w70) rfl rfl rfl rfl ?_
        refine L_val (v := (.bool (List.any ((AL.get s.mods (s.modules[k_43]'(by omega))).getD []) (usesF kind n)))) (w' := w70) rfl rfl rfl rfl ?_
        rcases Bool.eq_false_or_eq_true (List.any ((AL.get s.mods (s.modules[k_43]'(by omega))).getD []) (usesF kind n)) with c72 | c72
        · skip
          refine L_guard rfl rfl rfl rfl c72 ?_
          refine L_val (v := (ptr p 0)) (w' := w70) rfl rfl rfl rfl ?_
          refine L_guard rfl rfl rfl rfl c72 ?_
          refine L_val (v := (.int .i64 (s.modules[k_43]'(by omega)))) (w' := w70) rfl rfl rfl rfl ?_
          refine L_guard rfl rfl rfl rfl c72 ?_
          refine L_callG hst71 (v := (.bool (holds s.vers s.mods (s.modules[k_43]'(by omega))))) rfl rfl rfl (x_call (vs := #[(ptr p 0), (.int .i64 (s.modules[k_43]'(by omega)))]) rfl rfl (by kernel_rfl) ent_15) (Holds_spec (s.modules[k_43]'(by omega)) (Le.refl _) (hst71.get (i := 0) rfl) hm (hst71.get (i := 1) rfl) (vS.lift hm31 hst71.rle') (hst71.get (i := 2) rfl) (fun k_ xs_ h_ => Nat.le_trans (hok.big k_ xs_ h_) (by decide))) (fun w73 hst74 => ?_)
          refine L_val (v := (.bool (holds s.vers s.mods (s.modules[k_43]'(by omega))))) (w' := w73) rfl rfl rfl (x_pick rfl rfl (by rw [c72]; rfl)) ?_
          refine L_nil ?_
          rcases Bool.eq_false_or_eq_true (holds s.vers s.mods (s.modules[k_43]'(by omega))) with c75 | c75
          · skip
            refine W_cond_true (by show Value.bool _ = _; exact congrArg Value.bool c75) ?_
            refine W_region_lit ?_
            refine L_val (v := vo44) (w' := w73) rfl rfl rfl rfl ?_
            refine L_val (v := (.int .i64 (s.modules[k_43]'(by omega)))) (w' := w73) rfl rfl rfl rfl ?_
            refine L_new hst74 (v := fun b => .slice (some ⟨b, 0, none⟩) 1 1) (ob := .cells #[(.int .i64 (s.modules[k_43]'(by omega)))] 3 (0, 0)) rfl rfl rfl (by kernel_rfl) (fun b76 w77 hst78 => ?_)
            have hfl := filt_len (s.brk kind n) s.modules k_43
            refine L_append hst78 (t := 31) (e := 3) (ys := [(s.modules[k_43]'(by omega))]) (src := [(.int .i64 (s.modules[k_43]'(by omega)))]) 6 rfl rfl rfl rfl rfl rfl sl_31 ti_3 rfl rfl rfl hi40 (src_own (hst78.blk (i := 0) rfl)) (int_mk _ _) rfl (by first | omega | (simp only [List.length_append, List.length_cons, List.length_nil]; omega)) (by first | (simp only [maxLen]; omega) | (simp only [List.length_append, List.length_cons, List.length_nil, maxLen]; omega)) (fun v79 c80 w81 ho82 hst83 => ?_)
            refine L_val (v := v79) (w' := w81) rfl rfl rfl rfl ?_
            refine L_nil ?_
            refine W_region_lit ?_
            refine L_val (v := (.int .i64 ((k_43 + 1 : Nat) : Int))) (w' := w81) rfl rfl rfl (x_add_nat rfl rfl rfl (by omega)) ?_
            refine L_val (v := (.int .i64 ((k_43 + 1 : Nat) : Int))) (w' := w81) rfl rfl rfl rfl ?_
            refine L_nil ?_
            refine ⟨s.modules.length - (k_43 + 1), by first | omega | (simp only [List.length_append, List.length_cons, List.length_nil]; omega), ?_⟩
            exact ⟨_, (k_43 + 1), v79, c80, (upd_of (upd_of (upd_of (upd_of (upd_of (upd_of (upd_of (upd_of (upd_of (upd_of (upd_of (upd_of (upd_of (upd_of (upd_of (upd_of rfl rfl) rfl) rfl) rfl) rfl) rfl) rfl) rfl) rfl) rfl) rfl) rfl) rfl) rfl) rfl) rfl), hmk36, ((((((hst83.front 6 rfl rfl).front 6 rfl rfl).front 6 rfl rfl).front 6 rfl rfl).front 6 rfl rfl).keepN 6 rfl), (by rw [filt_yes (by omega) (brk_yes c72 c75)]; exact ho82), (by omega), rfl⟩
          · skip
            refine W_cond_false (by show Value.bool _ = _; exact congrArg Value.bool c75) ?_
            refine W_skip ?_
            refine W_region_lit ?_
            refine L_val (v := (.int .i64 ((k_43 + 1 : Nat) : Int))) (w' := w73) rfl rfl rfl (x_add_nat rfl rfl rfl (by omega)) ?_
            refine L_val (v := (.int .i64 ((k_43 + 1 : Nat) : Int))) (w' := w73) rfl rfl rfl rfl ?_
            refine L_nil ?_
            refine ⟨s.modules.length - (k_43 + 1), by first | omega | (simp only [List.length_append, List.length_cons, List.length_nil]; omega), ?_⟩
            exact ⟨_, (k_43 + 1), vo44, co45, (upd_of (upd_of (upd_of (upd_of (upd_of (upd_of (upd_of (upd_of (upd_of (upd_of (upd_of (upd_of (upd_of (upd_of (upd_of (upd_of rfl rfl) rfl) rfl) rfl) rfl) rfl) rfl) rfl) rfl) rfl) rfl) rfl) rfl) rfl) rfl) rfl), hmk36, ((((((hst74.front 5 rfl rfl).front 5 rfl rfl).front 5 rfl rfl).front 5 rfl rfl).front 5 rfl rfl).front 5 rfl rfl), (by rw [filt_no (by omega) (brk_no2 c75)]; exact hi40), (by omega), rfl⟩
        · skip
          refine L_unwanted rfl rfl rfl rfl (by rw [c72]; rfl) rfl rfl ?_
          refine L_unwanted rfl rfl rfl rfl (by rw [c72]; rfl) rfl rfl ?_
          refine L_unwanted rfl rfl rfl rfl (by rw [c72]; rfl) rfl rfl ?_
          refine L_val (v := (.bool false)) (w' := w70) rfl rfl rfl (x_pick rfl rfl (by rw [c72]; rfl)) ?_
          refine L_nil ?_
          refine W_cond_false (by show Value.bool _ = _; exact congrArg Value.bool rfl) ?_
          refine W_skip ?_
          refine W_region_lit ?_
          refine L_val (v := (.int .i64 ((k_43 + 1 : Nat) : Int))) (w' := w70) rfl rfl rfl (x_add_nat rfl rfl rfl (by omega)) ?_
          refine L_val (v := (.int .i64 ((k_43 + 1 : Nat) : Int))) (w' := w70) rfl rfl rfl rfl ?_
          refine L_nil ?_
          refine ⟨s.modules.length - (k_43 + 1), by first | omega | (simp only [List.length_append, List.length_cons, List.length_nil]; omega), ?_⟩
          exact ⟨_, (k_43 + 1), vo44, co45, (upd_of (upd_of (upd_of (upd_of (upd_of (upd_of (upd_of (upd_of (upd_of (upd_of (upd_of (upd_of (upd_of (upd_of (upd_of (upd_of rfl rfl) rfl) rfl) rfl) rfl) rfl) rfl) rfl) rfl) rfl) rfl) rfl) rfl) rfl) rfl) rfl), hmk36, ((((((hst71.front 5 rfl rfl).front 5 rfl rfl).front 5 rfl rfl).front 5 rfl rfl).front 5 rfl rfl).front 5 rfl rfl), (by rw [filt_no (by omega) (brk_no1 c72)]; exact hi40), (by omega), rfl⟩
      · skip
        have q84 := of_decide_eq_false c47
        refine W_cond_false (by show Value.bool _ = _; exact congrArg Value.bool c47) ?_
        refine W_exit ?_
        refine W_seq ?_
        refine W_region_draw [9, 11] (fun w => Le R26 (hp w) ∧ Le (one p (.cells #[(.map (some bv1)), (.map (some bm1))] 60 (0, 0))) (hp w) ∧ Le cV (hp w) ∧ Le cM (hp w) ∧ Le (one b1 (.cells #[(.int .i64 kind)] 3 (0, 0))) (hp w) ∧ Le (one b4 (.cells #[(.int .i64 n)] 3 (0, 0))) (hp w) ∧ Le co45 (hp w)) hmix (by decide +kernel) (fun _ _ h => h) ?_
        have hst86 := hst37.draws (w38.drawn + 1)
        generalize draws w38 (w38.drawn + 1) = w85 at hst86 ⊢
        refine LA_takeP (v := (ptr p 0)) 0 rfl rfl rfl (by decide +kernel) (by decide +kernel) (by decide +kernel) (by decide +kernel) (fun _ _ _ h => h) (Want.plain rfl) (fun u88 => rfl) (fun _ => ⟨hst86.rle', hst86.get (i := 0) rfl, hst86.get (i := 1) rfl, hst86.get (i := 2) rfl, hst86.get (i := 3) rfl, hst86.get (i := 4) rfl, hst86.get (i := 5) rfl⟩) ?_
        refine LA_takeP (v := (ptr p 0)) 1 rfl rfl rfl (by decide +kernel) (by decide +kernel) (by decide +kernel) (by decide +kernel) (fun _ _ _ h => h) (Want.plain rfl) (fun u91 => rfl) (fun _ => ⟨hst86.rle', hst86.get (i := 0) rfl, hst86.get (i := 1) rfl, hst86.get (i := 2) rfl, hst86.get (i := 3) rfl, hst86.get (i := 4) rfl, hst86.get (i := 5) rfl⟩) ?_
        refine LA_takeP (v := (ptr p 0)) 2 rfl rfl rfl (by decide +kernel) (by decide +kernel) (by decide +kernel) (by decide +kernel) (fun _ _ _ h => h) (Want.plain rfl) (fun u94 => (by kernel_rfl)) (fun _ => ⟨hst86.rle', hst86.get (i := 0) rfl, hst86.get (i := 1) rfl, hst86.get (i := 2) rfl, hst86.get (i := 3) rfl, hst86.get (i := 4) rfl, hst86.get (i := 5) rfl⟩) ?_
        refine LA_take (v := (.map (some bv1))) 3 rfl rfl rfl (by decide +kernel) (by decide +kernel) (by decide +kernel) (by decide +kernel) (by decide +kernel) (fun _ _ _ h => h) (Want.plain rfl) (fun u97 hF98 => (x_load rfl rfl (run_loadVar_one ti_57 (hF98.2.1 _ _ (one_self _ _)) rfl))) ⟨hst86.rle', hst86.get (i := 0) rfl, hst86.get (i := 1) rfl, hst86.get (i := 2) rfl, hst86.get (i := 3) rfl, hst86.get (i := 4) rfl, hst86.get (i := 5) rfl⟩ ?_
        refine LA_take (v := (.int .i64 kind)) 4 rfl rfl rfl (by decide +kernel) (by decide +kernel) (by decide +kernel) (by decide +kernel) (by decide +kernel) (fun _ _ _ h => h) (Want.plain rfl) (fun u100 hF101 => (x_load rfl rfl (run_loadVar_one ti_3 (hF101.2.2.2.2.1 _ _ (one_self _ _)) rfl))) ⟨hst86.rle', hst86.get (i := 0) rfl, hst86.get (i := 1) rfl, hst86.get (i := 2) rfl, hst86.get (i := 3) rfl, hst86.get (i := 4) rfl, hst86.get (i := 5) rfl⟩ ?_
        refine LA_take (v := (.int .i64 n)) 5 rfl rfl rfl (by decide +kernel) (by decide +kernel) (by decide +kernel) (by decide +kernel) (by decide +kernel) (fun _ _ _ h => h) (Want.plain rfl) (fun u103 hF104 => (x_load rfl rfl (run_loadVar_one ti_3 (hF104.2.2.2.2.2.1 _ _ (one_self _ _)) rfl))) ⟨hst86.rle', hst86.get (i := 0) rfl, hst86.get (i := 1) rfl, hst86.get (i := 2) rfl, hst86.get (i := 3) rfl, hst86.get (i := 4) rfl, hst86.get (i := 5) rfl⟩ ?_
        refine LA_takeP (v := (.agg #[(.int .i64 kind), (.int .i64 n)])) 6 rfl rfl rfl (by decide +kernel) (by decide +kernel) (by decide +kernel) (by decide +kernel) (fun _ _ _ h => h) (Want.plain rfl) (fun u106 => (by kernel_rfl)) (fun _ => ⟨hst86.rle', hst86.get (i := 0) rfl, hst86.get (i := 1) rfl, hst86.get (i := 2) rfl, hst86.get (i := 3) rfl, hst86.get (i := 4) rfl, hst86.get (i := 5) rfl⟩) ?_
        refine LA_all [7, 9] (by decide +kernel) (by simp) ?_
        intro i_ hi_
        simp only [List.mem_cons, List.not_mem_nil, or_false] at hi_
        rcases hi_ with rfl | rfl
        · skip
          obtain ⟨v109, hr110, hv111⟩ := MapC.lookupD (w := w85) hm (hst86.get (i := 1) rfl) law74 mt_57 ti_3 (kind, n) false 0 rfl
          have hv111' : v109 = .int .i64 ((AL.get s.vers (kind, n)).getD 0) := hv111
          subst hv111'
          refine One_val (i := 7) (v := (.int .i64 ((AL.get s.vers (kind, n)).getD 0))) rfl rfl rfl (Want.plain rfl) (x_lookup rfl rfl rfl hr110) (fun _ => ⟨hst86.rle', hst86.get (i := 0) rfl, hst86.get (i := 1) rfl, hst86.get (i := 2) rfl, hst86.get (i := 3) rfl, hst86.get (i := 4) rfl, hst86.get (i := 5) rfl⟩) ?_
          refine LA_takeP (v := (.int .i64 (((AL.get s.vers (kind, n)).getD 0) + 1))) 8 rfl rfl rfl (by decide +kernel) (by decide +kernel) (by decide +kernel) (by decide +kernel) (fun _ _ _ h => h) (Want.plain rfl) (fun u113 => (x_add rfl rfl rfl (by constructor <;> omega))) (fun _ => ⟨hst86.rle', hst86.get (i := 0) rfl, hst86.get (i := 1) rfl, hst86.get (i := 2) rfl, hst86.get (i := 3) rfl, hst86.get (i := 4) rfl, hst86.get (i := 5) rfl⟩) ?_
          refine LA_all [9] (by decide +kernel) (by simp) ?_
          intro i_ hi_
          simp only [List.mem_cons, List.not_mem_nil, or_false] at hi_
          subst hi_
          obtain ⟨v116, sn117, ob118, w119, hr120, hst121, hk122, hm123⟩ := MapC.entry hm (hst86.front 1 rfl rfl) law74 mt_57 ti_3 (kind, n)
          refine One_val (i := 9) (v := .tuple #[v116, int sn117]) rfl rfl rfl (Want.plain rfl) (x_mapEntry rfl rfl rfl hr120) (fun h => absurd h (by decide +kernel)) ?_
          refine LA_takeP (v := (.int .i64 sn117)) 10 rfl rfl rfl (by decide +kernel) (by decide +kernel) (by decide +kernel) (by decide +kernel) (fun _ _ _ h => h) (Want.plain rfl) (fun u125 => (by kernel_rfl)) (fun h => absurd h (by decide +kernel)) ?_
          refine LA_all [11] (by decide +kernel) (by simp) ?_
          intro i_ hi_
          simp only [List.mem_cons, List.not_mem_nil, or_false] at hi_
          subst hi_
          obtain ⟨c128, w129, hr130, hm131, hst132⟩ := hk122 _ _ _ ((AL.get s.vers (kind, n)).getD 0 + 1) (.int .i64 ((AL.get s.vers (kind, n)).getD 0 + 1)) hst121 rfl
          refine One_skip (i := 11) rfl rfl (Want.plain rfl) (x_entryStore rfl rfl rfl rfl hr130) (fun h => absurd h (by decide +kernel)) ?_
          refine LA_done (by decide +kernel) ?_
          refine W_seq ?_
          refine W_region_lit ?_
          refine L_val (v := vo44) (w' := w129) rfl rfl rfl rfl ?_
          refine L_val (v := vo44) (w' := w129) rfl rfl rfl rfl ?_
          refine L_nil ?_
          refine W_ret ?_
          refine ⟨_, _, res_run (rs := [.tmp 6]) (vs := [vo44]) Try.results14 (.cons (.tmp rfl) .nil) hmk36, ?_⟩
          obtain ⟨e1, e2⟩ := RS.bump_some hneg
          have hb2 := hok.bump kind n
          rw [e1] at hb2
          rw [e1, e2]
          obtain ⟨c', hst', hreg'⟩ := Reg.close (s := { s with vers := AL.set s.vers (kind, n) ((AL.get s.vers (kind, n)).getD 0 + 1), cnt := s.cnt + 1 }) ((((hst132.front 5 rfl rfl).front 3 rfl rfl).front 2 rfl rfl).front 3 rfl rfl) hm131 hm31 hb2 (by intro h; cases h)
          have hk2 : s.modules.take k_43 = s.modules := List.take_of_length_le (by omega)
          rw [hk2] at hi40
          exact ⟨_, _, [c', co45], rfl, hst'.keepN 2 rfl, c', co45, rfl, hreg', hi40⟩
        · skip
          obtain ⟨v133, sn134, ob135, w136, hr137, hst138, hk139, hm140⟩ := MapC.entry hm (hst86.front 1 rfl rfl) law74 mt_57 ti_3 (kind, n)
          refine One_val (i := 9) (v := .tuple #[v133, int sn134]) rfl rfl rfl (Want.plain rfl) (x_mapEntry rfl rfl rfl hr137) (fun h => absurd h (by decide +kernel)) ?_
          refine LA_takeP (v := (.int .i64 sn134)) 10 rfl rfl rfl (by decide +kernel) (by decide +kernel) (by decide +kernel) (by decide +kernel) (fun _ _ _ h => h) (Want.plain rfl) (fun u142 => (by kernel_rfl)) (fun h => absurd h (by decide +kernel)) ?_
          refine LA_all [7] (by decide +kernel) (by simp) ?_
          intro i_ hi_
          simp only [List.mem_cons, List.not_mem_nil, or_false] at hi_
          subst hi_
          obtain ⟨v145, hr146, hv147⟩ := MapC.lookupD (w := w136) (hm140 hthere) (hst138.get (i := 0) rfl) law74 mt_57 ti_3 (kind, n) false 0 rfl
          have hv147' : v145 = .int .i64 ((AL.get s.vers (kind, n)).getD 0) := hv147
          subst hv147'
          refine One_val (i := 7) (v := (.int .i64 ((AL.get s.vers (kind, n)).getD 0))) rfl rfl rfl (Want.plain rfl) (x_lookup rfl rfl rfl hr146) (fun h => absurd h (by decide +kernel)) ?_
          refine LA_takeP (v := (.int .i64 (((AL.get s.vers (kind, n)).getD 0) + 1))) 8 rfl rfl rfl (by decide +kernel) (by decide +kernel) (by decide +kernel) (by decide +kernel) (fun _ _ _ h => h) (Want.plain rfl) (fun u149 => (x_add rfl rfl rfl (by constructor <;> omega))) (fun h => absurd h (by decide +kernel)) ?_
          refine LA_all [11] (by decide +kernel) (by simp) ?_
          intro i_ hi_
          simp only [List.mem_cons, List.not_mem_nil, or_false] at hi_
          subst hi_
          obtain ⟨c152, w153, hr154, hm155, hst156⟩ := hk139 _ _ _ ((AL.get s.vers (kind, n)).getD 0 + 1) (.int .i64 ((AL.get s.vers (kind, n)).getD 0 + 1)) hst138 rfl
          refine One_skip (i := 11) rfl rfl (Want.plain rfl) (x_entryStore rfl rfl rfl rfl hr154) (fun h => absurd h (by decide +kernel)) ?_
          refine LA_done (by decide +kernel) ?_
          refine W_seq ?_
          refine W_region_lit ?_
          refine L_val (v := vo44) (w' := w153) rfl rfl rfl rfl ?_
          refine L_val (v := vo44) (w' := w153) rfl rfl rfl rfl ?_
          refine L_nil ?_
          refine W_ret ?_
          refine ⟨_, _, res_run (rs := [.tmp 6]) (vs := [vo44]) Try.results14 (.cons (.tmp rfl) .nil) hmk36, ?_⟩
          obtain ⟨e1, e2⟩ := RS.bump_some hneg
          have hb2 := hok.bump kind n
          rw [e1] at hb2
          rw [e1, e2]
          obtain ⟨c', hst', hreg'⟩ := Reg.close (s := { s with vers := AL.set s.vers (kind, n) ((AL.get s.vers (kind, n)).getD 0 + 1), cnt := s.cnt + 1 }) ((((hst156.front 5 rfl rfl).front 3 rfl rfl).front 2 rfl rfl).front 3 rfl rfl) hm155 hm31 hb2 (by intro h; cases h)
          have hk2 : s.modules.take k_43 = s.modules := List.take_of_length_le (by omega)
          rw [hk2] at hi40
          exact ⟨_, _, [c', co45], rfl, hst'.keepN 2 rfl, c', co45, rfl, hreg', hi40⟩

end Go.Fx.Ytlfabjfajcbdcaa
