/-
  Chapter 27: the facts of a trace, printed by gen9.py.
-/
import Derived.Test.YtlfabjfajcbdcaaAs9a
set_option linter.unusedSimpArgs false
set_option linter.unusedVariables false
namespace Go.Fx.Ytlfabjfajcbdcaa
open Go Go.Fx Go.Proofs
set_option maxRecDepth 20000

theorem ent_38 : Ent Try.prog 38 := fun _ _ => by kernel_rfl
theorem ent_39 : Ent Try.prog 39 := fun _ _ => by kernel_rfl
theorem ent_40 : Ent Try.prog 40 := fun _ _ => by kernel_rfl
theorem sl_53 : SL Try.prog 53 71 := Try.underlying53
theorem sl_54 : SL Try.prog 54 92 := Try.underlying54
theorem ti_53 : TI Try.prog 53 false 1 24 (.slice none 0 0) := ⟨by kernel_rfl, by kernel_rfl⟩
theorem ti_54 : TI Try.prog 54 false 1 24 (.slice none 0 0) := ⟨by kernel_rfl, by kernel_rfl⟩
theorem ti_71 : TI Try.prog 71 true 14 152 (.agg #[(.int .i64 0), (.int .i64 0), (.int .i64 0), (.int .i64 0), (.int .i64 0), (.slice none 0 0), (.int .i64 0), (.int .i64 0), (.string ⟨#[]⟩), (.slice none 0 0), (.int .i64 0), (.int .i64 0), (.int .i64 0), (.bool false)]) := ⟨by kernel_rfl, by kernel_rfl⟩
theorem ti_75 : TI Try.prog 75 false 1 8 (.map none) := ⟨by kernel_rfl, by kernel_rfl⟩

theorem Facts1_spec {w : World} {R cV cF : Hp} {p q2 q3 bF : Nat} {bv bm : Option Nat} {m : List (Th × Int)} {fs : List (Th × Bool)} (kind n : Int) (hs : Sats w R [cF]) (h0 : Le (one q2 (.cells #[ptr p 0] 25 (0, 0))) R) (h5 : Le (one q3 (.cells #[.map (some bF)] 75 (0, 0))) R) (h1 : Le (one p (.cells #[.map bv, .map bm] 60 (0, 0))) R) (hm : MapC kk (vE (Value.int .i64)) bv m cV) (h2 : Le cV R) (hF : MapC kk (vE Value.bool) (some bF) fs cF) :
    Calls Try.prog 38 #[int kind, int n, ptr q2 0, ptr q3 0] w (Comes' w R [cF] fun v' R' L' => v' = .tuple #[] ∧ ∃ c', L' = [c'] ∧ MapC kk (vE Value.bool) (some bF) (note m fs kind n) c') := by
  have hst := Step.refl hs
  refine calls_of_W (n := 15) Try.func38 rfl Try.ntmps38 (Nat.le_of_ble_eq_true rfl) ?_
  refine W_seq ?_
  refine W_region_lit ?_
  refine L_val (v := (ptr p 0)) (w' := w) rfl rfl rfl (x_load rfl rfl (run_loadVar_one ti_25 (hst.rle' _ _ (h0 _ _ (one_self _ _))) rfl)) ?_
  refine L_val (v := (.int .i64 kind)) (w' := w) rfl rfl rfl rfl ?_
  refine L_val (v := (.int .i64 n)) (w' := w) rfl rfl rfl rfl ?_
  refine L_callG hst (v := (.int .i64 (ver m (kind, n)))) rfl rfl rfl (x_call (vs := #[(ptr p 0), (.int .i64 kind), (.int .i64 n)]) rfl rfl (by kernel_rfl) ent_16) (Version_spec kind n (Le.refl _) (Le.trans h1 hst.rle') hm (Le.trans h2 hst.rle')) (fun w1 hst2 => ?_)
  refine L_val (v := (.bool (decide (ver m (kind, n) > 0)))) (w' := w1) rfl rfl rfl (by kernel_rfl) ?_
  refine L_nil ?_
  rcases Bool.eq_false_or_eq_true (decide (ver m (kind, n) > 0)) with c3 | c3
  · skip
    have q4 := of_decide_eq_true c3
    refine W_cond_true (by show Value.bool _ = _; exact congrArg Value.bool c3) ?_
    refine W_region_lit ?_
    refine L_val (v := (.map (some bF))) (w' := w1) rfl rfl rfl (x_load rfl rfl (run_loadVar_one ti_75 (hst2.rle' _ _ (h5 _ _ (one_self _ _))) rfl)) ?_
    refine L_val (v := (.int .i64 kind)) (w' := w1) rfl rfl rfl rfl ?_
    refine L_val (v := (.int .i64 n)) (w' := w1) rfl rfl rfl rfl ?_
    refine L_val (v := (.agg #[(.int .i64 kind), (.int .i64 n)])) (w' := w1) rfl rfl rfl (by kernel_rfl) ?_
    obtain ⟨c5, w6, hr7, hm8, hst9⟩ := MapC.update hF hst2 law74 mt_75 (kind, n) true (.bool true) rfl
    refine L_skip rfl rfl (x_mapUpdate rfl rfl rfl rfl hr7) ?_
    refine L_nil ?_
    refine ⟨_, _, res_run (rs := []) (vs := []) Try.results38 .nil rfl, ?_⟩
    have en : note m fs kind n = (AL.set fs (kind, n) true) := by unfold note; rw [if_pos (of_decide_eq_true c3)]
    rw [en]
    exact ⟨_, R, _, rfl, (hst9).keepN 1 rfl, rfl, _, rfl, hm8⟩
  · skip
    have q10 := of_decide_eq_false c3
    refine W_cond_false (by show Value.bool _ = _; exact congrArg Value.bool c3) ?_
    refine W_skip ?_
    refine ⟨_, _, res_run (rs := []) (vs := []) Try.results38 .nil rfl, ?_⟩
    have en : note m fs kind n = fs := by unfold note; rw [if_neg (of_decide_eq_false c3)]
    rw [en]
    exact ⟨_, R, _, rfl, (hst2).keepN 1 rfl, rfl, _, rfl, hF⟩

theorem Facts_spec {w : World} {R cV : Hp} {p ti : Nat} {bv bm : Option Nat} {m : List (Th × Int)} (hs : Sats w R []) (h1 : Le (one p (.cells #[.map bv, .map bm] 60 (0, 0))) R) (hm : MapC kk (vE (Value.int .i64)) bv m cV) (h2 : Le cV R) (ht : Le (one ti (.cells #[(.int .i64 16), (.int .i64 0), (.int .i64 0), (.int .i64 0), (.int .i64 0), (.slice none 0 0), (.int .i64 0), (.int .i64 0), (.string ⟨#[]⟩), (.slice none 0 0), (.int .i64 0), (.int .i64 0), (.int .i64 (-1)), (.bool false)] 71 (0, 0))) R) (hpos : ver m (1, 1) > 0) :
    Calls Try.prog 22 #[ptr p 0, .agg #[(.int .i64 1), (.int .i64 3), (.slice (some ⟨ti, 0, none⟩) 1 1), (.slice none 0 0)]] w (Comes' w R [] fun v' R' L' => ∃ c' ys, L' = [c'] ∧ OwnL tyFact 38 R' v' ys c' ∧ ys.Perm ((fs0 m).map (ff m)) ∧ ys.Pairwise fun a b => leF a b = true) := by
  have hst := Step.refl hs
  refine calls_of_W (n := 92) Try.func22 rfl Try.ntmps22 (Nat.le_of_ble_eq_true rfl) ?_
  refine W_seq ?_
  refine W_region_lit ?_
  refine L_new hst (v := fun b => ptr b 0) (ob := .cells #[(ptr p 0)] 25 (0, 0)) rfl rfl rfl (by kernel_rfl) (fun b1 w2 hst3 => ?_)
  refine L_new hst3 (v := fun b => ptr b 0) (ob := .cells #[(.int .i64 1), (.int .i64 3), (.slice (some ⟨ti, 0, none⟩) 1 1), (.slice none 0 0)] 56 (0, 0)) rfl rfl rfl (by kernel_rfl) (fun b4 w5 hst6 => ?_)
  refine L_val (v := (.slice none 0 0)) (w' := w5) rfl rfl rfl rfl ?_
  refine L_nil ?_
  refine W_seq ?_
  refine W_seq ?_
  refine W_region_lit ?_
  refine L_val (v := (ptr p 0)) (w' := w5) rfl rfl rfl (x_load rfl rfl (run_loadVar_one ti_25 (hst6.blk (i := 1) rfl) rfl)) ?_
  refine L_val (v := (.bool false)) (w' := w5) rfl rfl rfl (by kernel_rfl) ?_
  refine L_nil ?_
  refine W_cond_false (by show Value.bool _ = _; exact congrArg Value.bool rfl) ?_
  refine W_skip ?_
  refine W_seq ?_
  refine W_region_lit ?_
  refine L_new hst6 (v := fun b => .map (some b)) (ob := .map #[] 0) rfl rfl rfl (by kernel_rfl) (fun b7 w8 hst9 => ?_)
  have hm10 : MapC kk (vE Value.bool) (some b7) [] _ := MapC.made b7
  generalize one b7 (.map #[] 0) = c11 at hm10 hst9
  refine L_new hst9 (v := fun b => ptr b 0) (ob := .cells #[(.map none)] 75 (0, 0)) rfl rfl rfl (by kernel_rfl) (fun b12 w13 hst14 => ?_)
  refine L_store hst14 0 ti_75 rfl rfl rfl rfl rfl rfl rfl rfl rfl rfl rfl (fun w15 hst16 => ?_)
  change Step _ _ _ _ _ [one b12 (.cells #[(.map (some b7))] 75 (0, 0)), c11, one b4 (.cells #[(.int .i64 1), (.int .i64 3), (.slice (some ⟨ti, 0, none⟩) 1 1), (.slice none 0 0)] 56 (0, 0)), one b1 (.cells #[(ptr p 0)] 25 (0, 0))] at hst16
  refine L_nil ?_
  refine W_seq ?_
  obtain ⟨R17, hst18, hle19, hc20⟩ := Step.frz (hst16.front 3 rfl rfl)
  obtain ⟨R21, hst22, hle23, hc24⟩ := Step.frz hst18
  refine W_region_lit ?_
  refine L_val (v := (.func (.func 38) #[] #[(ptr b1 0), (ptr b12 0)])) (w' := w15) rfl rfl rfl (by kernel_rfl) ?_
  refine L_val (v := (.func (.func 38) #[] #[(ptr b1 0), (ptr b12 0)])) (w' := w15) rfl rfl rfl rfl ?_
  refine L_nil ?_
  refine W_seq ?_
  refine W_region_lit ?_
  refine L_val (v := (.func (.func 38) #[] #[(ptr b1 0), (ptr b12 0)])) (w' := w15) rfl rfl rfl rfl ?_
  refine L_val (v := (ptr b4 0)) (w' := w15) rfl rfl rfl (by kernel_rfl) ?_
  refine L_val (v := (ptr b4 0)) (w' := w15) rfl rfl rfl (by kernel_rfl) ?_
  refine L_val (v := (.int .i64 1)) (w' := w15) rfl rfl rfl (x_load rfl rfl (run_loadVar_one ti_3 (hst22.blk (i := 1) rfl) rfl)) ?_
  have hst25 := hst22
  refine L_callS [c11] [one b4 (.cells #[(.int .i64 1), (.int .i64 3), (.slice (some ⟨ti, 0, none⟩) 1 1), (.slice none 0 0)] 56 (0, 0))] hst25 rfl rfl rfl (x_callv (vs := #[(.int .i64 1), (.int .i64 1), (ptr b1 0), (ptr b12 0)]) rfl rfl (by kernel_rfl) ent_38) (Facts1_spec 1 1 (hst25.sats.take 1 rfl) (Le.trans hc20 hle23) hc24 (Le.trans (Le.trans h1 hle19) hle23) hm (Le.trans (Le.trans h2 hle19) hle23) hm10) (fun v26 w27 R28 L29 hp30 hle31 hst32 => ?_)
  obtain ⟨rfl, c33, rfl, hm34⟩ := hp30
  refine L_nil ?_
  refine W_seq ?_
  refine W_seq ?_
  refine W_region_lit ?_
  refine L_val (v := (ptr b4 2)) (w' := w27) rfl rfl rfl (by kernel_rfl) ?_
  refine L_val (v := (.slice (some ⟨ti, 0, none⟩) 1 1)) (w' := w27) rfl rfl rfl (x_load rfl rfl (run_loadVar_one ti_53 (hst32.blk (i := 1) rfl) rfl)) ?_
  refine L_val (v := (.int .i64 1)) (w' := w27) rfl rfl rfl (x_len_slice rfl sl_53 rfl) ?_
  refine L_val (v := (.int .i64 0)) (w' := w27) rfl rfl rfl rfl ?_
  refine L_nil ?_
  refine W_block ?_
  refine W_loop_unr 1 ?_
  show W _ _ _ _ _ _ _
  refine W_seq ?_
  refine W_region_lit ?_
  refine L_val (v := (.bool true)) (w' := w27) rfl rfl rfl (by kernel_rfl) ?_
  refine L_nil ?_
  refine W_seq ?_
  refine W_cond_true (by show Value.bool _ = _; exact congrArg Value.bool rfl) ?_
  refine W_skip ?_
  refine W_seq ?_
  refine W_block ?_
  refine W_seq ?_
  refine W_region_lit ?_
  refine L_val (v := (ptr ti 0)) (w' := w27) rfl rfl rfl (x_indexAddr' (k := 0) (len := 1) rfl sl_53 ti_71 rfl rfl (by decide)) ?_
  refine L_val (v := (.agg #[(.int .i64 16), (.int .i64 0), (.int .i64 0), (.int .i64 0), (.int .i64 0), (.slice none 0 0), (.int .i64 0), (.int .i64 0), (.string ⟨#[]⟩), (.slice none 0 0), (.int .i64 0), (.int .i64 0), (.int .i64 (-1)), (.bool false)])) (w' := w27) rfl rfl rfl (x_load rfl rfl (run_loadVar_agg ti_71 (hst32.rle' _ _ ((Le.trans (Le.trans (Le.trans ht hle19) hle23) hle31) _ _ (one_self _ _))) (l := [(.int .i64 16), (.int .i64 0), (.int .i64 0), (.int .i64 0), (.int .i64 0), (.slice none 0 0), (.int .i64 0), (.int .i64 0), (.string ⟨#[]⟩), (.slice none 0 0), (.int .i64 0), (.int .i64 0), (.int .i64 (-1)), (.bool false)]) rfl rfl)) ?_
  refine L_new hst32 (v := fun b => ptr b 0) (ob := .cells #[(.int .i64 0), (.int .i64 0), (.int .i64 0), (.int .i64 0), (.int .i64 0), (.slice none 0 0), (.int .i64 0), (.int .i64 0), (.string ⟨#[]⟩), (.slice none 0 0), (.int .i64 0), (.int .i64 0), (.int .i64 0), (.bool false)] 71 (0, 0)) rfl rfl rfl (by kernel_rfl) (fun b35 w36 hst37 => ?_)
  refine L_store hst37 0 ti_71 rfl rfl rfl rfl rfl rfl rfl rfl rfl rfl rfl (fun w38 hst39 => ?_)
  change Step _ _ _ _ _ [one b35 (.cells #[(.int .i64 16), (.int .i64 0), (.int .i64 0), (.int .i64 0), (.int .i64 0), (.slice none 0 0), (.int .i64 0), (.int .i64 0), (.string ⟨#[]⟩), (.slice none 0 0), (.int .i64 0), (.int .i64 0), (.int .i64 (-1)), (.bool false)] 71 (0, 0)), c33, one b4 (.cells #[(.int .i64 1), (.int .i64 3), (.slice (some ⟨ti, 0, none⟩) 1 1), (.slice none 0 0)] 56 (0, 0))] at hst39
  refine L_nil ?_
  refine W_seq ?_
  refine W_region_lit ?_
  refine L_val (v := (ptr b35 0)) (w' := w38) rfl rfl rfl (by kernel_rfl) ?_
  refine L_val (v := (.int .i64 16)) (w' := w38) rfl rfl rfl (x_load rfl rfl (run_loadVar_one ti_3 (hst39.blk (i := 0) rfl) rfl)) ?_
  refine L_nil ?_
  refine W_block ?_
  refine W_seq ?_
  refine W_region_lit ?_
  refine L_val (v := (.bool false)) (w' := w38) rfl rfl rfl (by kernel_rfl) ?_
  refine L_val (v := (.bool false)) (w' := w38) rfl rfl rfl rfl ?_
  refine L_nil ?_
  refine W_cond_false (by show Value.bool _ = _; exact congrArg Value.bool rfl) ?_
  refine W_seq ?_
  refine W_seq ?_
  refine W_region_lit ?_
  refine L_val (v := (.bool false)) (w' := w38) rfl rfl rfl (by kernel_rfl) ?_
  refine L_val (v := (.bool false)) (w' := w38) rfl rfl rfl rfl ?_
  refine L_nil ?_
  refine W_cond_false (by show Value.bool _ = _; exact congrArg Value.bool rfl) ?_
  refine W_seq ?_
  refine W_region_lit ?_
  refine L_val (v := (.bool true)) (w' := w38) rfl rfl rfl (by kernel_rfl) ?_
  refine L_val (v := (.bool true)) (w' := w38) rfl rfl rfl rfl ?_
  refine L_nil ?_
  refine W_cond_true (by show Value.bool _ = _; exact congrArg Value.bool rfl) ?_
  refine W_skip ?_
  refine W_cond_true (by show Value.bool _ = _; exact congrArg Value.bool rfl) ?_
  refine W_region_lit ?_
  refine L_val (v := (.func (.func 38) #[] #[(ptr b1 0), (ptr b12 0)])) (w' := w38) rfl rfl rfl rfl ?_
  refine L_val (v := (ptr b35 4)) (w' := w38) rfl rfl rfl (by kernel_rfl) ?_
  refine L_val (v := (.int .i64 0)) (w' := w38) rfl rfl rfl (x_load rfl rfl (run_loadVar_one ti_3 (hst39.blk (i := 0) rfl) rfl)) ?_
  have hst40 := (hst39.front 1 rfl rfl)
  refine L_callS [c33] [one b35 (.cells #[(.int .i64 16), (.int .i64 0), (.int .i64 0), (.int .i64 0), (.int .i64 0), (.slice none 0 0), (.int .i64 0), (.int .i64 0), (.string ⟨#[]⟩), (.slice none 0 0), (.int .i64 0), (.int .i64 0), (.int .i64 (-1)), (.bool false)] 71 (0, 0)), one b4 (.cells #[(.int .i64 1), (.int .i64 3), (.slice (some ⟨ti, 0, none⟩) 1 1), (.slice none 0 0)] 56 (0, 0))] hst40 rfl rfl rfl (x_callv (vs := #[(.int .i64 2), (.int .i64 0), (ptr b1 0), (ptr b12 0)]) rfl rfl (by kernel_rfl) ent_38) (Facts1_spec 2 0 (hst40.sats.take 1 rfl) (Le.trans (Le.trans hc20 hle23) hle31) (Le.trans hc24 hle31) (Le.trans (Le.trans (Le.trans h1 hle19) hle23) hle31) hm (Le.trans (Le.trans (Le.trans h2 hle19) hle23) hle31) hm34) (fun v41 w42 R43 L44 hp45 hle46 hst47 => ?_)
  obtain ⟨rfl, c48, rfl, hm49⟩ := hp45
  refine L_nil ?_
  refine W_region_lit ?_
  refine L_val (v := (.int .i64 1)) (w' := w42) rfl rfl rfl (by kernel_rfl) ?_
  refine L_val (v := (.int .i64 1)) (w' := w42) rfl rfl rfl rfl ?_
  refine L_nil ?_
  show W _ _ _ _ _ _ _
  refine W_seq ?_
  refine W_region_lit ?_
  refine L_val (v := (.bool false)) (w' := w42) rfl rfl rfl (by kernel_rfl) ?_
  refine L_nil ?_
  refine W_seq ?_
  refine W_cond_false (by show Value.bool _ = _; exact congrArg Value.bool rfl) ?_
  refine W_exit ?_
  refine W_seq ?_
  refine W_seq ?_
  refine W_region_lit ?_
  refine L_val (v := (ptr b4 3)) (w' := w42) rfl rfl rfl (by kernel_rfl) ?_
  refine L_val (v := (.slice none 0 0)) (w' := w42) rfl rfl rfl (x_load rfl rfl (run_loadVar_one ti_54 (hst47.blk (i := 2) rfl) rfl)) ?_
  refine L_val (v := (.int .i64 0)) (w' := w42) rfl rfl rfl (x_len_slice rfl sl_54 rfl) ?_
  refine L_val (v := (.int .i64 0)) (w' := w42) rfl rfl rfl rfl ?_
  refine L_nil ?_
  refine W_block ?_
  refine W_loop_once ?_
  refine W_seq ?_
  refine W_region_lit ?_
  refine L_val (v := (.bool false)) (w' := w42) rfl rfl rfl (by kernel_rfl) ?_
  refine L_nil ?_
  refine W_seq ?_
  refine W_cond_false (by show Value.bool _ = _; exact congrArg Value.bool rfl) ?_
  refine W_exit ?_
  refine W_seq ?_
  refine W_region_lit ?_
  refine L_val (v := (.slice none 0 0)) (w' := w42) rfl rfl rfl rfl ?_
  refine L_nil ?_
  refine W_seq ?_
  refine W_seq ?_
  have ho51 := OwnL.empty tyFact 38 R43
  have hst52 := hst47.nothing
  have hfs53 : MapC kk (vE Value.bool) (some b7) (fs0 m) c48 := hm49
  refine W_region_lit ?_
  refine L_val (v := (.map (some b7))) (w' := w42) rfl rfl rfl (x_load rfl rfl (run_loadVar_one ti_75 (hst52.rle' _ _ ((Le.trans (Le.trans hc24 hle31) hle46) _ _ (one_self _ _))) rfl)) ?_
  obtain ⟨es54, ck55, hE56⟩ := MapC.open hfs53
  refine L_new hst52 (v := fun b => ptr b 0) rfl rfl rfl (x_range rfl rfl (run_range mt_75 hE56 (hst52.get (i := 1) rfl))) (fun r57 w58 hst59 => ?_)
  have hI61 := It.start b7 r57 es54 ck55 (fs0 m)
  generalize one r57 (.mapIter (some b7) ck55 #[] ck55) = ci60 at hI61 hst59
  refine L_nil ?_
  refine W_block ?_
  refine W_loop (I := fun σ w_ m_ => ∃ (σ0 : Fr) (xs_ : List (Th × Bool)) (vo : Value) (zs_ : List (Th × Bool)) (ci_ : Hp) (co : Hp), σ = upd (upd (upd (upd (upd (upd (upd (upd (upd (upd (upd (upd (upd (upd (upd (upd (upd (upd (upd (upd (upd (upd (upd (upd (upd (upd (upd (upd (upd (upd (upd (upd (upd (upd (upd (upd (upd (upd (upd (upd (upd (upd σ0 0 (ptr p 0)) 1 (.agg #[(.int .i64 1), (.int .i64 3), (.slice (some ⟨ti, 0, none⟩) 1 1), (.slice none 0 0)])) 2 (ptr b1 0)) 3 (ptr b4 0)) 4 (.slice none 0 0)) 5 (ptr b12 0)) 6 (.func (.func 38) #[] #[(ptr b1 0), (ptr b12 0)])) 8 (ptr b35 0)) 13 vo) 15 (ptr p 0)) 16 (.bool false)) 17 (.map (some b7))) 18 (.func (.func 38) #[] #[(ptr b1 0), (ptr b12 0)])) 19 (.func (.func 38) #[] #[(ptr b1 0), (ptr b12 0)])) 20 (ptr b4 0)) 21 (ptr b4 0)) 22 (.int .i64 1)) 24 (ptr b4 2)) 25 (.slice (some ⟨ti, 0, none⟩) 1 1)) 26 (.int .i64 1)) 27 (.int .i64 1)) 28 (.bool false)) 29 (ptr ti 0)) 30 (.agg #[(.int .i64 16), (.int .i64 0), (.int .i64 0), (.int .i64 0), (.int .i64 0), (.slice none 0 0), (.int .i64 0), (.int .i64 0), (.string ⟨#[]⟩), (.slice none 0 0), (.int .i64 0), (.int .i64 0), (.int .i64 (-1)), (.bool false)])) 31 (ptr b35 0)) 32 (.int .i64 16)) 33 (.bool false)) 34 (.bool false)) 40 (.bool true)) 41 (.bool false)) 42 (.bool true)) 44 (.func (.func 38) #[] #[(ptr b1 0), (ptr b12 0)])) 45 (ptr b35 4)) 46 (.int .i64 0)) 48 (.int .i64 1)) 49 (ptr b4 3)) 50 (.slice none 0 0)) 51 (.int .i64 0)) 52 (.int .i64 0)) 53 (.bool false)) 69 (.map (some b7))) 70 (ptr r57 0) ∧ mks (σ0 0) = [] ∧ Step w R [] w_ R43 [ci_, c48, co] ∧ It b7 r57 es54 ck55 (fs0 m) xs_ ci_ ∧ OwnL tyFact 38 R43 vo (xs_.map (ff m)) co ∧ (xs_ ++ zs_).Perm (fs0 m) ∧ m_ = (fs0 m).length - xs_.length) (m := (fs0 m).length - ([] : List (Th × Bool)).length) ?_ ?_
  · skip
    exact ⟨_, [], (.slice none 0 0), (fs0 m), ci60, non, (upd_of (upd_of (upd_of (upd_of (upd_of (upd_of (upd_of (upd_of (upd_of (upd_of (upd_of (upd_of (upd_of (upd_of (upd_of (upd_of (upd_of (upd_of (upd_of (upd_of (upd_of (upd_of (upd_of (upd_of (upd_of (upd_of (upd_of (upd_of (upd_of (upd_of (upd_of (upd_of (upd_of (upd_of (upd_of (upd_of (upd_of (upd_of (upd_of (upd_of (upd_of (upd_of rfl rfl) rfl) rfl) rfl) rfl) rfl) rfl) rfl) rfl) rfl) rfl) rfl) rfl) rfl) rfl) rfl) rfl) rfl) rfl) rfl) rfl) rfl) rfl) rfl) rfl) rfl) rfl) rfl) rfl) rfl) rfl) rfl) rfl) rfl) rfl) rfl) rfl) rfl) rfl) rfl) rfl) rfl), rfl, ((((hst59.front 1 rfl rfl).front 2 rfl rfl).front 2 rfl rfl).keepN 3 rfl), hI61, (by simpa using ho51), (List.Perm.refl _), rfl⟩
  · skip
    rintro m75 σ_ w64 ⟨s69, xs_70, vo71, zs_72, ci_73, co74, rfl, hmk62, hst63, hi66, hi67, hf68, rfl⟩
    refine W_seq ?_
    refine W_region_lit ?_
    have hst88 := hst63
    rcases run_next (P := Try.prog) 0 hE56 (hst88.get (i := 1) rfl) hi66 hst88 with ⟨hq76, hr77⟩ | ⟨p78, v79, w80, ci81, hr77, hv82, hm83, hsub84, hI85, hst86, he87⟩
    · skip
      refine L_val (v := .tuple #[.bool false]) rfl rfl rfl (x_next rfl rfl hr77) ?_
      refine L_val (v := (.bool false)) (w' := w64) rfl rfl rfl (by kernel_rfl) ?_
      refine L_nil ?_
      refine W_seq ?_
      refine W_cond_false (by show Value.bool _ = _; exact congrArg Value.bool rfl) ?_
      refine W_exit ?_
      refine W_seq ?_
      refine W_region_lit ?_
      refine L_val (v := vo71) (w' := w64) rfl rfl rfl rfl ?_
      have hfl := fs0_len m
      have hpl : ((xs_70.map (ff m))).length = (fs0 m).length := by rw [List.length_map]; exact hq76.length_eq
      obtain ⟨b89, cap90, N91, e92, hc93, hrow94, hk95⟩ := OwnL.row hi67 (by have := fs0_pos hpos; omega)
      subst e92
      have hsm : ∀ x, x ∈ (xs_70.map (ff m)) → smallF x := fun x hx => fs0_small m x ((hq76.map (ff m)).mem_iff.1 hx)
      have hst96 := (hst88.front 2 rfl rfl)
      refine L_callS [co74] [ci_73, c48] hst96 rfl rfl rfl (x_call (vs := #[(.slice (some ⟨b89, 0, none⟩) ((xs_70.map (ff m)).length) cap90), .func (.func 40) #[] #[]]) rfl rfl (by kernel_rfl) ent_39) (SortFunc_spec (xs := (xs_70.map (ff m))) (hst96.sats.take 1 rfl) (by omega) hrow94 ent_40 (fun w1 x y _ hx hy => Facts2_spec x y hx hy (Le.refl _)) hsm) (fun v97 w98 R99 L100 hp101 hle102 hst103 => ?_)
      obtain ⟨rfl, c104, ys105, rfl, hp106, hrow107, hsrt108⟩ := hp101
      refine L_nil ?_
      refine W_seq ?_
      refine W_region_lit ?_
      refine L_val (v := (.slice (some ⟨b89, 0, none⟩) ((xs_70.map (ff m)).length) cap90)) (w' := w98) rfl rfl rfl rfl ?_
      refine L_val (v := (.slice (some ⟨b89, 0, none⟩) ((xs_70.map (ff m)).length) cap90)) (w' := w98) rfl rfl rfl rfl ?_
      refine L_nil ?_
      refine W_ret ?_
      refine ⟨_, _, res_run (rs := [.tmp 4]) (vs := [(.slice (some ⟨b89, 0, none⟩) ((xs_70.map (ff m)).length) cap90)]) Try.results22 (.cons (.tmp rfl) .nil) hmk62, ?_⟩
      exact ⟨_, _, [c104], rfl, (hst103).keepN 1 rfl, c104, ys105, rfl, hk95 _ _ _ hp106.length_eq hrow107, hp106.trans (hq76.map (ff m)), hsrt108.pairwise⟩
    · skip
      have hv109 : v79 = .bool p78.2 := hv82
      subst hv109
      refine L_val (v := .tuple #[.bool true, (.agg #[(.int .i64 p78.1.1), (.int .i64 p78.1.2)]), (.bool p78.2)]) rfl rfl rfl (x_next rfl rfl hr77) ?_
      refine L_val (v := (.bool true)) (w' := w80) rfl rfl rfl (by kernel_rfl) ?_
      refine L_nil ?_
      refine W_seq ?_
      refine W_cond_true (by show Value.bool _ = _; exact congrArg Value.bool rfl) ?_
      refine W_skip ?_
      refine W_block ?_
      refine W_seq ?_
      obtain ⟨zs110, hz111⟩ := hsub84
      have hpl := perm_len hz111
      have hfl := fs0_len m
      have hml : (xs_70.map (ff m)).length = xs_70.length := List.length_map _
      refine W_region_lit ?_
      refine L_val (v := .tuple #[(.agg #[(.int .i64 p78.1.1), (.int .i64 p78.1.2)]), (.bool p78.2)]) (w' := w80) rfl rfl rfl (x_entry rfl rfl (he87 _ (hst86.get (i := 1) rfl) (hst86.get (i := 0) rfl))) ?_
      refine L_val (v := (.agg #[(.int .i64 p78.1.1), (.int .i64 p78.1.2)])) (w' := w80) rfl rfl rfl (by kernel_rfl) ?_
      refine L_new hst86 (v := fun b => ptr b 0) (ob := .cells #[(.int .i64 0), (.int .i64 0)] 74 (0, 0)) rfl rfl rfl (by kernel_rfl) (fun b112 w113 hst114 => ?_)
      refine L_store hst114 0 ti_74 rfl rfl rfl rfl rfl rfl rfl rfl rfl rfl rfl (fun w115 hst116 => ?_)
      change Step _ _ _ _ _ [one b112 (.cells #[(.int .i64 p78.1.1), (.int .i64 p78.1.2)] 74 (0, 0)), ci81, c48, co74] at hst116
      refine L_nil ?_
      refine W_region_draw [] (fun w => Le R43 (hp w) ∧ Le (one b112 (.cells #[(.int .i64 p78.1.1), (.int .i64 p78.1.2)] 74 (0, 0))) (hp w) ∧ Le ci81 (hp w) ∧ Le c48 (hp w)) hmix (by decide +kernel) (fun _ _ h => h) ?_
      have hst118 := hst116.draws (w115.drawn + 1)
      generalize draws w115 (w115.drawn + 1) = w117 at hst118 ⊢
      refine LA_takeP (v := vo71) 0 rfl rfl rfl (by decide +kernel) (by decide +kernel) (by decide +kernel) (by decide +kernel) (fun _ _ _ h => h) (Want.plain rfl) (fun u120 => rfl) (fun _ => ⟨hst118.rle', hst118.get (i := 0) rfl, hst118.get (i := 1) rfl, hst118.get (i := 2) rfl⟩) ?_
      refine LA_takeP (v := (ptr b112 0)) 1 rfl rfl rfl (by decide +kernel) (by decide +kernel) (by decide +kernel) (by decide +kernel) (fun _ _ _ h => h) (Want.plain rfl) (fun u123 => (by kernel_rfl)) (fun _ => ⟨hst118.rle', hst118.get (i := 0) rfl, hst118.get (i := 1) rfl, hst118.get (i := 2) rfl⟩) ?_
      refine LA_take (v := (.int .i64 p78.1.1)) 2 rfl rfl rfl (by decide +kernel) (by decide +kernel) (by decide +kernel) (by decide +kernel) (by decide +kernel) (fun _ _ _ h => h) (Want.plain rfl) (fun u126 hF127 => (x_load rfl rfl (run_loadVar_one ti_3 (hF127.2.1 _ _ (one_self _ _)) rfl))) ⟨hst118.rle', hst118.get (i := 0) rfl, hst118.get (i := 1) rfl, hst118.get (i := 2) rfl⟩ ?_
      refine LA_takeP (v := (ptr b112 1)) 3 rfl rfl rfl (by decide +kernel) (by decide +kernel) (by decide +kernel) (by decide +kernel) (fun _ _ _ h => h) (Want.plain rfl) (fun u129 => (by kernel_rfl)) (fun _ => ⟨hst118.rle', hst118.get (i := 0) rfl, hst118.get (i := 1) rfl, hst118.get (i := 2) rfl⟩) ?_
      refine LA_take (v := (.int .i64 p78.1.2)) 4 rfl rfl rfl (by decide +kernel) (by decide +kernel) (by decide +kernel) (by decide +kernel) (by decide +kernel) (fun _ _ _ h => h) (Want.plain rfl) (fun u132 hF133 => (x_load rfl rfl (run_loadVar_one ti_3 (hF133.2.1 _ _ (one_self _ _)) rfl))) ⟨hst118.rle', hst118.get (i := 0) rfl, hst118.get (i := 1) rfl, hst118.get (i := 2) rfl⟩ ?_
      refine LA_take (v := (ptr p 0)) 5 rfl rfl rfl (by decide +kernel) (by decide +kernel) (by decide +kernel) (by decide +kernel) (by decide +kernel) (fun _ _ _ h => h) (Want.plain rfl) (fun u135 hF136 => (x_load rfl rfl (run_loadVar_one ti_25 ((Le.trans (Le.trans (Le.trans (Le.trans hc20 hle23) hle31) hle46) hF136.1) _ _ (one_self _ _)) rfl))) ⟨hst118.rle', hst118.get (i := 0) rfl, hst118.get (i := 1) rfl, hst118.get (i := 2) rfl⟩ ?_
      refine LA_takeP (v := (ptr p 0)) 6 rfl rfl rfl (by decide +kernel) (by decide +kernel) (by decide +kernel) (by decide +kernel) (fun _ _ _ h => h) (Want.plain rfl) (fun u138 => rfl) (fun _ => ⟨hst118.rle', hst118.get (i := 0) rfl, hst118.get (i := 1) rfl, hst118.get (i := 2) rfl⟩) ?_
      refine LA_takeP (v := (ptr p 0)) 7 rfl rfl rfl (by decide +kernel) (by decide +kernel) (by decide +kernel) (by decide +kernel) (fun _ _ _ h => h) (Want.plain rfl) (fun u141 => (by kernel_rfl)) (fun _ => ⟨hst118.rle', hst118.get (i := 0) rfl, hst118.get (i := 1) rfl, hst118.get (i := 2) rfl⟩) ?_
      refine LA_take (v := (.map bv)) 8 rfl rfl rfl (by decide +kernel) (by decide +kernel) (by decide +kernel) (by decide +kernel) (by decide +kernel) (fun _ _ _ h => h) (Want.plain rfl) (fun u144 hF145 => (x_load rfl rfl (run_loadVar_one ti_57 ((Le.trans (Le.trans (Le.trans (Le.trans (Le.trans h1 hle19) hle23) hle31) hle46) hF145.1) _ _ (one_self _ _)) rfl))) ⟨hst118.rle', hst118.get (i := 0) rfl, hst118.get (i := 1) rfl, hst118.get (i := 2) rfl⟩ ?_
      refine LA_take (v := (.agg #[(.int .i64 p78.1.1), (.int .i64 p78.1.2)])) 9 rfl rfl rfl (by decide +kernel) (by decide +kernel) (by decide +kernel) (by decide +kernel) (by decide +kernel) (fun _ _ _ h => h) (Want.plain rfl) (fun u147 hF148 => (x_load rfl rfl (run_loadVar_agg ti_74 (hF148.2.1 _ _ (one_self _ _)) (l := [(.int .i64 p78.1.1), (.int .i64 p78.1.2)]) rfl rfl))) ⟨hst118.rle', hst118.get (i := 0) rfl, hst118.get (i := 1) rfl, hst118.get (i := 2) rfl⟩ ?_
      refine LA_take (v := (.int .i64 ((AL.get m (p78.1.1, p78.1.2)).getD 0))) 10 rfl rfl rfl (by decide +kernel) (by decide +kernel) (by decide +kernel) (by decide +kernel) (by decide +kernel) (fun _ _ _ h => h) (Want.plain rfl) (fun u150 hF151 => x_lookup rfl rfl rfl (MapC.lookupP hm (Le.trans (Le.trans (Le.trans (Le.trans (Le.trans h2 hle19) hle23) hle31) hle46) hF151.1) law74 mt_57 ti_3 (p78.1.1, p78.1.2) false 0 rfl)) ⟨hst118.rle', hst118.get (i := 0) rfl, hst118.get (i := 1) rfl, hst118.get (i := 2) rfl⟩ ?_
      refine LA_takeP (v := (.agg #[(.int .i64 p78.1.1), (.int .i64 p78.1.2), (.int .i64 ((AL.get m (p78.1.1, p78.1.2)).getD 0))])) 11 rfl rfl rfl (by decide +kernel) (by decide +kernel) (by decide +kernel) (by decide +kernel) (fun _ _ _ h => h) (Want.plain rfl) (fun u153 => (by kernel_rfl)) (fun _ => ⟨hst118.rle', hst118.get (i := 0) rfl, hst118.get (i := 1) rfl, hst118.get (i := 2) rfl⟩) ?_
      refine LA_all [12] (by decide +kernel) (by simp) ?_
      intro i_ hi_
      simp only [List.mem_cons, List.not_mem_nil, or_false] at hi_
      subst hi_
      refine One_new hst118 (i := 12) (v := fun b => .slice (some ⟨b, 0, none⟩) 1 1) (ob := .cells #[(.int .i64 p78.1.1), (.int .i64 p78.1.2), (.int .i64 ((AL.get m (p78.1.1, p78.1.2)).getD 0))] 38 (0, 0)) rfl rfl rfl (Want.plain rfl) (by kernel_rfl) (fun b158 w159 hst160 => ?_)
      refine ⟨(fun _ => ⟨hst160.rle', hst160.get (i := 1) rfl, hst160.get (i := 2) rfl, hst160.get (i := 3) rfl⟩), ?_⟩
      refine LA_all [13] (by decide +kernel) (by simp) ?_
      intro i_ hi_
      simp only [List.mem_cons, List.not_mem_nil, or_false] at hi_
      subst hi_
      refine One_append (j := 13) hst160 (t := 29) (e := 38) (ys := [⟨p78.1.1, p78.1.2, ((AL.get m (p78.1.1, p78.1.2)).getD 0)⟩]) (src := [(.int .i64 p78.1.1), (.int .i64 p78.1.2), (.int .i64 ((AL.get m (p78.1.1, p78.1.2)).getD 0))]) 4 rfl rfl rfl (Want.plain rfl) rfl rfl rfl sl_29 ti_38 rfl rfl rfl hi67 (src_own (hst160.blk (i := 0) rfl)) (Encs.cons (tyFact_mk _ _ _ _) (Encs.nil)) rfl (by first | omega | (simp only [List.length_append, List.length_cons, List.length_nil]; omega)) (by first | (simp only [maxLen]; omega) | (simp only [List.length_append, List.length_cons, List.length_nil, maxLen]; omega)) (fun v164 c165 w166 ho167 hst168 => ?_)
      refine ⟨(fun _ => ⟨hst168.rle', hst168.get (i := 2) rfl, hst168.get (i := 3) rfl, hst168.get (i := 4) rfl⟩), ?_⟩
      refine LA_takeP (v := v164) 14 rfl rfl rfl (by decide +kernel) (by decide +kernel) (by decide +kernel) (by decide +kernel) (fun _ _ _ h => h) (Want.plain rfl) (fun u170 => rfl) (fun _ => ⟨hst168.rle', hst168.get (i := 2) rfl, hst168.get (i := 3) rfl, hst168.get (i := 4) rfl⟩) ?_
      refine LA_done (by decide +kernel) ?_
      refine ⟨(fs0 m).length - (xs_70 ++ [p78]).length, by first | omega | (simp only [List.length_append, List.length_cons, List.length_nil]; omega), ?_⟩
      exact ⟨_, (xs_70 ++ [p78]), v164, zs110, ci81, c165, (upd_of (upd_of (upd_of (upd_of (upd_of (upd_of (upd_of (upd_of (upd_of (upd_of (upd_of (upd_of (upd_of (upd_of (upd_of (upd_of (upd_of (upd_of (upd_of (upd_of (upd_of (upd_of (upd_of (upd_of (upd_of (upd_of (upd_of (upd_of (upd_of (upd_of (upd_of (upd_of (upd_of (upd_of (upd_of (upd_of (upd_of (upd_of (upd_of (upd_of (upd_of (upd_of rfl rfl) rfl) rfl) rfl) rfl) rfl) rfl) rfl) rfl) rfl) rfl) rfl) rfl) rfl) rfl) rfl) rfl) rfl) rfl) rfl) rfl) rfl) rfl) rfl) rfl) rfl) rfl) rfl) rfl) rfl) rfl) rfl) rfl) rfl) rfl) rfl) rfl) rfl) rfl) rfl) rfl) rfl), hmk62, (((hst168.front 4 rfl rfl).front 4 rfl rfl).keepN 3 rfl), hI85, (by rw [List.map_append]; exact ho167), (by simpa using hz111), rfl⟩

end Go.Fx.Ytlfabjfajcbdcaa
