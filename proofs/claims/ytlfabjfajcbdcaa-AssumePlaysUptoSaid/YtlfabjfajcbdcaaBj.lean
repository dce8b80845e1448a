/-
  Chapter 27: do, same and AssumePlays, printed by genbu.py.
-/
import Derived.Test.YtlfabjfajcbdcaaBi
set_option linter.unusedSimpArgs false
set_option linter.unusedVariables false
namespace Go.Fx.Ytlfabjfajcbdcaa
open Go Go.Fx Go.Proofs
set_option maxRecDepth 20000

theorem ent_17 : Ent Try.prog 17 := fun _ _ => by kernel_rfl
theorem ent_18 : Ent Try.prog 18 := fun _ _ => by kernel_rfl
theorem ent_19 : Ent Try.prog 19 := fun _ _ => by kernel_rfl
theorem ent_21 : Ent Try.prog 21 := fun _ _ => by kernel_rfl
theorem ent_32 : Ent Try.prog 32 := fun _ _ => by kernel_rfl
theorem ent_33 : Ent Try.prog 33 := fun _ _ => by kernel_rfl
theorem ent_34 : Ent Try.prog 34 := fun _ _ => by kernel_rfl
theorem ent_36 : Ent Try.prog 36 := fun _ _ => by kernel_rfl
theorem ent_37 : Ent Try.prog 37 := fun _ _ => by kernel_rfl
theorem ent_9 : Ent Try.prog 9 := fun _ _ => by kernel_rfl
theorem sl_41 : SL Try.prog 41 46 := Try.underlying41
theorem ti_46 : TI Try.prog 46 true 3 40 (.agg #[(.int .i64 0), (.int .i64 0), (.slice none 0 0)]) := ⟨by kernel_rfl, by kernel_rfl⟩

set_option maxHeartbeats 2000000 in
theorem do_spec {w : World} {R c1 c2 : Hp} {p q : Nat} {s : RS} {v : Value} (a : Act) (hv : RdS tyFact R v a.facts) (hmax : a.facts.length ≤ 1099511627776) (hs : Sats w R [c1, c2]) (hreg : Reg R p s c1) (href : RegR R q s c2) (hlen : s.mods.length ≤ 1000000) (hcnt : s.cnt ≤ 1000000) :
    Calls Try.prog 18 #[ptr p 0, ptr q 0, .agg #[int a.what, int a.module, v]] w (Comes' w R [c1, c2] fun v' R' L' => ∃ s' c1' c2', v' = .bool true ∧ L' = [c1', c2'] ∧ Reg R' p s' c1' ∧ RegR R' q s' c2' ∧ s'.mods.length ≤ s.mods.length + 1 ∧ s'.cnt ≤ s.cnt + 1) := by
 have hst := Step.refl hs
 refine calls_of_W (n := 62) Try.func18 rfl Try.ntmps18 (Nat.le_of_ble_eq_true rfl) ?_
 refine W_seq ?_
 refine W_region_lit ?_
 refine L_new hst (v := fun b => ptr b 0) (ob := .cells #[(int a.what), (int a.module), v] 46 (0, 0)) rfl rfl rfl (by kernel_rfl) (fun b1 w2 hst3 => ?_)
 refine Lq (.bool false) rfl rfl rfl rfl ?_
 refine L_nil ?_
 refine W_seq ?_
 refine W_seq ?_
 have ht6 := tmod6 a.what
 refine W_region_lit ?_
 refine Lq (ptr b1 0) rfl rfl rfl (by kernel_rfl) ?_
 refine Lq (int a.what) rfl rfl rfl (x_load rfl rfl (run_loadVar_one ti_3 (hst3.b 0) rfl)) ?_
 refine Lq (int (Int.tmod a.what 6)) rfl rfl rfl (x_rem rfl rfl rfl (by omega)) ?_
 refine Lq (int (Int.tmod a.what 6 + 6)) rfl rfl rfl (x_add rfl rfl rfl (by constructor <;> omega)) ?_
 refine Lq (int (Int.tmod (Int.tmod a.what 6 + 6) 6)) rfl rfl rfl (x_rem rfl rfl rfl (by omega)) ?_
 refine L_nil ?_
 refine W_block ?_
 refine W_seq ?_
 refine W_region_lit ?_
 refine Lq (.bool ((Int.tmod (Int.tmod a.what 6 + 6) 6) == 3)) rfl rfl rfl (by kernel_rfl) ?_
 refine Lq (.bool ((Int.tmod (Int.tmod a.what 6 + 6) 6) == 3)) rfl rfl rfl rfl ?_
 refine L_nil ?_
 rcases Bool.eq_false_or_eq_true ((Int.tmod (Int.tmod a.what 6 + 6) 6) == 3) with c4 | c4
 ·
  have q5 := eq_of_beq c4
  refine W_cond_true (by show Value.bool _ = _; exact congrArg Value.bool c4) ?_
  refine W_seq ?_
  refine W_region_draw [] (fun w => Le R (hp w) ∧ Le (one b1 (.cells #[(int a.what), (int a.module), v] 46 (0, 0))) (hp w)) hmix (by decide +kernel) (fun _ _ h => h) ?_
  have hst7 := hst3.draws (w2.drawn + 1)
  generalize draws w2 (w2.drawn + 1) = w6 at hst7 ⊢
  refine LP (ptr p 0) 0 rfl rfl rfl (fun u9 => rfl) ⟨hst7.rle', hst7.g 0⟩ ?_
  refine LP (ptr b1 1) 1 rfl rfl rfl (fun u12 => (by kernel_rfl)) ⟨hst7.rle', hst7.g 0⟩ ?_
  refine LT (int a.module) 2 rfl rfl rfl (fun u15 hF16 => (x_load rfl rfl (run_loadVar_one ti_3 (hF16.2 _ _ (one_self _ _)) rfl))) ⟨hst7.rle', hst7.g 0⟩ ?_
  refine LP (ptr q 0) 4 rfl rfl rfl (fun u20 => rfl) ⟨hst7.rle', hst7.g 0⟩ ?_
  refine LP (ptr b1 1) 5 rfl rfl rfl (fun u25 => (by kernel_rfl)) ⟨hst7.rle', hst7.g 0⟩ ?_
  refine LT (int a.module) 6 rfl rfl rfl (fun u30 hF31 => (x_load rfl rfl (run_loadVar_one ti_3 (hF31.2 _ _ (one_self _ _)) rfl))) ⟨hst7.rle', hst7.g 0⟩ ?_
  refine LA_all [3] (by decide +kernel) (by simp) ?_
  intro i_ hi_
  simp only [List.mem_cons, List.not_mem_nil, or_false] at hi_
  subst hi_
  have hst35 := (hst7.front 1 rfl rfl)
  refine One_callS (i := 3) [c1] [one b1 (.cells #[(int a.what), (int a.module), v] 46 (0, 0)), c2] hst35 rfl rfl rfl (Want.plain rfl) (x_call (vs := #[(ptr p 0), (int a.module)]) rfl rfl (by kernel_rfl) ent_21) (Remove_spec a.module (hst35.sats.take 1 rfl) hreg) (fun v36 w37 R38 L39 hp40 hle41 hst42 => ?_)
  have hm43 := RegR.lift href hle41
  obtain ⟨c44, rfl, rfl, hreg45⟩ := hp40
  have hreg46 : Reg R38 p (RS.remove s a.module) c44 := hreg45
  refine ⟨(fun _ => ⟨(Le.trans hle41 hst42.rle'), hst42.g 1⟩), ?_⟩
  refine LA_all [7] (by decide +kernel) (by simp) ?_
  intro i_ hi_
  simp only [List.mem_cons, List.not_mem_nil, or_false] at hi_
  subst hi_
  have hst50 := (hst42.front 2 rfl rfl)
  refine One_callS (i := 7) [c2] [c44, one b1 (.cells #[(int a.what), (int a.module), v] 46 (0, 0))] hst50 rfl rfl rfl (Want.plain rfl) (x_call (vs := #[(ptr q 0), (int a.module)]) rfl rfl (by kernel_rfl) ent_32) (RemoveR_spec a.module (hst50.sats.take 1 rfl) hm43 (by omega)) (fun v51 w52 R53 L54 hp55 hle56 hst57 => ?_)
  have hm58 := Reg.lift hreg46 hle56
  obtain ⟨c59, rfl, rfl, hreg60⟩ := hp55
  have href61 : RegR R53 q (RS.remove s a.module) c59 := hreg60
  refine ⟨(fun _ => ⟨(Le.trans hle41 (Le.trans hle56 hst57.rle')), hst57.g 2⟩), ?_⟩
  refine LP (.bool (((AL.get s.mods a.module).isSome) == ((AL.get s.mods a.module).isSome))) 8 rfl rfl rfl (fun u63 => (by kernel_rfl)) ⟨(Le.trans hle41 (Le.trans hle56 hst57.rle')), hst57.g 2⟩ ?_
  refine LP (.bool (((AL.get s.mods a.module).isSome) == ((AL.get s.mods a.module).isSome))) 9 rfl rfl rfl (fun u66 => rfl) ⟨(Le.trans hle41 (Le.trans hle56 hst57.rle')), hst57.g 2⟩ ?_
  refine LA_done (by decide +kernel) ?_
  refine W_ret ?_
  refine ⟨_, _, res_run (rs := [.tmp 6]) (vs := [(.bool (((AL.get s.mods a.module).isSome) == ((AL.get s.mods a.module).isSome)))]) Try.results18 (.cons (.tmp rfl) .nil) rfl, ?_⟩
  exact ⟨_, _, _, rfl, (hst57.front 1 rfl rfl).keepN 2 rfl, (RS.remove s a.module), c44, c59, (by show Value.bool _ = _; simp), rfl, hm58, href61, (Nat.le_succ_of_le (remove_len _ _)), (Nat.le_succ _)⟩
 ·
  have q68 := ne_of_beq_false c4
  refine W_cond_false (by show Value.bool _ = _; exact congrArg Value.bool c4) ?_
  refine W_seq ?_
  refine W_seq ?_
  refine W_region_lit ?_
  refine Lq (.bool ((Int.tmod (Int.tmod a.what 6 + 6) 6) == 4)) rfl rfl rfl (by kernel_rfl) ?_
  refine Lq (.bool ((Int.tmod (Int.tmod a.what 6 + 6) 6) == 4)) rfl rfl rfl rfl ?_
  refine L_nil ?_
  rcases Bool.eq_false_or_eq_true ((Int.tmod (Int.tmod a.what 6 + 6) 6) == 4) with c69 | c69
  ·
   have q70 := eq_of_beq c69
   refine W_cond_true (by show Value.bool _ = _; exact congrArg Value.bool c69) ?_
   refine W_skip ?_
   refine W_cond_true (by show Value.bool _ = _; exact congrArg Value.bool c69) ?_
   refine W_seq ?_
   refine W_region_lit ?_
   refine Lq (.agg #[(int 0), (int 0), (int 0)]) rfl rfl rfl (by kernel_rfl) ?_
   refine L_new hst3 (v := fun b => ptr b 0) (ob := .cells #[(int 0), (int 0), (int 0)] 38 (0, 0)) rfl rfl rfl (by kernel_rfl) (fun b71 w72 hst73 => ?_)
   refine L_store hst73 0 ti_38 rfl rfl rfl rfl rfl rfl rfl rfl rfl rfl rfl (fun w74 hst75 => ?_)
   change Step _ _ _ _ _ [one b71 (.cells #[(int 0), (int 0), (int 0)] 38 (0, 0)), one b1 (.cells #[(int a.what), (int a.module), v] 46 (0, 0)), c1, c2] at hst75
   refine L_nil ?_
   refine W_seq ?_
   refine W_seq ?_
   refine W_region_lit ?_
   refine Lq (ptr b1 2) rfl rfl rfl (by kernel_rfl) ?_
   refine Lq v rfl rfl rfl (x_load rfl rfl (run_loadVar_one ti_29 (hst75.b 1) rfl)) ?_
   obtain ⟨a76, cap77, e78, hc79⟩ := hv.shape
   subst e78
   refine Lq (int (a.facts.length : Int)) rfl rfl rfl (x_len_slice rfl sl_29 rfl) ?_
   refine Lq (.bool (decide ((a.facts.length : Int) > 0))) rfl rfl rfl (by kernel_rfl) ?_
   refine L_nil ?_
   rcases Bool.eq_false_or_eq_true (decide ((a.facts.length : Int) > 0)) with c80 | c80
   ·
    have q81 := of_decide_eq_true c80
    refine W_cond_true (by show Value.bool _ = _; exact congrArg Value.bool c80) ?_
    refine W_region_lit ?_
    refine Lq (ptr b1 2) rfl rfl rfl (by kernel_rfl) ?_
    refine Lq (.slice a76 a.facts.length cap77) rfl rfl rfl (x_load rfl rfl (run_loadVar_one ti_29 (hst75.b 1) rfl)) ?_
    obtain ⟨b82, off83, cap84, cs85, T86, fz87, e88, hc89, hb90, he91⟩ := hv.open (by omega)
    cases e88
    obtain ⟨cl92, hs93, hr94⟩ := he91.at 0 (by omega)
    obtain rfl := tyFact_open hr94
    refine Lq (ptr b82 (off83 + 0 * 3)) rfl rfl rfl (x_indexAddr' rfl sl_29 ti_38 rfl rfl (by omega)) ?_
    refine Lq (.agg #[(int ((a.facts[0]'(by omega)).kind)), (int ((a.facts[0]'(by omega)).n)), (int ((a.facts[0]'(by omega)).version))]) rfl rfl rfl (x_load rfl rfl (run_loadVar_agg ti_38 (hst75.rle' _ _ hb90) hs93 rfl)) ?_
    refine L_store hst75 0 ti_38 rfl rfl rfl rfl rfl rfl rfl rfl rfl rfl rfl (fun w95 hst96 => ?_)
    change Step _ _ _ _ _ [one b71 (.cells #[(int ((a.facts[0]'(by omega)).kind)), (int ((a.facts[0]'(by omega)).n)), (int ((a.facts[0]'(by omega)).version))] 38 (0, 0)), one b1 (.cells #[(int a.what), (int a.module), (.slice (some ⟨b82, off83, none⟩) a.facts.length cap77)] 46 (0, 0)), c1, c2] at hst96
    refine L_nil ?_
    refine W_seq ?_
    refine W_region_draw [] (fun w => Le R (hp w) ∧ Le (one b71 (.cells #[(int ((a.facts[0]'(by omega)).kind)), (int ((a.facts[0]'(by omega)).n)), (int ((a.facts[0]'(by omega)).version))] 38 (0, 0))) (hp w) ∧ Le (one b1 (.cells #[(int a.what), (int a.module), (.slice (some ⟨b82, off83, none⟩) a.facts.length cap77)] 46 (0, 0))) (hp w)) hmix (by decide +kernel) (fun _ _ h => h) ?_
    have hst98 := hst96.draws (w95.drawn + 1)
    generalize draws w95 (w95.drawn + 1) = w97 at hst98 ⊢
    refine LP (ptr p 0) 0 rfl rfl rfl (fun u100 => rfl) ⟨hst98.rle', hst98.g 0, hst98.g 1⟩ ?_
    refine LP (ptr b71 0) 1 rfl rfl rfl (fun u103 => (by kernel_rfl)) ⟨hst98.rle', hst98.g 0, hst98.g 1⟩ ?_
    refine LT (int ((a.facts[0]'(by omega)).kind)) 2 rfl rfl rfl (fun u106 hF107 => (x_load rfl rfl (run_loadVar_one ti_3 (hF107.2.1 _ _ (one_self _ _)) rfl))) ⟨hst98.rle', hst98.g 0, hst98.g 1⟩ ?_
    refine LP (ptr b71 1) 3 rfl rfl rfl (fun u109 => (by kernel_rfl)) ⟨hst98.rle', hst98.g 0, hst98.g 1⟩ ?_
    refine LT (int ((a.facts[0]'(by omega)).n)) 4 rfl rfl rfl (fun u112 hF113 => (x_load rfl rfl (run_loadVar_one ti_3 (hF113.2.1 _ _ (one_self _ _)) rfl))) ⟨hst98.rle', hst98.g 0, hst98.g 1⟩ ?_
    refine LP (ptr q 0) 6 rfl rfl rfl (fun u117 => rfl) ⟨hst98.rle', hst98.g 0, hst98.g 1⟩ ?_
    refine LP (ptr b71 0) 7 rfl rfl rfl (fun u122 => (by kernel_rfl)) ⟨hst98.rle', hst98.g 0, hst98.g 1⟩ ?_
    refine LT (int ((a.facts[0]'(by omega)).kind)) 8 rfl rfl rfl (fun u127 hF128 => (x_load rfl rfl (run_loadVar_one ti_3 (hF128.2.1 _ _ (one_self _ _)) rfl))) ⟨hst98.rle', hst98.g 0, hst98.g 1⟩ ?_
    refine LP (ptr b71 1) 9 rfl rfl rfl (fun u132 => (by kernel_rfl)) ⟨hst98.rle', hst98.g 0, hst98.g 1⟩ ?_
    refine LT (int ((a.facts[0]'(by omega)).n)) 10 rfl rfl rfl (fun u137 hF138 => (x_load rfl rfl (run_loadVar_one ti_3 (hF138.2.1 _ _ (one_self _ _)) rfl))) ⟨hst98.rle', hst98.g 0, hst98.g 1⟩ ?_
    refine LA_all [5] (by decide +kernel) (by simp) ?_
    intro i_ hi_
    simp only [List.mem_cons, List.not_mem_nil, or_false] at hi_
    subst hi_
    have hst142 := (hst98.front 2 rfl rfl)
    refine One_callS (i := 5) [c1] [one b71 (.cells #[(int ((a.facts[0]'(by omega)).kind)), (int ((a.facts[0]'(by omega)).n)), (int ((a.facts[0]'(by omega)).version))] 38 (0, 0)), one b1 (.cells #[(int a.what), (int a.module), (.slice (some ⟨b82, off83, none⟩) a.facts.length cap77)] 46 (0, 0)), c2] hst142 rfl rfl rfl (Want.plain rfl) (x_call (vs := #[(ptr p 0), (int ((a.facts[0]'(by omega)).kind)), (int ((a.facts[0]'(by omega)).n))]) rfl rfl (by kernel_rfl) ent_14) (Bump_spec ((a.facts[0]'(by omega)).kind) ((a.facts[0]'(by omega)).n) (hst142.sats.take 1 rfl) hreg (by omega) (by omega)) (fun v143 w144 R145 L146 hp147 hle148 hst149 => ?_)
    have hm150 := RegR.lift href hle148
    obtain ⟨c151, co152, rfl, hreg153, ho154⟩ := hp147
    have hreg155 : Reg R145 p (RS.bump s ((a.facts[0]'(by omega)).kind) ((a.facts[0]'(by omega)).n)) c151 := hreg153
    refine ⟨(fun _ => ⟨(Le.trans hle148 hst149.rle'), hst149.g 2, hst149.g 3⟩), ?_⟩
    refine LA_all [11] (by decide +kernel) (by simp) ?_
    intro i_ hi_
    simp only [List.mem_cons, List.not_mem_nil, or_false] at hi_
    subst hi_
    have hst159 := (hst149.front 4 rfl rfl)
    refine One_callS (i := 11) [c2] [c151, co152, one b71 (.cells #[(int ((a.facts[0]'(by omega)).kind)), (int ((a.facts[0]'(by omega)).n)), (int ((a.facts[0]'(by omega)).version))] 38 (0, 0)), one b1 (.cells #[(int a.what), (int a.module), (.slice (some ⟨b82, off83, none⟩) a.facts.length cap77)] 46 (0, 0))] hst159 rfl rfl rfl (Want.plain rfl) (x_call (vs := #[(ptr q 0), (int ((a.facts[0]'(by omega)).kind)), (int ((a.facts[0]'(by omega)).n))]) rfl rfl (by kernel_rfl) ent_33) (BumpR_spec ((a.facts[0]'(by omega)).kind) ((a.facts[0]'(by omega)).n) (hst159.sats.take 1 rfl) hm150 (by omega) (by omega)) (fun v160 w161 R162 L163 hp164 hle165 hst166 => ?_)
    have hm167 := Reg.lift hreg155 hle165
    have hm168 := OwnL.mono ho154 hle165
    obtain ⟨c169, co170, rfl, hreg171, ho172⟩ := hp164
    have href173 : RegR R162 q (RS.bump s ((a.facts[0]'(by omega)).kind) ((a.facts[0]'(by omega)).n)) c169 := hreg171
    refine ⟨(fun _ => ⟨(Le.trans hle148 (Le.trans hle165 hst166.rle')), hst166.g 4, hst166.g 5⟩), ?_⟩
    refine LA_all [12] (by decide +kernel) (by simp) ?_
    intro i_ hi_
    simp only [List.mem_cons, List.not_mem_nil, or_false] at hi_
    subst hi_
    refine One_call (i := 12) rfl rfl rfl (Want.plain rfl) (x_call (vs := #[v143, v160]) rfl rfl (by kernel_rfl) ent_12) (EqualI_spec (w := w161) (R := hp w161) (v1 := v143) (v2 := v160) (xs := (RS.bumpL s ((a.facts[0]'(by omega)).kind) ((a.facts[0]'(by omega)).n))) (ys := (RS.bumpL s ((a.facts[0]'(by omega)).kind) ((a.facts[0]'(by omega)).n))) (Le.refl _) (OwnL.freeze hm168 hst166.rle' (hst166.g 3)) (OwnL.freeze ho172 hst166.rle' (hst166.g 1)) (bumpL_len _ _ _ (by omega))) ?_
    rintro e179 w177 ⟨rfl, hw180⟩
    have hst178 := hst166.grown hw180
    refine ⟨_, rfl, (fun _ => ⟨(Le.trans hle148 (Le.trans hle165 hst178.rle')), hst178.g 4, hst178.g 5⟩), ?_⟩
    refine LP (.bool (decide (((RS.bumpL s ((a.facts[0]'(by omega)).kind) ((a.facts[0]'(by omega)).n)) : List Int) = (RS.bumpL s ((a.facts[0]'(by omega)).kind) ((a.facts[0]'(by omega)).n))))) 13 rfl rfl rfl (fun u182 => rfl) ⟨(Le.trans hle148 (Le.trans hle165 hst178.rle')), hst178.g 4, hst178.g 5⟩ ?_
    refine LA_done (by decide +kernel) ?_
    refine W_ret ?_
    refine ⟨_, _, res_run (rs := [.tmp 6]) (vs := [(.bool (decide (((RS.bumpL s ((a.facts[0]'(by omega)).kind) ((a.facts[0]'(by omega)).n)) : List Int) = (RS.bumpL s ((a.facts[0]'(by omega)).kind) ((a.facts[0]'(by omega)).n)))))]) Try.results18 (.cons (.tmp rfl) .nil) rfl, ?_⟩
    exact ⟨_, _, _, rfl, (hst178.front 2 rfl rfl).keepN 2 rfl, (RS.bump s ((a.facts[0]'(by omega)).kind) ((a.facts[0]'(by omega)).n)), c151, c169, (by show Value.bool _ = _; simp), rfl, hm167, href173, (by rw [RS.bump_mods]; omega), (RS.bump_cnt _ _ _)⟩
   ·
    have q184 := of_decide_eq_false c80
    refine W_cond_false (by show Value.bool _ = _; exact congrArg Value.bool c80) ?_
    refine W_skip ?_
    refine W_seq ?_
    refine W_region_draw [] (fun w => Le R (hp w) ∧ Le (one b71 (.cells #[(int 0), (int 0), (int 0)] 38 (0, 0))) (hp w) ∧ Le (one b1 (.cells #[(int a.what), (int a.module), (.slice a76 a.facts.length cap77)] 46 (0, 0))) (hp w)) hmix (by decide +kernel) (fun _ _ h => h) ?_
    have hst186 := hst75.draws (w74.drawn + 1)
    generalize draws w74 (w74.drawn + 1) = w185 at hst186 ⊢
    refine LP (ptr p 0) 0 rfl rfl rfl (fun u188 => rfl) ⟨hst186.rle', hst186.g 0, hst186.g 1⟩ ?_
    refine LP (ptr b71 0) 1 rfl rfl rfl (fun u191 => (by kernel_rfl)) ⟨hst186.rle', hst186.g 0, hst186.g 1⟩ ?_
    refine LT (int 0) 2 rfl rfl rfl (fun u194 hF195 => (x_load rfl rfl (run_loadVar_one ti_3 (hF195.2.1 _ _ (one_self _ _)) rfl))) ⟨hst186.rle', hst186.g 0, hst186.g 1⟩ ?_
    refine LP (ptr b71 1) 3 rfl rfl rfl (fun u197 => (by kernel_rfl)) ⟨hst186.rle', hst186.g 0, hst186.g 1⟩ ?_
    refine LT (int 0) 4 rfl rfl rfl (fun u200 hF201 => (x_load rfl rfl (run_loadVar_one ti_3 (hF201.2.1 _ _ (one_self _ _)) rfl))) ⟨hst186.rle', hst186.g 0, hst186.g 1⟩ ?_
    refine LP (ptr q 0) 6 rfl rfl rfl (fun u205 => rfl) ⟨hst186.rle', hst186.g 0, hst186.g 1⟩ ?_
    refine LP (ptr b71 0) 7 rfl rfl rfl (fun u210 => (by kernel_rfl)) ⟨hst186.rle', hst186.g 0, hst186.g 1⟩ ?_
    refine LT (int 0) 8 rfl rfl rfl (fun u215 hF216 => (x_load rfl rfl (run_loadVar_one ti_3 (hF216.2.1 _ _ (one_self _ _)) rfl))) ⟨hst186.rle', hst186.g 0, hst186.g 1⟩ ?_
    refine LP (ptr b71 1) 9 rfl rfl rfl (fun u220 => (by kernel_rfl)) ⟨hst186.rle', hst186.g 0, hst186.g 1⟩ ?_
    refine LT (int 0) 10 rfl rfl rfl (fun u225 hF226 => (x_load rfl rfl (run_loadVar_one ti_3 (hF226.2.1 _ _ (one_self _ _)) rfl))) ⟨hst186.rle', hst186.g 0, hst186.g 1⟩ ?_
    refine LA_all [5] (by decide +kernel) (by simp) ?_
    intro i_ hi_
    simp only [List.mem_cons, List.not_mem_nil, or_false] at hi_
    subst hi_
    have hst230 := (hst186.front 2 rfl rfl)
    refine One_callS (i := 5) [c1] [one b71 (.cells #[(int 0), (int 0), (int 0)] 38 (0, 0)), one b1 (.cells #[(int a.what), (int a.module), (.slice a76 a.facts.length cap77)] 46 (0, 0)), c2] hst230 rfl rfl rfl (Want.plain rfl) (x_call (vs := #[(ptr p 0), (int 0), (int 0)]) rfl rfl (by kernel_rfl) ent_14) (Bump_spec 0 0 (hst230.sats.take 1 rfl) hreg (by omega) (by omega)) (fun v231 w232 R233 L234 hp235 hle236 hst237 => ?_)
    have hm238 := RegR.lift href hle236
    obtain ⟨c239, co240, rfl, hreg241, ho242⟩ := hp235
    have hreg243 : Reg R233 p (RS.bump s 0 0) c239 := hreg241
    refine ⟨(fun _ => ⟨(Le.trans hle236 hst237.rle'), hst237.g 2, hst237.g 3⟩), ?_⟩
    refine LA_all [11] (by decide +kernel) (by simp) ?_
    intro i_ hi_
    simp only [List.mem_cons, List.not_mem_nil, or_false] at hi_
    subst hi_
    have hst247 := (hst237.front 4 rfl rfl)
    refine One_callS (i := 11) [c2] [c239, co240, one b71 (.cells #[(int 0), (int 0), (int 0)] 38 (0, 0)), one b1 (.cells #[(int a.what), (int a.module), (.slice a76 a.facts.length cap77)] 46 (0, 0))] hst247 rfl rfl rfl (Want.plain rfl) (x_call (vs := #[(ptr q 0), (int 0), (int 0)]) rfl rfl (by kernel_rfl) ent_33) (BumpR_spec 0 0 (hst247.sats.take 1 rfl) hm238 (by omega) (by omega)) (fun v248 w249 R250 L251 hp252 hle253 hst254 => ?_)
    have hm255 := Reg.lift hreg243 hle253
    have hm256 := OwnL.mono ho242 hle253
    obtain ⟨c257, co258, rfl, hreg259, ho260⟩ := hp252
    have href261 : RegR R250 q (RS.bump s 0 0) c257 := hreg259
    refine ⟨(fun _ => ⟨(Le.trans hle236 (Le.trans hle253 hst254.rle')), hst254.g 4, hst254.g 5⟩), ?_⟩
    refine LA_all [12] (by decide +kernel) (by simp) ?_
    intro i_ hi_
    simp only [List.mem_cons, List.not_mem_nil, or_false] at hi_
    subst hi_
    refine One_call (i := 12) rfl rfl rfl (Want.plain rfl) (x_call (vs := #[v231, v248]) rfl rfl (by kernel_rfl) ent_12) (EqualI_spec (w := w249) (R := hp w249) (v1 := v231) (v2 := v248) (xs := (RS.bumpL s 0 0)) (ys := (RS.bumpL s 0 0)) (Le.refl _) (OwnL.freeze hm256 hst254.rle' (hst254.g 3)) (OwnL.freeze ho260 hst254.rle' (hst254.g 1)) (bumpL_len _ _ _ (by omega))) ?_
    rintro e267 w265 ⟨rfl, hw268⟩
    have hst266 := hst254.grown hw268
    refine ⟨_, rfl, (fun _ => ⟨(Le.trans hle236 (Le.trans hle253 hst266.rle')), hst266.g 4, hst266.g 5⟩), ?_⟩
    refine LP (.bool (decide (((RS.bumpL s 0 0) : List Int) = (RS.bumpL s 0 0)))) 13 rfl rfl rfl (fun u270 => rfl) ⟨(Le.trans hle236 (Le.trans hle253 hst266.rle')), hst266.g 4, hst266.g 5⟩ ?_
    refine LA_done (by decide +kernel) ?_
    refine W_ret ?_
    refine ⟨_, _, res_run (rs := [.tmp 6]) (vs := [(.bool (decide (((RS.bumpL s 0 0) : List Int) = (RS.bumpL s 0 0))))]) Try.results18 (.cons (.tmp rfl) .nil) rfl, ?_⟩
    exact ⟨_, _, _, rfl, (hst266.front 2 rfl rfl).keepN 2 rfl, (RS.bump s 0 0), c239, c257, (by show Value.bool _ = _; simp), rfl, hm255, href261, (by rw [RS.bump_mods]; omega), (RS.bump_cnt _ _ _)⟩
  ·
   have q272 := ne_of_beq_false c69
   refine W_cond_false (by show Value.bool _ = _; exact congrArg Value.bool c69) ?_
   refine W_region_lit ?_
   refine Lq (.bool ((Int.tmod (Int.tmod a.what 6 + 6) 6) == 5)) rfl rfl rfl (by kernel_rfl) ?_
   refine Lq (.bool ((Int.tmod (Int.tmod a.what 6 + 6) 6) == 5)) rfl rfl rfl rfl ?_
   refine L_nil ?_
   rcases Bool.eq_false_or_eq_true ((Int.tmod (Int.tmod a.what 6 + 6) 6) == 5) with c273 | c273
   ·
    have q274 := eq_of_beq c273
    refine W_cond_true (by show Value.bool _ = _; exact congrArg Value.bool c273) ?_
    refine W_seq ?_
    refine W_region_lit ?_
    refine Lq (.agg #[(int 0), (int 0), (int 0)]) rfl rfl rfl (by kernel_rfl) ?_
    refine L_new hst3 (v := fun b => ptr b 0) (ob := .cells #[(int 0), (int 0), (int 0)] 38 (0, 0)) rfl rfl rfl (by kernel_rfl) (fun b275 w276 hst277 => ?_)
    refine L_store hst277 0 ti_38 rfl rfl rfl rfl rfl rfl rfl rfl rfl rfl rfl (fun w278 hst279 => ?_)
    change Step _ _ _ _ _ [one b275 (.cells #[(int 0), (int 0), (int 0)] 38 (0, 0)), one b1 (.cells #[(int a.what), (int a.module), v] 46 (0, 0)), c1, c2] at hst279
    refine L_nil ?_
    refine W_seq ?_
    refine W_seq ?_
    refine W_region_lit ?_
    refine Lq (ptr b1 2) rfl rfl rfl (by kernel_rfl) ?_
    refine Lq v rfl rfl rfl (x_load rfl rfl (run_loadVar_one ti_29 (hst279.b 1) rfl)) ?_
    obtain ⟨a280, cap281, e282, hc283⟩ := hv.shape
    subst e282
    refine Lq (int (a.facts.length : Int)) rfl rfl rfl (x_len_slice rfl sl_29 rfl) ?_
    refine Lq (.bool (decide ((a.facts.length : Int) > 0))) rfl rfl rfl (by kernel_rfl) ?_
    refine L_nil ?_
    rcases Bool.eq_false_or_eq_true (decide ((a.facts.length : Int) > 0)) with c284 | c284
    ·
     have q285 := of_decide_eq_true c284
     refine W_cond_true (by show Value.bool _ = _; exact congrArg Value.bool c284) ?_
     refine W_region_lit ?_
     refine Lq (ptr b1 2) rfl rfl rfl (by kernel_rfl) ?_
     refine Lq (.slice a280 a.facts.length cap281) rfl rfl rfl (x_load rfl rfl (run_loadVar_one ti_29 (hst279.b 1) rfl)) ?_
     obtain ⟨b286, off287, cap288, cs289, T290, fz291, e292, hc293, hb294, he295⟩ := hv.open (by omega)
     cases e292
     obtain ⟨cl296, hs297, hr298⟩ := he295.at 0 (by omega)
     obtain rfl := tyFact_open hr298
     refine Lq (ptr b286 (off287 + 0 * 3)) rfl rfl rfl (x_indexAddr' rfl sl_29 ti_38 rfl rfl (by omega)) ?_
     refine Lq (.agg #[(int ((a.facts[0]'(by omega)).kind)), (int ((a.facts[0]'(by omega)).n)), (int ((a.facts[0]'(by omega)).version))]) rfl rfl rfl (x_load rfl rfl (run_loadVar_agg ti_38 (hst279.rle' _ _ hb294) hs297 rfl)) ?_
     refine L_store hst279 0 ti_38 rfl rfl rfl rfl rfl rfl rfl rfl rfl rfl rfl (fun w299 hst300 => ?_)
     change Step _ _ _ _ _ [one b275 (.cells #[(int ((a.facts[0]'(by omega)).kind)), (int ((a.facts[0]'(by omega)).n)), (int ((a.facts[0]'(by omega)).version))] 38 (0, 0)), one b1 (.cells #[(int a.what), (int a.module), (.slice (some ⟨b286, off287, none⟩) a.facts.length cap281)] 46 (0, 0)), c1, c2] at hst300
     refine L_nil ?_
     refine W_seq ?_
     refine W_region_draw [] (fun w => Le R (hp w) ∧ Le (one b275 (.cells #[(int ((a.facts[0]'(by omega)).kind)), (int ((a.facts[0]'(by omega)).n)), (int ((a.facts[0]'(by omega)).version))] 38 (0, 0))) (hp w) ∧ Le (one b1 (.cells #[(int a.what), (int a.module), (.slice (some ⟨b286, off287, none⟩) a.facts.length cap281)] 46 (0, 0))) (hp w)) hmix (by decide +kernel) (fun _ _ h => h) ?_
     have hst302 := hst300.draws (w299.drawn + 1)
     generalize draws w299 (w299.drawn + 1) = w301 at hst302 ⊢
     refine LP (ptr p 0) 0 rfl rfl rfl (fun u304 => rfl) ⟨hst302.rle', hst302.g 0, hst302.g 1⟩ ?_
     refine LP (ptr b275 0) 1 rfl rfl rfl (fun u307 => (by kernel_rfl)) ⟨hst302.rle', hst302.g 0, hst302.g 1⟩ ?_
     refine LT (int ((a.facts[0]'(by omega)).kind)) 2 rfl rfl rfl (fun u310 hF311 => (x_load rfl rfl (run_loadVar_one ti_3 (hF311.2.1 _ _ (one_self _ _)) rfl))) ⟨hst302.rle', hst302.g 0, hst302.g 1⟩ ?_
     refine LP (ptr b275 1) 3 rfl rfl rfl (fun u313 => (by kernel_rfl)) ⟨hst302.rle', hst302.g 0, hst302.g 1⟩ ?_
     refine LT (int ((a.facts[0]'(by omega)).n)) 4 rfl rfl rfl (fun u316 hF317 => (x_load rfl rfl (run_loadVar_one ti_3 (hF317.2.1 _ _ (one_self _ _)) rfl))) ⟨hst302.rle', hst302.g 0, hst302.g 1⟩ ?_
     refine LP (ptr q 0) 6 rfl rfl rfl (fun u321 => rfl) ⟨hst302.rle', hst302.g 0, hst302.g 1⟩ ?_
     refine LP (ptr b275 0) 7 rfl rfl rfl (fun u326 => (by kernel_rfl)) ⟨hst302.rle', hst302.g 0, hst302.g 1⟩ ?_
     refine LT (int ((a.facts[0]'(by omega)).kind)) 8 rfl rfl rfl (fun u331 hF332 => (x_load rfl rfl (run_loadVar_one ti_3 (hF332.2.1 _ _ (one_self _ _)) rfl))) ⟨hst302.rle', hst302.g 0, hst302.g 1⟩ ?_
     refine LP (ptr b275 1) 9 rfl rfl rfl (fun u336 => (by kernel_rfl)) ⟨hst302.rle', hst302.g 0, hst302.g 1⟩ ?_
     refine LT (int ((a.facts[0]'(by omega)).n)) 10 rfl rfl rfl (fun u341 hF342 => (x_load rfl rfl (run_loadVar_one ti_3 (hF342.2.1 _ _ (one_self _ _)) rfl))) ⟨hst302.rle', hst302.g 0, hst302.g 1⟩ ?_
     refine LA_all [5] (by decide +kernel) (by simp) ?_
     intro i_ hi_
     simp only [List.mem_cons, List.not_mem_nil, or_false] at hi_
     subst hi_
     have hst346 := (hst302.front 2 rfl rfl)
     refine One_callS (i := 5) [c1] [one b275 (.cells #[(int ((a.facts[0]'(by omega)).kind)), (int ((a.facts[0]'(by omega)).n)), (int ((a.facts[0]'(by omega)).version))] 38 (0, 0)), one b1 (.cells #[(int a.what), (int a.module), (.slice (some ⟨b286, off287, none⟩) a.facts.length cap281)] 46 (0, 0)), c2] hst346 rfl rfl rfl (Want.plain rfl) (x_call (vs := #[(ptr p 0), (int ((a.facts[0]'(by omega)).kind)), (int ((a.facts[0]'(by omega)).n))]) rfl rfl (by kernel_rfl) ent_14) (Bump_spec ((a.facts[0]'(by omega)).kind) ((a.facts[0]'(by omega)).n) (hst346.sats.take 1 rfl) hreg (by omega) (by omega)) (fun v347 w348 R349 L350 hp351 hle352 hst353 => ?_)
     have hm354 := RegR.lift href hle352
     obtain ⟨c355, co356, rfl, hreg357, ho358⟩ := hp351
     have hreg359 : Reg R349 p (RS.bump s ((a.facts[0]'(by omega)).kind) ((a.facts[0]'(by omega)).n)) c355 := hreg357
     refine ⟨(fun _ => ⟨(Le.trans hle352 hst353.rle'), hst353.g 2, hst353.g 3⟩), ?_⟩
     refine LA_all [11] (by decide +kernel) (by simp) ?_
     intro i_ hi_
     simp only [List.mem_cons, List.not_mem_nil, or_false] at hi_
     subst hi_
     have hst363 := (hst353.front 4 rfl rfl)
     refine One_callS (i := 11) [c2] [c355, co356, one b275 (.cells #[(int ((a.facts[0]'(by omega)).kind)), (int ((a.facts[0]'(by omega)).n)), (int ((a.facts[0]'(by omega)).version))] 38 (0, 0)), one b1 (.cells #[(int a.what), (int a.module), (.slice (some ⟨b286, off287, none⟩) a.facts.length cap281)] 46 (0, 0))] hst363 rfl rfl rfl (Want.plain rfl) (x_call (vs := #[(ptr q 0), (int ((a.facts[0]'(by omega)).kind)), (int ((a.facts[0]'(by omega)).n))]) rfl rfl (by kernel_rfl) ent_33) (BumpR_spec ((a.facts[0]'(by omega)).kind) ((a.facts[0]'(by omega)).n) (hst363.sats.take 1 rfl) hm354 (by omega) (by omega)) (fun v364 w365 R366 L367 hp368 hle369 hst370 => ?_)
     have hm371 := Reg.lift hreg359 hle369
     have hm372 := OwnL.mono ho358 hle369
     obtain ⟨c373, co374, rfl, hreg375, ho376⟩ := hp368
     have href377 : RegR R366 q (RS.bump s ((a.facts[0]'(by omega)).kind) ((a.facts[0]'(by omega)).n)) c373 := hreg375
     refine ⟨(fun _ => ⟨(Le.trans hle352 (Le.trans hle369 hst370.rle')), hst370.g 4, hst370.g 5⟩), ?_⟩
     refine LA_all [12] (by decide +kernel) (by simp) ?_
     intro i_ hi_
     simp only [List.mem_cons, List.not_mem_nil, or_false] at hi_
     subst hi_
     refine One_call (i := 12) rfl rfl rfl (Want.plain rfl) (x_call (vs := #[v347, v364]) rfl rfl (by kernel_rfl) ent_12) (EqualI_spec (w := w365) (R := hp w365) (v1 := v347) (v2 := v364) (xs := (RS.bumpL s ((a.facts[0]'(by omega)).kind) ((a.facts[0]'(by omega)).n))) (ys := (RS.bumpL s ((a.facts[0]'(by omega)).kind) ((a.facts[0]'(by omega)).n))) (Le.refl _) (OwnL.freeze hm372 hst370.rle' (hst370.g 3)) (OwnL.freeze ho376 hst370.rle' (hst370.g 1)) (bumpL_len _ _ _ (by omega))) ?_
     rintro e383 w381 ⟨rfl, hw384⟩
     have hst382 := hst370.grown hw384
     refine ⟨_, rfl, (fun _ => ⟨(Le.trans hle352 (Le.trans hle369 hst382.rle')), hst382.g 4, hst382.g 5⟩), ?_⟩
     refine LP (.bool (decide (((RS.bumpL s ((a.facts[0]'(by omega)).kind) ((a.facts[0]'(by omega)).n)) : List Int) = (RS.bumpL s ((a.facts[0]'(by omega)).kind) ((a.facts[0]'(by omega)).n))))) 13 rfl rfl rfl (fun u386 => rfl) ⟨(Le.trans hle352 (Le.trans hle369 hst382.rle')), hst382.g 4, hst382.g 5⟩ ?_
     refine LA_done (by decide +kernel) ?_
     refine W_ret ?_
     refine ⟨_, _, res_run (rs := [.tmp 6]) (vs := [(.bool (decide (((RS.bumpL s ((a.facts[0]'(by omega)).kind) ((a.facts[0]'(by omega)).n)) : List Int) = (RS.bumpL s ((a.facts[0]'(by omega)).kind) ((a.facts[0]'(by omega)).n)))))]) Try.results18 (.cons (.tmp rfl) .nil) rfl, ?_⟩
     exact ⟨_, _, _, rfl, (hst382.front 2 rfl rfl).keepN 2 rfl, (RS.bump s ((a.facts[0]'(by omega)).kind) ((a.facts[0]'(by omega)).n)), c355, c373, (by show Value.bool _ = _; simp), rfl, hm371, href377, (by rw [RS.bump_mods]; omega), (RS.bump_cnt _ _ _)⟩
    ·
     have q388 := of_decide_eq_false c284
     refine W_cond_false (by show Value.bool _ = _; exact congrArg Value.bool c284) ?_
     refine W_skip ?_
     refine W_seq ?_
     refine W_region_draw [] (fun w => Le R (hp w) ∧ Le (one b275 (.cells #[(int 0), (int 0), (int 0)] 38 (0, 0))) (hp w) ∧ Le (one b1 (.cells #[(int a.what), (int a.module), (.slice a280 a.facts.length cap281)] 46 (0, 0))) (hp w)) hmix (by decide +kernel) (fun _ _ h => h) ?_
     have hst390 := hst279.draws (w278.drawn + 1)
     generalize draws w278 (w278.drawn + 1) = w389 at hst390 ⊢
     refine LP (ptr p 0) 0 rfl rfl rfl (fun u392 => rfl) ⟨hst390.rle', hst390.g 0, hst390.g 1⟩ ?_
     refine LP (ptr b275 0) 1 rfl rfl rfl (fun u395 => (by kernel_rfl)) ⟨hst390.rle', hst390.g 0, hst390.g 1⟩ ?_
     refine LT (int 0) 2 rfl rfl rfl (fun u398 hF399 => (x_load rfl rfl (run_loadVar_one ti_3 (hF399.2.1 _ _ (one_self _ _)) rfl))) ⟨hst390.rle', hst390.g 0, hst390.g 1⟩ ?_
     refine LP (ptr b275 1) 3 rfl rfl rfl (fun u401 => (by kernel_rfl)) ⟨hst390.rle', hst390.g 0, hst390.g 1⟩ ?_
     refine LT (int 0) 4 rfl rfl rfl (fun u404 hF405 => (x_load rfl rfl (run_loadVar_one ti_3 (hF405.2.1 _ _ (one_self _ _)) rfl))) ⟨hst390.rle', hst390.g 0, hst390.g 1⟩ ?_
     refine LP (ptr q 0) 6 rfl rfl rfl (fun u409 => rfl) ⟨hst390.rle', hst390.g 0, hst390.g 1⟩ ?_
     refine LP (ptr b275 0) 7 rfl rfl rfl (fun u414 => (by kernel_rfl)) ⟨hst390.rle', hst390.g 0, hst390.g 1⟩ ?_
     refine LT (int 0) 8 rfl rfl rfl (fun u419 hF420 => (x_load rfl rfl (run_loadVar_one ti_3 (hF420.2.1 _ _ (one_self _ _)) rfl))) ⟨hst390.rle', hst390.g 0, hst390.g 1⟩ ?_
     refine LP (ptr b275 1) 9 rfl rfl rfl (fun u424 => (by kernel_rfl)) ⟨hst390.rle', hst390.g 0, hst390.g 1⟩ ?_
     refine LT (int 0) 10 rfl rfl rfl (fun u429 hF430 => (x_load rfl rfl (run_loadVar_one ti_3 (hF430.2.1 _ _ (one_self _ _)) rfl))) ⟨hst390.rle', hst390.g 0, hst390.g 1⟩ ?_
     refine LA_all [5] (by decide +kernel) (by simp) ?_
     intro i_ hi_
     simp only [List.mem_cons, List.not_mem_nil, or_false] at hi_
     subst hi_
     have hst434 := (hst390.front 2 rfl rfl)
     refine One_callS (i := 5) [c1] [one b275 (.cells #[(int 0), (int 0), (int 0)] 38 (0, 0)), one b1 (.cells #[(int a.what), (int a.module), (.slice a280 a.facts.length cap281)] 46 (0, 0)), c2] hst434 rfl rfl rfl (Want.plain rfl) (x_call (vs := #[(ptr p 0), (int 0), (int 0)]) rfl rfl (by kernel_rfl) ent_14) (Bump_spec 0 0 (hst434.sats.take 1 rfl) hreg (by omega) (by omega)) (fun v435 w436 R437 L438 hp439 hle440 hst441 => ?_)
     have hm442 := RegR.lift href hle440
     obtain ⟨c443, co444, rfl, hreg445, ho446⟩ := hp439
     have hreg447 : Reg R437 p (RS.bump s 0 0) c443 := hreg445
     refine ⟨(fun _ => ⟨(Le.trans hle440 hst441.rle'), hst441.g 2, hst441.g 3⟩), ?_⟩
     refine LA_all [11] (by decide +kernel) (by simp) ?_
     intro i_ hi_
     simp only [List.mem_cons, List.not_mem_nil, or_false] at hi_
     subst hi_
     have hst451 := (hst441.front 4 rfl rfl)
     refine One_callS (i := 11) [c2] [c443, co444, one b275 (.cells #[(int 0), (int 0), (int 0)] 38 (0, 0)), one b1 (.cells #[(int a.what), (int a.module), (.slice a280 a.facts.length cap281)] 46 (0, 0))] hst451 rfl rfl rfl (Want.plain rfl) (x_call (vs := #[(ptr q 0), (int 0), (int 0)]) rfl rfl (by kernel_rfl) ent_33) (BumpR_spec 0 0 (hst451.sats.take 1 rfl) hm442 (by omega) (by omega)) (fun v452 w453 R454 L455 hp456 hle457 hst458 => ?_)
     have hm459 := Reg.lift hreg447 hle457
     have hm460 := OwnL.mono ho446 hle457
     obtain ⟨c461, co462, rfl, hreg463, ho464⟩ := hp456
     have href465 : RegR R454 q (RS.bump s 0 0) c461 := hreg463
     refine ⟨(fun _ => ⟨(Le.trans hle440 (Le.trans hle457 hst458.rle')), hst458.g 4, hst458.g 5⟩), ?_⟩
     refine LA_all [12] (by decide +kernel) (by simp) ?_
     intro i_ hi_
     simp only [List.mem_cons, List.not_mem_nil, or_false] at hi_
     subst hi_
     refine One_call (i := 12) rfl rfl rfl (Want.plain rfl) (x_call (vs := #[v435, v452]) rfl rfl (by kernel_rfl) ent_12) (EqualI_spec (w := w453) (R := hp w453) (v1 := v435) (v2 := v452) (xs := (RS.bumpL s 0 0)) (ys := (RS.bumpL s 0 0)) (Le.refl _) (OwnL.freeze hm460 hst458.rle' (hst458.g 3)) (OwnL.freeze ho464 hst458.rle' (hst458.g 1)) (bumpL_len _ _ _ (by omega))) ?_
     rintro e471 w469 ⟨rfl, hw472⟩
     have hst470 := hst458.grown hw472
     refine ⟨_, rfl, (fun _ => ⟨(Le.trans hle440 (Le.trans hle457 hst470.rle')), hst470.g 4, hst470.g 5⟩), ?_⟩
     refine LP (.bool (decide (((RS.bumpL s 0 0) : List Int) = (RS.bumpL s 0 0)))) 13 rfl rfl rfl (fun u474 => rfl) ⟨(Le.trans hle440 (Le.trans hle457 hst470.rle')), hst470.g 4, hst470.g 5⟩ ?_
     refine LA_done (by decide +kernel) ?_
     refine W_ret ?_
     refine ⟨_, _, res_run (rs := [.tmp 6]) (vs := [(.bool (decide (((RS.bumpL s 0 0) : List Int) = (RS.bumpL s 0 0))))]) Try.results18 (.cons (.tmp rfl) .nil) rfl, ?_⟩
     exact ⟨_, _, _, rfl, (hst470.front 2 rfl rfl).keepN 2 rfl, (RS.bump s 0 0), c443, c461, (by show Value.bool _ = _; simp), rfl, hm459, href465, (by rw [RS.bump_mods]; omega), (RS.bump_cnt _ _ _)⟩
   ·
    have q476 := ne_of_beq_false c273
    refine W_cond_false (by show Value.bool _ = _; exact congrArg Value.bool c273) ?_
    refine W_skip ?_
    refine W_seq ?_
    refine W_region_draw [] (fun w => Le R (hp w) ∧ Le (one b1 (.cells #[(int a.what), (int a.module), v] 46 (0, 0))) (hp w)) hmix (by decide +kernel) (fun _ _ h => h) ?_
    have hst478 := hst3.draws (w2.drawn + 1)
    generalize draws w2 (w2.drawn + 1) = w477 at hst478 ⊢
    refine LP (ptr p 0) 0 rfl rfl rfl (fun u480 => rfl) ⟨hst478.rle', hst478.g 0⟩ ?_
    refine LP (ptr b1 1) 1 rfl rfl rfl (fun u483 => (by kernel_rfl)) ⟨hst478.rle', hst478.g 0⟩ ?_
    refine LT (int a.module) 2 rfl rfl rfl (fun u486 hF487 => (x_load rfl rfl (run_loadVar_one ti_3 (hF487.2 _ _ (one_self _ _)) rfl))) ⟨hst478.rle', hst478.g 0⟩ ?_
    refine LP (ptr b1 2) 3 rfl rfl rfl (fun u489 => (by kernel_rfl)) ⟨hst478.rle', hst478.g 0⟩ ?_
    refine LT v 4 rfl rfl rfl (fun u492 hF493 => (x_load rfl rfl (run_loadVar_one ti_29 (hF493.2 _ _ (one_self _ _)) rfl))) ⟨hst478.rle', hst478.g 0⟩ ?_
    refine LP (ptr q 0) 6 rfl rfl rfl (fun u497 => rfl) ⟨hst478.rle', hst478.g 0⟩ ?_
    refine LP (ptr b1 1) 7 rfl rfl rfl (fun u502 => (by kernel_rfl)) ⟨hst478.rle', hst478.g 0⟩ ?_
    refine LT (int a.module) 8 rfl rfl rfl (fun u507 hF508 => (x_load rfl rfl (run_loadVar_one ti_3 (hF508.2 _ _ (one_self _ _)) rfl))) ⟨hst478.rle', hst478.g 0⟩ ?_
    refine LP (ptr b1 2) 9 rfl rfl rfl (fun u512 => (by kernel_rfl)) ⟨hst478.rle', hst478.g 0⟩ ?_
    refine LT v 10 rfl rfl rfl (fun u517 hF518 => (x_load rfl rfl (run_loadVar_one ti_29 (hF518.2 _ _ (one_self _ _)) rfl))) ⟨hst478.rle', hst478.g 0⟩ ?_
    refine LA_all [5] (by decide +kernel) (by simp) ?_
    intro i_ hi_
    simp only [List.mem_cons, List.not_mem_nil, or_false] at hi_
    subst hi_
    obtain ⟨a522, cap523, e524, hc525⟩ := hv.shape
    subst e524
    have hst526 := (hst478.front 1 rfl rfl)
    refine One_callS (i := 5) [c1] [one b1 (.cells #[(int a.what), (int a.module), (.slice a522 a.facts.length cap523)] 46 (0, 0)), c2] hst526 rfl rfl rfl (Want.plain rfl) (x_call (vs := #[(ptr p 0), (int a.module), (.slice a522 a.facts.length cap523)]) rfl rfl (by kernel_rfl) ent_11) (Add_spec (v := (.slice a522 a.facts.length cap523)) a.module (RdS.mono hv (Le.refl _)) hmax (hst526.sats.take 1 rfl) hreg) (fun v527 w528 R529 L530 hp531 hle532 hst533 => ?_)
    have hm534 := RegR.lift href hle532
    obtain ⟨c535, rfl, rfl, hreg536⟩ := hp531
    have hreg537 : Reg R529 p (RS.add s a.module a.facts) c535 := hreg536
    refine ⟨(fun _ => ⟨(Le.trans hle532 hst533.rle'), hst533.g 1⟩), ?_⟩
    refine LA_all [11] (by decide +kernel) (by simp) ?_
    intro i_ hi_
    simp only [List.mem_cons, List.not_mem_nil, or_false] at hi_
    subst hi_
    have hst541 := (hst533.front 2 rfl rfl)
    refine One_callS (i := 11) [c2] [c535, one b1 (.cells #[(int a.what), (int a.module), (.slice a522 a.facts.length cap523)] 46 (0, 0))] hst541 rfl rfl rfl (Want.plain rfl) (x_call (vs := #[(ptr q 0), (int a.module), (.slice a522 a.facts.length cap523)]) rfl rfl (by kernel_rfl) ent_34) (AddR_spec (v := (.slice a522 a.facts.length cap523)) a.module (RdS.mono hv hle532) hmax (hst541.sats.take 1 rfl) hm534 (by omega)) (fun v542 w543 R544 L545 hp546 hle547 hst548 => ?_)
    have hm549 := Reg.lift hreg537 hle547
    obtain ⟨c550, rfl, rfl, hreg551⟩ := hp546
    have href552 : RegR R544 q (RS.add s a.module a.facts) c550 := hreg551
    refine ⟨(fun _ => ⟨(Le.trans hle532 (Le.trans hle547 hst548.rle')), hst548.g 2⟩), ?_⟩
    refine LP (.bool ((RS.addE s a.module a.facts) == (RS.addE s a.module a.facts))) 12 rfl rfl rfl (fun u554 => (by kernel_rfl)) ⟨(Le.trans hle532 (Le.trans hle547 hst548.rle')), hst548.g 2⟩ ?_
    refine LP (.bool ((RS.addE s a.module a.facts) == (RS.addE s a.module a.facts))) 13 rfl rfl rfl (fun u557 => rfl) ⟨(Le.trans hle532 (Le.trans hle547 hst548.rle')), hst548.g 2⟩ ?_
    refine LA_done (by decide +kernel) ?_
    refine W_ret ?_
    refine ⟨_, _, res_run (rs := [.tmp 6]) (vs := [(.bool ((RS.addE s a.module a.facts) == (RS.addE s a.module a.facts)))]) Try.results18 (.cons (.tmp rfl) .nil) rfl, ?_⟩
    exact ⟨_, _, _, rfl, (hst548.front 1 rfl rfl).keepN 2 rfl, (RS.add s a.module a.facts), c535, c550, (by show Value.bool _ = _; simp), rfl, hm549, href552, (add_len _ _ _), (by rw [add_cnt]; omega)⟩

set_option maxHeartbeats 2000000 in
theorem same_spec {w : World} {R c1 c2 : Hp} {p q : Nat} {s : RS} (hs : Sats w R [c1, c2]) (hreg : Reg R p s c1) (href : RegR R q s c2) (hlen : s.mods.length ≤ 1000000) :
    Calls Try.prog 19 #[ptr p 0, ptr q 0] w (Comes' w R [c1, c2] fun v' R' L' => v' = .bool true ∧ L' = []) := by
 have hst := Step.refl hs
 refine calls_of_W (n := 41) Try.func19 rfl Try.ntmps19 (Nat.le_of_ble_eq_true rfl) ?_
 refine W_seq ?_
 refine W_region_lit ?_
 refine Lq (.bool false) rfl rfl rfl rfl ?_
 refine L_nil ?_
 refine W_seq ?_
 refine W_seq ?_
 refine W_region_lit ?_
 refine Lq (int 0) rfl rfl rfl rfl ?_
 refine L_nil ?_
 refine W_block ?_
 refine W_loop (I := fun σ w_ m_ => ∃ (σ0 : Fr) (n_ : Int), σ = upd (upd (upd σ0 0 (ptr p 0)) 1 (ptr q 0)) 8 (int n_) ∧ mks (σ0 0) = [] ∧ Step w R [c1, c2] w_ R [c1, c2] ∧ 0 ≤ n_ ∧ n_ ≤ 4 ∧ m_ = ((4 : Int) - n_).toNat) (m := ((4 : Int) - 0).toNat) ?_ ?_
 ·
  exact ⟨_, 0, (upd_of (upd_of (upd_of rfl rfl) rfl) rfl), rfl, ((hst.front 1 rfl rfl).front 1 rfl rfl), (by omega), (by omega), rfl⟩
 ·
  rintro m9 σ_ w3 ⟨s7, n_8, rfl, hmk1, hst2, hf5, hf6, rfl⟩
  refine W_seq ?_
  refine W_region_lit ?_
  refine Lq (.bool (decide (n_8 < 4))) rfl rfl rfl (by kernel_rfl) ?_
  refine L_nil ?_
  refine W_seq ?_
  rcases Bool.eq_false_or_eq_true (decide (n_8 < 4)) with c10 | c10
  ·
   have q11 := of_decide_eq_true c10
   refine W_cond_true (by show Value.bool _ = _; exact congrArg Value.bool c10) ?_
   refine W_skip ?_
   refine W_seq ?_
   refine W_block ?_
   refine W_seq ?_
   refine W_region_lit ?_
   refine Lq (int n_8) rfl rfl rfl rfl ?_
   refine Lq (int n_8) rfl rfl rfl rfl ?_
   refine L_nil ?_
   refine W_seq ?_
   refine W_region_lit ?_
   refine Lq (int (-1)) rfl rfl rfl rfl ?_
   refine L_nil ?_
   refine W_block ?_
   refine W_loop (I := fun σ w_ m_ => ∃ (σ0 : Fr) (n_ : Int), σ = upd (upd (upd (upd (upd (upd (upd σ0 0 (ptr p 0)) 1 (ptr q 0)) 5 (int n_8)) 6 (int n_)) 8 (int n_8)) 9 (.bool (decide (n_8 < 4)))) 10 (int n_8) ∧ mks (σ0 0) = [] ∧ Step w R [c1, c2] w_ R [c1, c2] ∧ (-1) ≤ n_ ∧ n_ ≤ 26 ∧ m_ = ((26 : Int) - n_).toNat) (m := ((26 : Int) - (-1)).toNat) ?_ ?_
   ·
    exact ⟨_, (-1), (upd_of (upd_of (upd_of (upd_of (upd_of (upd_of (upd_of rfl rfl) rfl) rfl) rfl) rfl) rfl) rfl), hmk1, ((hst2.front 1 rfl rfl).front 1 rfl rfl), (by omega), (by omega), rfl⟩
   ·
    rintro m20 σ_ w14 ⟨s18, n_19, rfl, hmk12, hst13, hf16, hf17, rfl⟩
    refine W_seq ?_
    refine W_seq ?_
    refine W_region_lit ?_
    refine Lq (int n_19) rfl rfl rfl rfl ?_
    refine Lq (.bool (decide (n_19 < 26))) rfl rfl rfl (by kernel_rfl) ?_
    refine L_nil ?_
    rcases Bool.eq_false_or_eq_true (decide (n_19 < 26)) with c21 | c21
    ·
     have q22 := of_decide_eq_true c21
     refine W_cond_true (by show Value.bool _ = _; exact congrArg Value.bool c21) ?_
     refine W_skip ?_
     refine W_seq ?_
     refine W_block ?_
     refine W_seq ?_
     refine W_region_lit ?_
     refine Lq (ptr p 0) rfl rfl rfl rfl ?_
     refine Lq (int n_8) rfl rfl rfl rfl ?_
     refine Lq (int n_19) rfl rfl rfl rfl ?_
     refine L_callG hst13 (v := (int (ver s.vers (n_8, n_19)))) rfl rfl rfl (x_call (vs := #[(ptr p 0), (int n_8), (int n_19)]) rfl rfl (by kernel_rfl) ent_16) (Version_reg (w := w14) n_8 n_19 hreg (hst13.g 0)) (fun w23 hst24 => ?_)
     refine Lq (ptr q 0) rfl rfl rfl rfl ?_
     refine Lq (int n_8) rfl rfl rfl rfl ?_
     refine Lq (int n_19) rfl rfl rfl rfl ?_
     refine L_callG hst24 (v := (int (ver s.vers (n_8, n_19)))) rfl rfl rfl (x_call (vs := #[(ptr q 0), (int n_8), (int n_19)]) rfl rfl (by kernel_rfl) ent_35) (VersionR_reg (w := w23) n_8 n_19 href (hst24.g 1) hst24.rle' (by omega)) (fun w25 hst26 => ?_)
     refine Lq (.bool ((ver s.vers (n_8, n_19)) != (ver s.vers (n_8, n_19)))) rfl rfl rfl (by kernel_rfl) ?_
     refine L_nil ?_
     have c27 : ((ver s.vers (n_8, n_19)) != (ver s.vers (n_8, n_19))) = false := by simp
     refine W_cond_false (by show Value.bool _ = _; exact congrArg Value.bool c27) ?_
     refine W_skip ?_
     refine W_region_lit ?_
     refine Lq (int n_19) rfl rfl rfl rfl ?_
     refine Lq (int (n_19 + 1)) rfl rfl rfl (x_add rfl rfl rfl (by constructor <;> omega)) ?_
     refine Lq (int (n_19 + 1)) rfl rfl rfl rfl ?_
     refine L_nil ?_
     refine ⟨((26 : Int) - (n_19 + 1)).toNat, by first | omega | (simp only [List.length_append, List.length_cons, List.length_nil]; omega), ?_⟩
     exact ⟨_, (n_19 + 1), (upd_of (upd_of (upd_of (upd_of (upd_of (upd_of (upd_of rfl rfl) rfl) rfl) rfl) rfl) rfl) rfl), hmk12, ((hst26.front 1 rfl rfl).front 1 rfl rfl), (by omega), (by omega), rfl⟩
    ·
     have q29 := of_decide_eq_false c21
     refine W_cond_false (by show Value.bool _ = _; exact congrArg Value.bool c21) ?_
     refine W_exit ?_
     refine W_region_lit ?_
     refine Lq (int (n_8 + 1)) rfl rfl rfl (x_add rfl rfl rfl (by constructor <;> omega)) ?_
     refine Lq (int (n_8 + 1)) rfl rfl rfl rfl ?_
     refine L_nil ?_
     refine ⟨((4 : Int) - (n_8 + 1)).toNat, by first | omega | (simp only [List.length_append, List.length_cons, List.length_nil]; omega), ?_⟩
     exact ⟨_, (n_8 + 1), (upd_of (upd_of (upd_of rfl rfl) rfl) rfl), hmk12, ((hst13.front 1 rfl rfl).front 1 rfl rfl), (by omega), (by omega), rfl⟩
  ·
   have q30 := of_decide_eq_false c10
   refine W_cond_false (by show Value.bool _ = _; exact congrArg Value.bool c10) ?_
   refine W_exit ?_
   refine W_seq ?_
   refine W_seq ?_
   refine W_region_lit ?_
   refine Lq (int (-1)) rfl rfl rfl rfl ?_
   refine L_nil ?_
   refine W_block ?_
   refine W_loop (I := fun σ w_ m_ => ∃ (σ0 : Fr) (n_ : Int), σ = upd (upd (upd (upd (upd σ0 0 (ptr p 0)) 1 (ptr q 0)) 7 (int n_)) 8 (int n_8)) 9 (.bool (decide (n_8 < 4))) ∧ mks (σ0 0) = [] ∧ Step w R [c1, c2] w_ R [c1, c2] ∧ (-1) ≤ n_ ∧ n_ ≤ 9 ∧ m_ = ((9 : Int) - n_).toNat) (m := ((9 : Int) - (-1)).toNat) ?_ ?_
   ·
    exact ⟨_, (-1), (upd_of (upd_of (upd_of (upd_of (upd_of rfl rfl) rfl) rfl) rfl) rfl), hmk1, ((hst2.front 1 rfl rfl).front 1 rfl rfl), (by omega), (by omega), rfl⟩
   ·
    rintro m39 σ_ w33 ⟨s37, n_38, rfl, hmk31, hst32, hf35, hf36, rfl⟩
    refine W_seq ?_
    refine W_seq ?_
    refine W_region_lit ?_
    refine Lq (int n_38) rfl rfl rfl rfl ?_
    refine Lq (.bool (decide (n_38 < 9))) rfl rfl rfl (by kernel_rfl) ?_
    refine L_nil ?_
    rcases Bool.eq_false_or_eq_true (decide (n_38 < 9)) with c40 | c40
    ·
     have q41 := of_decide_eq_true c40
     refine W_cond_true (by show Value.bool _ = _; exact congrArg Value.bool c40) ?_
     refine W_skip ?_
     refine W_seq ?_
     refine W_block ?_
     refine W_seq ?_
     refine W_region_lit ?_
     refine Lq (ptr p 0) rfl rfl rfl rfl ?_
     refine Lq (int n_38) rfl rfl rfl rfl ?_
     refine L_callG hst32 (v := (.bool (holds s.vers s.mods n_38))) rfl rfl rfl (x_call (vs := #[(ptr p 0), (int n_38)]) rfl rfl (by kernel_rfl) ent_15) (Holds_reg (w := w33) n_38 hreg hst32.rle' (hst32.g 0)) (fun w42 hst43 => ?_)
     refine Lq (ptr q 0) rfl rfl rfl rfl ?_
     refine Lq (int n_38) rfl rfl rfl rfl ?_
     refine L_callG hst43 (v := (.bool (holds s.vers s.mods n_38))) rfl rfl rfl (x_call (vs := #[(ptr q 0), (int n_38)]) rfl rfl (by kernel_rfl) ent_36) (HoldsR_spec (w := w42) n_38 href (hst43.g 1) hst43.rle' (by omega)) (fun w44 hst45 => ?_)
     refine Lq (.bool ((holds s.vers s.mods n_38) != (holds s.vers s.mods n_38))) rfl rfl rfl (by kernel_rfl) ?_
     refine L_nil ?_
     have c46 : ((holds s.vers s.mods n_38) != (holds s.vers s.mods n_38)) = false := by simp
     refine W_cond_false (by show Value.bool _ = _; exact congrArg Value.bool c46) ?_
     refine W_skip ?_
     refine W_region_lit ?_
     refine Lq (int n_38) rfl rfl rfl rfl ?_
     refine Lq (int (n_38 + 1)) rfl rfl rfl (x_add rfl rfl rfl (by constructor <;> omega)) ?_
     refine Lq (int (n_38 + 1)) rfl rfl rfl rfl ?_
     refine L_nil ?_
     refine ⟨((9 : Int) - (n_38 + 1)).toNat, by first | omega | (simp only [List.length_append, List.length_cons, List.length_nil]; omega), ?_⟩
     exact ⟨_, (n_38 + 1), (upd_of (upd_of (upd_of (upd_of (upd_of rfl rfl) rfl) rfl) rfl) rfl), hmk31, ((hst45.front 1 rfl rfl).front 1 rfl rfl), (by omega), (by omega), rfl⟩
    ·
     have q47 := of_decide_eq_false c40
     refine W_cond_false (by show Value.bool _ = _; exact congrArg Value.bool c40) ?_
     refine W_exit ?_
     refine W_seq ?_
     refine W_region_lit ?_
     refine Lq (ptr p 0) rfl rfl rfl rfl ?_
     refine L_call rfl rfl rfl (x_call (vs := #[(ptr p 0)]) rfl rfl (by kernel_rfl) ent_13) (Modules_any hreg (hst32.g 0) (by omega)) ?_
     rintro e48 w49 ⟨v50, R51, L52, rfl, hst53, hp54⟩
     obtain ⟨c56, rfl, ho57⟩ := hp54
     have ho58 := OwnL.reint (R' := R) ho57
     have hst55 := Step.gain hst32 hst53
     refine ⟨_, rfl, ?_⟩
     refine Lq (ptr q 0) rfl rfl rfl rfl ?_
     have hst59 := (hst55.front 2 rfl rfl)
     refine L_callS [c2] [c56, c1] hst59 rfl rfl rfl (x_call (vs := #[(ptr q 0)]) rfl rfl (by kernel_rfl) ent_37) (ModulesR_spec (hst59.sats.take 1 rfl) href (by omega)) (fun v60 w61 R62 L63 hp64 hle65 hst66 => ?_)
     have hm67 := OwnL.mono ho58 hle65
     have hm68 := Reg.lift hreg hle65
     obtain ⟨co70, c69, rfl, ho72, hreg71⟩ := hp64
     have href73 : RegR R62 q s c69 := hreg71
     refine L_callG hst66 (v := (.bool (decide (((RS.modules s) : List Int) = (RS.modules s))))) rfl rfl rfl (x_call (vs := #[v50, v60]) rfl rfl (by kernel_rfl) ent_12) (EqualI_spec (w := w61) (R := hp w61) (v1 := v50) (v2 := v60) (xs := (RS.modules s)) (ys := (RS.modules s)) (Le.refl _) (OwnL.freeze hm67 hst66.rle' (hst66.g 2)) (OwnL.freeze ho72 hst66.rle' (hst66.g 0)) (by rw [RS.modules_len]; omega)) (fun w74 hst75 => ?_)
     refine Lq (.bool (decide (((RS.modules s) : List Int) = (RS.modules s)))) rfl rfl rfl rfl ?_
     refine L_nil ?_
     refine W_ret ?_
     refine ⟨_, _, res_run (rs := [.tmp 4]) (vs := [(.bool (decide (((RS.modules s) : List Int) = (RS.modules s))))]) Try.results19 (.cons (.tmp rfl) .nil) hmk31, ?_⟩
     exact ⟨_, _, [], rfl, hst75.keepN 0 rfl, (by show Value.bool _ = _; simp), rfl⟩

set_option maxHeartbeats 2000000 in
theorem Plays_walk {w : World} {R : Hp} {v : Value} {f c : Nat} {acts : List Act} (hf : f < 256) (hc : c < 256) (hs : Sats w R []) (hv : RdS tyAct R v acts) (hlen : acts.length ≤ 1048576) (hmax : ∀ a ∈ acts, a.facts.length ≤ 1048576) :
    Calls Try.prog 5 #[.int .u8 (f : Int), .int .u8 (c : Int), v] w (Comes' w R [] fun v' R' L' => v' = .bool true ∧ L' = []) := by
 have hst := Step.refl hs
 refine calls_of_W (n := 52) Try.func5 rfl Try.ntmps5 (Nat.le_of_ble_eq_true rfl) ?_
 refine W_seq ?_
 refine W_region_lit ?_
 refine Lq (.bool false) rfl rfl rfl rfl ?_
 refine L_nil ?_
 refine W_seq ?_
 refine W_region_lit ?_
 have hst1 := hst
 refine L_callS [] [] hst1 rfl rfl rfl (x_call (vs := #[]) rfl rfl (by kernel_rfl) ent_9) (sanity_spec (hst1.sats.take 0 rfl)) (fun v2 w3 R4 L5 hp6 hle7 hst8 => ?_)
 obtain ⟨rfl, rfl⟩ := hp6
 refine Lq (.bool true) rfl rfl rfl rfl ?_
 refine L_nil ?_
 refine W_seq ?_
 refine W_region_lit ?_
 refine Lq (.int .u8 (f : Int)) rfl rfl rfl rfl ?_
 refine Lq (.int .u8 ((f % 5 : Nat) : Int)) rfl rfl rfl (x_remK rfl rfl rfl (by omega)) ?_
 refine L_val (v := (int ((f % 5 : Nat) : Int))) (w' := w3) rfl rfl rfl (x_conv8' rfl rfl (by omega) (by omega)) ?_
 refine Lq (.int .u8 (c : Int)) rfl rfl rfl rfl ?_
 refine Lq (.int .u8 ((c % 4 : Nat) : Int)) rfl rfl rfl (x_remK rfl rfl rfl (by omega)) ?_
 refine L_val (v := (int ((c % 4 : Nat) : Int))) (w' := w3) rfl rfl rfl (x_conv8' rfl rfl (by omega) (by omega)) ?_
 have hst9 := hst8
 refine L_callS [] [] hst9 rfl rfl rfl (x_call (vs := #[(int ((f % 5 : Nat) : Int)), (int ((c % 4 : Nat) : Int))]) rfl rfl (by kernel_rfl) ent_10) (New_spec (f := (f % 5)) (c := (c % 4)) (hst9.sats.take 0 rfl) (by omega) (by omega)) (fun v10 w11 R12 L13 hp14 hle15 hst16 => ?_)
 obtain ⟨p17, c18, rfl, rfl, hreg19⟩ := hp14
 have hreg20 : Reg R12 p17 (RS.new (f % 5) (c % 4)) c18 := hreg19
 refine Lq (.int .u8 (f : Int)) rfl rfl rfl rfl ?_
 refine Lq (.int .u8 ((f % 5 : Nat) : Int)) rfl rfl rfl (x_remK rfl rfl rfl (by omega)) ?_
 refine L_val (v := (int ((f % 5 : Nat) : Int))) (w' := w11) rfl rfl rfl (x_conv8' rfl rfl (by omega) (by omega)) ?_
 refine Lq (.int .u8 (c : Int)) rfl rfl rfl rfl ?_
 refine Lq (.int .u8 ((c % 4 : Nat) : Int)) rfl rfl rfl (x_remK rfl rfl rfl (by omega)) ?_
 refine L_val (v := (int ((c % 4 : Nat) : Int))) (w' := w11) rfl rfl rfl (x_conv8' rfl rfl (by omega) (by omega)) ?_
 have hst21 := hst16
 refine L_callS [] [c18] hst21 rfl rfl rfl (x_call (vs := #[(int ((f % 5 : Nat) : Int)), (int ((c % 4 : Nat) : Int))]) rfl rfl (by kernel_rfl) ent_17) (NewR_spec (f := (f % 5)) (c := (c % 4)) (hst21.sats.take 0 rfl) (by omega) (by omega)) (fun v22 w23 R24 L25 hp26 hle27 hst28 => ?_)
 have hm29 := Reg.lift hreg20 hle27
 obtain ⟨p30, c31, rfl, rfl, hreg32⟩ := hp26
 have href33 : RegR R24 p30 (RS.new (f % 5) (c % 4)) c31 := hreg32
 refine Lq (ptr p17 0) rfl rfl rfl rfl ?_
 refine Lq (ptr p30 0) rfl rfl rfl rfl ?_
 refine L_nil ?_
 refine W_seq ?_
 refine W_seq ?_
 refine W_region_lit ?_
 refine Lq (ptr p17 0) rfl rfl rfl rfl ?_
 refine Lq (.bool false) rfl rfl rfl (by kernel_rfl) ?_
 refine L_nil ?_
 refine W_cond_false (by show Value.bool _ = _; exact congrArg Value.bool rfl) ?_
 refine W_skip ?_
 refine W_seq ?_
 refine W_seq ?_
 refine W_region_lit ?_
 refine Lq (int 0) rfl rfl rfl rfl ?_
 refine L_nil ?_
 refine W_block ?_
 refine W_loop (I := fun σ w_ m_ => ∃ (σ0 : Fr) (R_ : Hp) (k_ : Nat) (s_ : RS) (cA : Hp) (cB : Hp), σ = upd (upd (upd (upd (upd (upd (upd (upd (upd (upd (upd (upd (upd (upd (upd (upd (upd (upd (upd (upd (upd (upd (upd (upd σ0 0 (.int .u8 (f : Int))) 1 (.int .u8 (c : Int))) 2 v) 7 (.bool true)) 8 (ptr p17 0)) 9 (ptr p30 0)) 10 (int (k_ : Int))) 11 (.bool true)) 12 (.int .u8 (f : Int))) 13 (.int .u8 ((f % 5 : Nat) : Int))) 14 (int ((f % 5 : Nat) : Int))) 15 (.int .u8 (c : Int))) 16 (.int .u8 ((c % 4 : Nat) : Int))) 17 (int ((c % 4 : Nat) : Int))) 18 (ptr p17 0)) 19 (.int .u8 (f : Int))) 20 (.int .u8 ((f % 5 : Nat) : Int))) 21 (int ((f % 5 : Nat) : Int))) 22 (.int .u8 (c : Int))) 23 (.int .u8 ((c % 4 : Nat) : Int))) 24 (int ((c % 4 : Nat) : Int))) 25 (ptr p30 0)) 26 (ptr p17 0)) 27 (.bool false) ∧ mks (σ0 0) = [] ∧ Step w R [] w_ R_ [cA, cB] ∧ Le R24 R_ ∧ Reg R_ p17 s_ cA ∧ RegR R_ p30 s_ cB ∧ k_ ≤ acts.length ∧ k_ ≤ 40 ∧ s_.mods.length ≤ k_ ∧ s_.cnt ≤ k_ ∧ m_ = acts.length - k_) (m := acts.length - 0) ?_ ?_
 ·
  exact ⟨_, _, 0, (RS.new (f % 5) (c % 4)), c18, c31, (upd_of (upd_of (upd_of (upd_of (upd_of (upd_of (upd_of (upd_of (upd_of (upd_of (upd_of (upd_of (upd_of (upd_of (upd_of (upd_of (upd_of (upd_of (upd_of (upd_of (upd_of (upd_of (upd_of (upd_of rfl rfl) rfl) rfl) rfl) rfl) rfl) rfl) rfl) rfl) rfl) rfl) rfl) rfl) rfl) rfl) rfl) rfl) rfl) rfl) rfl) rfl) rfl) rfl) rfl), rfl, (hst28.front 1 rfl rfl), Le.refl _, hm29, href33, (by omega), (by omega), (Nat.le_refl 0), (Nat.le_refl 0), rfl⟩
 ·
  rintro m50 σ_ w36 ⟨s44, R45, k_46, s_47, cA48, cB49, rfl, hmk34, hst35, hle37, hi38, hi39, hf40, hf41, hf42, hf43, rfl⟩
  refine W_seq ?_
  refine W_seq ?_
  refine W_region_lit ?_
  refine Lq (int (k_46 : Int)) rfl rfl rfl rfl ?_
  refine Lq v rfl rfl rfl rfl ?_
  obtain ⟨a51, cap52, e53, hc54⟩ := hv.shape
  subst e53
  refine Lq (int (acts.length : Int)) rfl rfl rfl (x_len_slice rfl sl_41 rfl) ?_
  refine Lq (.bool (decide ((k_46 : Int) < (acts.length : Int)))) rfl rfl rfl (by kernel_rfl) ?_
  refine Lq (.bool (decide ((k_46 : Int) < (acts.length : Int)))) rfl rfl rfl rfl ?_
  rcases Bool.eq_false_or_eq_true (decide ((k_46 : Int) < (acts.length : Int))) with c55 | c55
  ·
   have q56 := of_decide_eq_true c55
   refine L_guard rfl rfl rfl rfl c55 ?_
   refine Lq (int (k_46 : Int)) rfl rfl rfl rfl ?_
   refine L_guard rfl rfl rfl rfl c55 ?_
   refine Lq (.bool (decide ((k_46 : Int) < 40))) rfl rfl rfl (by kernel_rfl) ?_
   refine Lq (.bool (decide ((k_46 : Int) < 40))) rfl rfl rfl (x_pick rfl rfl (by rw [c55]; rfl)) ?_
   refine L_nil ?_
   rcases Bool.eq_false_or_eq_true (decide ((k_46 : Int) < 40)) with c57 | c57
   ·
    have q58 := of_decide_eq_true c57
    refine W_cond_true (by show Value.bool _ = _; exact congrArg Value.bool c57) ?_
    refine W_skip ?_
    refine W_seq ?_
    refine W_block ?_
    refine W_seq ?_
    refine W_region_lit ?_
    refine Lq (ptr p17 0) rfl rfl rfl rfl ?_
    refine Lq (ptr p30 0) rfl rfl rfl rfl ?_
    refine Lq (.slice a51 acts.length cap52) rfl rfl rfl rfl ?_
    refine Lq (int (k_46 : Int)) rfl rfl rfl rfl ?_
    obtain ⟨b59, off60, cap61, cs62, T63, fz64, e65, hc66, hb67, he68⟩ := hv.open (by omega)
    cases e65
    obtain ⟨cl69, hs70, hr71⟩ := he68.at k_46 (by omega)
    obtain ⟨u72, e73, hu74⟩ := tyAct_open hr71
    subst e73
    obtain ⟨a75, cap76, e77, hc78⟩ := hu74.shape
    subst e77
    refine Lq (ptr b59 (off60 + k_46 * 3)) rfl rfl rfl (x_indexAddr' rfl sl_41 ti_46 rfl rfl (by omega)) ?_
    refine Lq (.agg #[(int ((acts[k_46]'(by omega)).what)), (int ((acts[k_46]'(by omega)).module)), (.slice a75 (((acts[k_46]'(by omega)).facts).length) cap76)]) rfl rfl rfl (x_load rfl rfl (run_loadVar_agg ti_46 ((Le.trans hle7 (Le.trans hle15 (Le.trans hle27 (Le.trans hle37 hst35.rle')))) _ _ hb67) hs70 rfl)) ?_
    have hst79 := ((hst35.front 1 rfl rfl).front 1 rfl rfl)
    refine L_callS [cA48, cB49] [] hst79 rfl rfl rfl (x_call (vs := #[(ptr p17 0), (ptr p30 0), (.agg #[(int ((acts[k_46]'(by omega)).what)), (int ((acts[k_46]'(by omega)).module)), (.slice a75 (((acts[k_46]'(by omega)).facts).length) cap76)])]) rfl rfl (by kernel_rfl) ent_18) (do_spec (v := (.slice a75 (((acts[k_46]'(by omega)).facts).length) cap76)) (acts[k_46]'(by omega)) (RdS.mono hu74 (Le.trans hle7 (Le.trans hle15 (Le.trans hle27 hle37)))) (Nat.le_trans (hmax _ (List.getElem_mem _)) (by decide)) (hst79.sats.take 2 rfl) hi38 hi39 (by omega) (by omega)) (fun v80 w81 R82 L83 hp84 hle85 hst86 => ?_)
    obtain ⟨s87, c88, c89, rfl, rfl, hreg90, href91, hl92, hc93⟩ := hp84
    have href94 : RegR R82 p30 s87 c89 := href91
    have hreg95 : Reg R82 p17 s87 c88 := hreg90
    refine Lq (.bool false) rfl rfl rfl rfl ?_
    refine L_nil ?_
    refine W_cond_false (by show Value.bool _ = _; exact congrArg Value.bool rfl) ?_
    refine W_skip ?_
    refine W_region_lit ?_
    refine Lq (int (k_46 : Int)) rfl rfl rfl rfl ?_
    refine Lq (int ((k_46 + 1 : Nat) : Int)) rfl rfl rfl (x_add_nat rfl rfl rfl (by omega)) ?_
    refine Lq (int ((k_46 + 1 : Nat) : Int)) rfl rfl rfl rfl ?_
    refine L_nil ?_
    refine ⟨acts.length - (k_46 + 1), by first | omega | (simp only [List.length_append, List.length_cons, List.length_nil]; omega), ?_⟩
    exact ⟨_, _, (k_46 + 1), s87, c88, c89, (upd_of (upd_of (upd_of (upd_of (upd_of (upd_of (upd_of (upd_of (upd_of (upd_of (upd_of (upd_of (upd_of (upd_of (upd_of (upd_of (upd_of (upd_of (upd_of (upd_of (upd_of (upd_of (upd_of (upd_of rfl rfl) rfl) rfl) rfl) rfl) rfl) rfl) rfl) rfl) rfl) rfl) rfl) rfl) rfl) rfl) rfl) rfl) rfl) rfl) rfl) rfl) rfl) rfl) rfl), hmk34, ((hst86.front 1 rfl rfl).front 1 rfl rfl), (Le.trans hle37 hle85), hreg95, href94, (by omega), (by omega), (by omega), (by omega), rfl⟩
   ·
    have q96 := of_decide_eq_false c57
    refine W_cond_false (by show Value.bool _ = _; exact congrArg Value.bool c57) ?_
    refine W_exit ?_
    refine W_seq ?_
    refine W_region_lit ?_
    refine Lq (.bool true) rfl rfl rfl rfl ?_
    refine Lq (.bool true) rfl rfl rfl rfl ?_
    refine L_guard rfl rfl rfl rfl rfl ?_
    refine Lq (ptr p17 0) rfl rfl rfl rfl ?_
    refine L_guard rfl rfl rfl rfl rfl ?_
    refine Lq (ptr p30 0) rfl rfl rfl rfl ?_
    refine L_guard rfl rfl rfl rfl rfl ?_
    have hst97 := ((hst35.front 1 rfl rfl).front 1 rfl rfl)
    refine L_callS [cA48, cB49] [] hst97 rfl rfl rfl (x_call (vs := #[(ptr p17 0), (ptr p30 0)]) rfl rfl (by kernel_rfl) ent_19) (same_spec (hst97.sats.take 2 rfl) hi38 hi39 (by omega)) (fun v98 w99 R100 L101 hp102 hle103 hst104 => ?_)
    obtain ⟨rfl, rfl⟩ := hp102
    refine Lq (.bool true) rfl rfl rfl rfl ?_
    refine Lq (.bool true) rfl rfl rfl rfl ?_
    refine L_nil ?_
    refine W_ret ?_
    refine ⟨_, _, res_run (rs := [.tmp 6]) (vs := [(.bool true)]) Try.results5 (.cons (.tmp rfl) .nil) hmk34, ?_⟩
    exact ⟨_, _, [], rfl, hst104.keepN 0 rfl, rfl, rfl⟩
  ·
   have q105 := of_decide_eq_false c55
   refine L_unwanted rfl rfl rfl rfl (by rw [c55]; try rfl) rfl rfl ?_
   refine L_unwanted rfl rfl rfl rfl (by rw [c55]; try rfl) rfl rfl ?_
   refine Lq (.bool false) rfl rfl rfl (x_pick rfl rfl (by rw [c55]; rfl)) ?_
   refine L_nil ?_
   refine W_cond_false (by show Value.bool _ = _; exact congrArg Value.bool rfl) ?_
   refine W_exit ?_
   refine W_seq ?_
   refine W_region_lit ?_
   refine Lq (.bool true) rfl rfl rfl rfl ?_
   refine Lq (.bool true) rfl rfl rfl rfl ?_
   refine L_guard rfl rfl rfl rfl rfl ?_
   refine Lq (ptr p17 0) rfl rfl rfl rfl ?_
   refine L_guard rfl rfl rfl rfl rfl ?_
   refine Lq (ptr p30 0) rfl rfl rfl rfl ?_
   refine L_guard rfl rfl rfl rfl rfl ?_
   have hst106 := ((hst35.front 1 rfl rfl).front 1 rfl rfl)
   refine L_callS [cA48, cB49] [] hst106 rfl rfl rfl (x_call (vs := #[(ptr p17 0), (ptr p30 0)]) rfl rfl (by kernel_rfl) ent_19) (same_spec (hst106.sats.take 2 rfl) hi38 hi39 (by omega)) (fun v107 w108 R109 L110 hp111 hle112 hst113 => ?_)
   obtain ⟨rfl, rfl⟩ := hp111
   refine Lq (.bool true) rfl rfl rfl rfl ?_
   refine Lq (.bool true) rfl rfl rfl rfl ?_
   refine L_nil ?_
   refine W_ret ?_
   refine ⟨_, _, res_run (rs := [.tmp 6]) (vs := [(.bool true)]) Try.results5 (.cons (.tmp rfl) .nil) hmk34, ?_⟩
   exact ⟨_, _, [], rfl, hst113.keepN 0 rfl, rfl, rfl⟩

end Go.Fx.Ytlfabjfajcbdcaa
