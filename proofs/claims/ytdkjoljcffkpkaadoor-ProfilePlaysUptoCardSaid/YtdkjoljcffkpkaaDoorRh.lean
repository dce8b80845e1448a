/-
  Chapter 14: Do of the reference, same, printed by genrg.py
-/
import Derived.Test.YtdkjoljcffkpkaaDoorRe
set_option linter.unusedSimpArgs false
set_option linter.unusedVariables false
namespace Go.Fx.YtdkjoljcffkpkaaDoor
open Go Go.Fx Go.Proofs
set_option maxRecDepth 20000

theorem ent_31 : Ent Tryd.prog 31 := fun _ _ => by kernel_rfl
theorem ent_32 : Ent Tryd.prog 32 := fun _ _ => by kernel_rfl
theorem ent_33 : Ent Tryd.prog 33 := fun _ _ => by kernel_rfl

set_option maxHeartbeats 4000000 in
theorem DoR_spec {w : World} {R c : Hp} {m : Nat} {s : PS} (x : Act) (hx : x.Ok) (hs : Sats w R [c]) (href : RefP R m s c) (hex : Ex s) (hn : s.n ≤ 999999990) :
    Calls Tryd.prog 13 #[ptr m 0, .agg #[int x.what, int x.a, int x.n]] w (Comes' w R [c] fun v' R' L' => ∃ c', v' = int ((s.act x).2 : Int) ∧ L' = [c'] ∧ RefP R' m (s.act x).1 c') := by
 have hst := Step.refl hs
 have ht9_ := x.times_le
 refine calls_of_W (n := 41) Tryd.func13 rfl Tryd.ntmps13 (Nat.le_of_ble_eq_true rfl) ?_
 refine W_seq ?_
 refine W_region_lit ?_
 refine L_new hst (v := fun b => ptr b 0) (ob := .cells #[(int x.what), (int x.a), (int x.n)] 32 (0, 0)) rfl rfl rfl (by kernel_rfl) (fun b1 w2 hst3 => ?_)
 refine Lq (int 0) rfl rfl rfl rfl ?_
 refine L_nil ?_
 refine W_seq ?_
 refine W_region_lit ?_
 refine Lq (int 0) rfl rfl rfl rfl ?_
 refine L_nil ?_
 refine W_seq ?_
 refine W_seq ?_
 refine W_region_lit ?_
 refine Lq (ptr b1 0) rfl rfl rfl (by kernel_rfl) ?_
 refine Lq (int x.what) rfl rfl rfl (x_load rfl rfl (run_loadVar_one ti_3 (hst3.b 0) rfl)) ?_
 refine L_callG hst3 (v := (int (x.what % 6))) rfl rfl rfl (x_call (vs := #[(int x.what), (int 6)]) rfl rfl (by kernel_rfl) ent_20) (Mod_spec x.what 6 hx.what (by decide) (by decide) hst3.rle') (fun w4 hst5 => ?_)
 refine L_nil ?_
 refine W_block ?_
 refine W_seq ?_
 refine W_region_lit ?_
 refine Lq (.bool ((x.what % 6) == 4)) rfl rfl rfl (by kernel_rfl) ?_
 refine Lq (.bool ((x.what % 6) == 4)) rfl rfl rfl rfl ?_
 refine L_nil ?_
 rcases Bool.eq_false_or_eq_true ((x.what % 6) == 4) with c6 | c6
 ·
  have q7 := eq_of_beq c6
  refine W_cond_true (by show Value.bool _ = _; exact congrArg Value.bool c6) ?_
  refine W_seq ?_
  refine W_region_draw [] (fun w => Le R (hp w) ∧ Le (one b1 (.cells #[(int x.what), (int x.a), (int x.n)] 32 (0, 0))) (hp w)) hmix (by decide +kernel) (fun _ _ h => h) ?_
  have hst9 := hst5.draws (w4.drawn + 1)
  generalize draws w4 (w4.drawn + 1) = w8 at hst9 ⊢
  refine LP (ptr m 0) 0 rfl rfl rfl (fun u11 => rfl) ⟨hst9.rle', hst9.g 0⟩ ?_
  refine LT (.agg #[(int x.what), (int x.a), (int x.n)]) 1 rfl rfl rfl (fun u14 hF15 => (x_load rfl rfl (run_loadVar_agg ti_32 (hF15.2 _ _ (one_self _ _)) (l := [(int x.what), (int x.a), (int x.n)]) rfl rfl))) ⟨hst9.rle', hst9.g 0⟩ ?_
  refine LT (.agg #[(int x.what), (int x.a), (int x.n)]) 3 rfl rfl rfl (fun u19 hF20 => (x_load rfl rfl (run_loadVar_agg ti_32 (hF20.2 _ _ (one_self _ _)) (l := [(int x.what), (int x.a), (int x.n)]) rfl rfl))) ⟨hst9.rle', hst9.g 0⟩ ?_
  refine LA_all [2] (by decide +kernel) (by simp) ?_
  intro i_ hi_
  simp only [List.mem_cons, List.not_mem_nil, or_false] at hi_
  subst hi_
  refine One_call (i := 2) rfl rfl rfl (Want.plain rfl) (x_call (vs := #[(.agg #[(int x.what), (int x.a), (int x.n)])]) rfl rfl (by kernel_rfl) ent_21) (Place_spec x hx hst9.rle') ?_
  rintro e26 w24 ⟨rfl, hw27⟩
  have hst25 := hst9.grown hw27
  refine ⟨_, rfl, (fun _ => ⟨hst25.rle', hst25.g 0⟩), ?_⟩
  refine LA_all [4] (by decide +kernel) (by simp) ?_
  intro i_ hi_
  simp only [List.mem_cons, List.not_mem_nil, or_false] at hi_
  subst hi_
  refine One_call (i := 4) rfl rfl rfl (Want.plain rfl) (x_call (vs := #[(.agg #[(int x.what), (int x.a), (int x.n)])]) rfl rfl (by kernel_rfl) ent_28) (Exit_spec x hx hst25.rle') ?_
  rintro e33 w31 ⟨rfl, hw34⟩
  have hst32 := hst25.grown hw34
  refine ⟨_, rfl, (fun _ => ⟨hst32.rle', hst32.g 0⟩), ?_⟩
  refine LA_all [5] (by decide +kernel) (by simp) ?_
  intro i_ hi_
  simp only [List.mem_cons, List.not_mem_nil, or_false] at hi_
  subst hi_
  have hst38 := (hst32.front 1 rfl rfl)
  refine One_callS (i := 5) [c] [one b1 (.cells #[(int x.what), (int x.a), (int x.n)] 32 (0, 0))] hst38 rfl rfl rfl (Want.plain rfl) (x_call (vs := #[(ptr m 0), (.agg #[(int x.pl.1), (int x.pl.2)]), (int x.exit)]) rfl rfl (by kernel_rfl) ent_31) (LeftR_spec (s := s) x.pl x.exit hx.exit x.exit_le (fun r_ h_ => Nat.le_trans (hex _ r_ h_) (by omega)) (hst38.sats.take 1 rfl) href (by omega)) (fun v39 w40 R41 L42 hp43 hle44 hst45 => ?_)
  obtain ⟨c46, hv47, rfl, hp48⟩ := hp43
  subst hv47
  have href49 : RefP R41 m (PS.left s x.pl x.exit).1 c46 := hp48
  refine ⟨(fun _ => ⟨(Le.trans hle44 hst45.rle'), hst45.g 1⟩), ?_⟩
  refine LA_done (by decide +kernel) ?_
  rcases Bool.eq_false_or_eq_true ((PS.left s x.pl x.exit).2) with c50 | c50
  ·
   refine W_cond_true (by show Value.bool _ = _; exact congrArg Value.bool c50) ?_
   refine W_region_lit ?_
   refine Lq (int 0) rfl rfl rfl rfl ?_
   refine Lq (int 1) rfl rfl rfl (by kernel_rfl) ?_
   refine Lq (int 1) rfl rfl rfl rfl ?_
   refine L_nil ?_
   refine W_seq ?_
   refine W_region_lit ?_
   refine Lq (int 1) rfl rfl rfl rfl ?_
   refine Lq (int 1) rfl rfl rfl rfl ?_
   refine L_nil ?_
   refine W_ret ?_
   refine ⟨_, _, res_run (rs := [.tmp 4]) (vs := [(int 1)]) Tryd.results13 (.cons (.tmp rfl) .nil) rfl, ?_⟩
   rw [act_4 (eq_of_beq c6)]
   exact ⟨_, _, _, rfl, (hst45).keepN 1 rfl, _, (by show _ = int ((bN (PS.left s x.pl x.exit).2 : Nat) : Int); rw [c50]; rfl), rfl, href49⟩
  ·
   refine W_cond_false (by show Value.bool _ = _; exact congrArg Value.bool c50) ?_
   refine W_skip ?_
   refine W_seq ?_
   refine W_region_lit ?_
   refine Lq (int 0) rfl rfl rfl rfl ?_
   refine Lq (int 0) rfl rfl rfl rfl ?_
   refine L_nil ?_
   refine W_ret ?_
   refine ⟨_, _, res_run (rs := [.tmp 4]) (vs := [(int 0)]) Tryd.results13 (.cons (.tmp rfl) .nil) rfl, ?_⟩
   rw [act_4 (eq_of_beq c6)]
   exact ⟨_, _, _, rfl, (hst45).keepN 1 rfl, _, (by show _ = int ((bN (PS.left s x.pl x.exit).2 : Nat) : Int); rw [c50]; rfl), rfl, href49⟩
 ·
  have q51 := ne_of_beq_false c6
  refine W_cond_false (by show Value.bool _ = _; exact congrArg Value.bool c6) ?_
  refine W_seq ?_
  refine W_region_lit ?_
  refine Lq (.bool ((x.what % 6) == 5)) rfl rfl rfl (by kernel_rfl) ?_
  refine Lq (.bool ((x.what % 6) == 5)) rfl rfl rfl rfl ?_
  refine L_nil ?_
  rcases Bool.eq_false_or_eq_true ((x.what % 6) == 5) with c52 | c52
  ·
   have q53 := eq_of_beq c52
   refine W_cond_true (by show Value.bool _ = _; exact congrArg Value.bool c52) ?_
   refine W_region_draw [] (fun w => Le R (hp w) ∧ Le (one b1 (.cells #[(int x.what), (int x.a), (int x.n)] 32 (0, 0))) (hp w)) hmix (by decide +kernel) (fun _ _ h => h) ?_
   have hst55 := hst5.draws (w4.drawn + 1)
   generalize draws w4 (w4.drawn + 1) = w54 at hst55 ⊢
   refine LP (ptr m 0) 0 rfl rfl rfl (fun u57 => rfl) ⟨hst55.rle', hst55.g 0⟩ ?_
   refine LT (.agg #[(int x.what), (int x.a), (int x.n)]) 1 rfl rfl rfl (fun u60 hF61 => (x_load rfl rfl (run_loadVar_agg ti_32 (hF61.2 _ _ (one_self _ _)) (l := [(int x.what), (int x.a), (int x.n)]) rfl rfl))) ⟨hst55.rle', hst55.g 0⟩ ?_
   refine LT (.agg #[(int x.what), (int x.a), (int x.n)]) 3 rfl rfl rfl (fun u65 hF66 => (x_load rfl rfl (run_loadVar_agg ti_32 (hF66.2 _ _ (one_self _ _)) (l := [(int x.what), (int x.a), (int x.n)]) rfl rfl))) ⟨hst55.rle', hst55.g 0⟩ ?_
   refine LA_all [2] (by decide +kernel) (by simp) ?_
   intro i_ hi_
   simp only [List.mem_cons, List.not_mem_nil, or_false] at hi_
   subst hi_
   refine One_call (i := 2) rfl rfl rfl (Want.plain rfl) (x_call (vs := #[(.agg #[(int x.what), (int x.a), (int x.n)])]) rfl rfl (by kernel_rfl) ent_21) (Place_spec x hx hst55.rle') ?_
   rintro e72 w70 ⟨rfl, hw73⟩
   have hst71 := hst55.grown hw73
   refine ⟨_, rfl, (fun _ => ⟨hst71.rle', hst71.g 0⟩), ?_⟩
   refine LA_all [4] (by decide +kernel) (by simp) ?_
   intro i_ hi_
   simp only [List.mem_cons, List.not_mem_nil, or_false] at hi_
   subst hi_
   refine One_call (i := 4) rfl rfl rfl (Want.plain rfl) (x_call (vs := #[(.agg #[(int x.what), (int x.a), (int x.n)])]) rfl rfl (by kernel_rfl) ent_29) (Error_spec x hx hst71.rle') ?_
   rintro e79 w77 ⟨rfl, hw80⟩
   have hst78 := hst71.grown hw80
   refine ⟨_, rfl, (fun _ => ⟨hst78.rle', hst78.g 0⟩), ?_⟩
   refine LA_all [5] (by decide +kernel) (by simp) ?_
   intro i_ hi_
   simp only [List.mem_cons, List.not_mem_nil, or_false] at hi_
   subst hi_
   have hst84 := (hst78.front 1 rfl rfl)
   refine One_callS (i := 5) [c] [one b1 (.cells #[(int x.what), (int x.a), (int x.n)] 32 (0, 0))] hst84 rfl rfl rfl (Want.plain rfl) (x_call (vs := #[(ptr m 0), (.agg #[(int x.pl.1), (int x.pl.2)]), (int x.err)]) rfl rfl (by kernel_rfl) ent_32) (FailedR_spec (s := s) x.pl x.err x.err_bd.1 x.err_bd.2 (hst84.sats.take 1 rfl) href (by omega)) (fun v85 w86 R87 L88 hp89 hle90 hst91 => ?_)
   obtain ⟨c92, hv93, rfl, hp94⟩ := hp89
   subst hv93
   have href95 : RefP R87 m (PS.failed s x.pl x.err) c92 := hp94
   refine ⟨(fun _ => ⟨(Le.trans hle90 hst91.rle'), hst91.g 1⟩), ?_⟩
   refine LA_done (by decide +kernel) ?_
   refine W_seq ?_
   refine W_region_lit ?_
   refine Lq (int 0) rfl rfl rfl rfl ?_
   refine Lq (int 0) rfl rfl rfl rfl ?_
   refine L_nil ?_
   refine W_ret ?_
   refine ⟨_, _, res_run (rs := [.tmp 4]) (vs := [(int 0)]) Tryd.results13 (.cons (.tmp rfl) .nil) rfl, ?_⟩
   rw [act_5 (eq_of_beq c52)]
   exact ⟨_, _, _, rfl, (hst91).keepN 1 rfl, _, rfl, rfl, href95⟩
  ·
   have q96 := ne_of_beq_false c52
   refine W_cond_false (by show Value.bool _ = _; exact congrArg Value.bool c52) ?_
   refine W_seq ?_
   refine W_region_lit ?_
   refine Lq (int 0) rfl rfl rfl rfl ?_
   refine L_nil ?_
   refine W_block ?_
   refine W_loop (I := fun σ w_ m_ => ∃ (σ0 : Fr) (R_ : Hp) (k_ : Nat) (n_ : Nat) (cP : Hp), σ = upd (upd (upd (upd (upd (upd (upd (upd (upd (upd (upd (upd (upd σ0 0 (ptr m 0)) 1 (.agg #[(int x.what), (int x.a), (int x.n)])) 3 (ptr b1 0)) 4 (int 0)) 5 (int (n_ : Int))) 6 (int (k_ : Int))) 7 (ptr b1 0)) 8 (int x.what)) 9 (int (x.what % 6))) 22 (.bool ((x.what % 6) == 4))) 23 (.bool ((x.what % 6) == 4))) 32 (.bool ((x.what % 6) == 5))) 33 (.bool ((x.what % 6) == 5)) ∧ mks (σ0 0) = [] ∧ Step w R [c] w_ R_ [cP, one b1 (.cells #[(int x.what), (int x.a), (int x.n)] 32 (0, 0))] ∧ Le R R_ ∧ RefP R_ m (PS.backs s x.pl k_).1 cP ∧ k_ ≤ x.times ∧ n_ ≤ k_ ∧ n_ = (PS.backs s x.pl k_).2 ∧ m_ = x.times - k_) (m := x.times - 0) ?_ ?_
   ·
    exact ⟨_, _, 0, 0, c, (upd_of (upd_of (upd_of (upd_of (upd_of (upd_of (upd_of (upd_of (upd_of (upd_of (upd_of (upd_of (upd_of rfl rfl) rfl) rfl) rfl) rfl) rfl) rfl) rfl) rfl) rfl) rfl) rfl) rfl), rfl, (hst5.front 1 rfl rfl), Le.refl _, href, (by omega), (by omega), rfl, rfl⟩
   ·
    rintro m110 σ_ w99 ⟨s105, R106, k_107, n_108, cP109, rfl, hmk97, hst98, hle100, hi101, hf102, hf103, hf104, rfl⟩
    refine W_seq ?_
    refine W_seq ?_
    refine W_region_lit ?_
    refine Lq (int (k_107 : Int)) rfl rfl rfl rfl ?_
    refine Lq (.agg #[(int x.what), (int x.a), (int x.n)]) rfl rfl rfl (x_load rfl rfl (run_loadVar_agg ti_32 (hst98.b 1) (l := [(int x.what), (int x.a), (int x.n)]) rfl rfl)) ?_
    refine L_callG hst98 (v := (int (x.times : Int))) rfl rfl rfl (x_call (vs := #[(.agg #[(int x.what), (int x.a), (int x.n)])]) rfl rfl (by kernel_rfl) ent_30) (Times_spec x hx hst98.rle') (fun w111 hst112 => ?_)
    refine Lq (.bool (decide ((k_107 : Int) < (x.times : Int)))) rfl rfl rfl (by kernel_rfl) ?_
    refine L_nil ?_
    rcases Bool.eq_false_or_eq_true (decide ((k_107 : Int) < (x.times : Int))) with c113 | c113
    ·
     have q114 := of_decide_eq_true c113
     refine W_cond_true (by show Value.bool _ = _; exact congrArg Value.bool c113) ?_
     refine W_skip ?_
     refine W_seq ?_
     refine W_block ?_
     refine W_seq ?_
     refine W_region_lit ?_
     refine Lq (ptr m 0) rfl rfl rfl rfl ?_
     refine Lq (.agg #[(int x.what), (int x.a), (int x.n)]) rfl rfl rfl (x_load rfl rfl (run_loadVar_agg ti_32 (hst112.b 1) (l := [(int x.what), (int x.a), (int x.n)]) rfl rfl)) ?_
     refine L_callG hst112 (v := (.agg #[(int x.pl.1), (int x.pl.2)])) rfl rfl rfl (x_call (vs := #[(.agg #[(int x.what), (int x.a), (int x.n)])]) rfl rfl (by kernel_rfl) ent_21) (Place_spec x hx hst112.rle') (fun w115 hst116 => ?_)
     have hst117 := hst116
     refine L_callS [cP109] [one b1 (.cells #[(int x.what), (int x.a), (int x.n)] 32 (0, 0))] hst117 rfl rfl rfl (x_call (vs := #[(ptr m 0), (.agg #[(int x.pl.1), (int x.pl.2)])]) rfl rfl (by kernel_rfl) ent_33) (BackR_spec (s := (PS.backs s x.pl k_107).1) x.pl  (hst117.sats.take 1 rfl) hi101 (by have hb_ := n_backs s x.pl k_107; have ht_ := x.times_le; omega)) (fun v118 w119 R120 L121 hp122 hle123 hst124 => ?_)
     obtain ⟨c125, hv126, rfl, hp127⟩ := hp122
     subst hv126
     have href128 : RefP R120 m (PS.back (PS.backs s x.pl k_107).1 x.pl).1 c125 := hp127
     refine L_nil ?_
     rcases Bool.eq_false_or_eq_true ((PS.back (PS.backs s x.pl k_107).1 x.pl).2) with c129 | c129
     ·
      refine W_cond_true (by show Value.bool _ = _; exact congrArg Value.bool c129) ?_
      refine W_region_lit ?_
      refine Lq (int (n_108 : Int)) rfl rfl rfl rfl ?_
      refine Lq (int ((n_108 + 1 : Nat) : Int)) rfl rfl rfl (x_add_nat rfl rfl rfl (by omega)) ?_
      refine Lq (int ((n_108 + 1 : Nat) : Int)) rfl rfl rfl rfl ?_
      refine L_nil ?_
      refine W_region_lit ?_
      refine Lq (int (k_107 : Int)) rfl rfl rfl rfl ?_
      refine Lq (int ((k_107 + 1 : Nat) : Int)) rfl rfl rfl (x_add_nat rfl rfl rfl (by omega)) ?_
      refine Lq (int ((k_107 + 1 : Nat) : Int)) rfl rfl rfl rfl ?_
      refine L_nil ?_
      refine ⟨x.times - (k_107 + 1), by first | omega | (simp only [List.length_append, List.length_cons, List.length_nil]; omega), ?_⟩
      exact ⟨_, _, (k_107 + 1), (n_108 + 1), c125, (upd_of (upd_of (upd_of (upd_of (upd_of (upd_of (upd_of (upd_of (upd_of (upd_of (upd_of (upd_of (upd_of rfl rfl) rfl) rfl) rfl) rfl) rfl) rfl) rfl) rfl) rfl) rfl) rfl) rfl), hmk97, ((hst124.front 1 rfl rfl).front 1 rfl rfl), (Le.trans hle100 hle123), href128, (by omega), (by omega), (by show _ = _ + bN _; rw [c129, hf104]; rfl), rfl⟩
     ·
      refine W_cond_false (by show Value.bool _ = _; exact congrArg Value.bool c129) ?_
      refine W_skip ?_
      refine W_region_lit ?_
      refine Lq (int (k_107 : Int)) rfl rfl rfl rfl ?_
      refine Lq (int ((k_107 + 1 : Nat) : Int)) rfl rfl rfl (x_add_nat rfl rfl rfl (by omega)) ?_
      refine Lq (int ((k_107 + 1 : Nat) : Int)) rfl rfl rfl rfl ?_
      refine L_nil ?_
      refine ⟨x.times - (k_107 + 1), by first | omega | (simp only [List.length_append, List.length_cons, List.length_nil]; omega), ?_⟩
      exact ⟨_, _, (k_107 + 1), n_108, c125, (upd_of (upd_of (upd_of (upd_of (upd_of (upd_of (upd_of (upd_of (upd_of (upd_of (upd_of (upd_of (upd_of rfl rfl) rfl) rfl) rfl) rfl) rfl) rfl) rfl) rfl) rfl) rfl) rfl) rfl), hmk97, ((hst124.front 1 rfl rfl).front 1 rfl rfl), (Le.trans hle100 hle123), href128, (by omega), (by omega), (by show _ = _ + bN _; rw [c129, hf104]; rfl), rfl⟩
    ·
     have q130 := of_decide_eq_false c113
     refine W_cond_false (by show Value.bool _ = _; exact congrArg Value.bool c113) ?_
     refine W_exit ?_
     refine W_seq ?_
     refine W_region_lit ?_
     refine Lq (int (n_108 : Int)) rfl rfl rfl rfl ?_
     refine Lq (int (n_108 : Int)) rfl rfl rfl rfl ?_
     refine L_nil ?_
     refine W_ret ?_
     refine ⟨_, _, res_run (rs := [.tmp 4]) (vs := [(int (n_108 : Int))]) Tryd.results13 (.cons (.tmp rfl) .nil) hmk97, ?_⟩
     have hk_ : k_107 = x.times := by omega
     subst hk_
     rw [act_b (ne_of_beq_false c6) (ne_of_beq_false c52)]
     exact ⟨_, _, _, rfl, (hst112).keepN 1 rfl, _, (by rw [hf104]; rfl), rfl, hi101⟩

theorem same_spec {w : World} {R : Hp} {v u : Value} {xs : List Dec} (hR : Le R (hp w)) (hv : RdS tyDec R v xs) (hu : RdS tyDec R u xs) (hmax : xs.length ≤ 1000000000) :
    Calls Tryd.prog 16 #[v, u] w fun e w' => e = .returned (.bool true) ∧ Grow w w' := by
 have hst := Step.ro hR
 refine calls_of_W (n := 54) Tryd.func16 rfl Tryd.ntmps16 (Nat.le_of_ble_eq_true rfl) ?_
 refine W_seq ?_
 refine W_region_lit ?_
 refine Lq (.bool false) rfl rfl rfl rfl ?_
 refine L_nil ?_
 refine W_seq ?_
 refine W_seq ?_
 refine W_region_lit ?_
 refine Lq v rfl rfl rfl rfl ?_
 obtain ⟨a1, cap2, e3, hc4⟩ := hv.shape
 subst e3
 refine Lq (int (xs.length : Int)) rfl rfl rfl (x_len_slice rfl sl_36 rfl) ?_
 refine Lq u rfl rfl rfl rfl ?_
 obtain ⟨a5, cap6, e7, hc8⟩ := hu.shape
 subst e7
 refine Lq (int (xs.length : Int)) rfl rfl rfl (x_len_slice rfl sl_39 rfl) ?_
 refine Lq (.bool ((xs.length : Int) != (xs.length : Int))) rfl rfl rfl (by kernel_rfl) ?_
 refine L_nil ?_
 have c9 : ((xs.length : Int) != (xs.length : Int)) = false := bne_self_eq_false _
 refine W_cond_false (by show Value.bool _ = _; exact congrArg Value.bool c9) ?_
 refine W_skip ?_
 refine W_seq ?_
 refine W_seq ?_
 refine W_region_lit ?_
 refine Lq (.slice a1 xs.length cap2) rfl rfl rfl rfl ?_
 refine Lq (int (xs.length : Int)) rfl rfl rfl (x_len_slice rfl sl_36 rfl) ?_
 refine Lq (int 0) rfl rfl rfl rfl ?_
 refine L_nil ?_
 refine W_block ?_
 refine W_loop (I := fun σ w_ m_ => ∃ (σ0 : Fr) (k_ : Nat), σ = upd (upd (upd (upd (upd (upd (upd (upd (upd (upd σ0 0 (.slice a1 xs.length cap2)) 1 (.slice a5 xs.length cap6)) 6 (.slice a1 xs.length cap2)) 7 (int (xs.length : Int))) 8 (.slice a5 xs.length cap6)) 9 (int (xs.length : Int))) 10 (.bool ((xs.length : Int) != (xs.length : Int)))) 11 (.slice a1 xs.length cap2)) 12 (int (xs.length : Int))) 13 (int (k_ : Int)) ∧ mks (σ0 0) = [] ∧ Step w R [] w_ R [] ∧ k_ ≤ xs.length ∧ m_ = xs.length - k_) (m := xs.length - 0) ?_ ?_
 ·
  exact ⟨_, 0, (upd_of (upd_of (upd_of (upd_of (upd_of (upd_of (upd_of (upd_of (upd_of (upd_of rfl rfl) rfl) rfl) rfl) rfl) rfl) rfl) rfl) rfl) rfl), rfl, hst, (by omega), rfl⟩
 ·
  rintro m18 σ_ w13 ⟨s16, k_17, rfl, hmk11, hst12, hf15, rfl⟩
  refine W_seq ?_
  refine W_region_lit ?_
  refine Lq (.bool (decide ((k_17 : Int) < (xs.length : Int)))) rfl rfl rfl (by kernel_rfl) ?_
  refine L_nil ?_
  refine W_seq ?_
  rcases Bool.eq_false_or_eq_true (decide ((k_17 : Int) < (xs.length : Int))) with c19 | c19
  ·
   have q20 := of_decide_eq_true c19
   refine W_cond_true (by show Value.bool _ = _; exact congrArg Value.bool c19) ?_
   refine W_skip ?_
   refine W_seq ?_
   refine W_block ?_
   refine W_seq ?_
   refine W_region_lit ?_
   refine Lq (int (k_17 : Int)) rfl rfl rfl rfl ?_
   refine Lq (int (k_17 : Int)) rfl rfl rfl rfl ?_
   refine L_nil ?_
   refine W_seq ?_
   refine W_region_draw [] (fun w => Le R (hp w)) hmix (by decide +kernel) (fun _ _ h => h) ?_
   have hst22 := hst12.draws (w13.drawn + 1)
   generalize draws w13 (w13.drawn + 1) = w21 at hst22 ⊢
   refine LP (.slice a1 xs.length cap2) 0 rfl rfl rfl (fun u24 => rfl) hst22.rle' ?_
   refine LP (int (k_17 : Int)) 1 rfl rfl rfl (fun u27 => rfl) hst22.rle' ?_
   obtain ⟨b32, off33, cap34, cs35, T36, fz37, e38, hc39, hb40, he41⟩ := hv.open (by omega)
   cases e38
   obtain ⟨cl42, hs43, hr44⟩ := he41.at k_17 (by omega)
   obtain ⟨d45, hd46⟩ : ∃ d_, d_ = (xs[k_17]'(by omega)) := ⟨_, rfl⟩
   rw [← hd46] at hr44
   obtain rfl := tyDec_open hr44
   refine LP (ptr b32 (off33 + k_17 * 4)) 2 rfl rfl rfl (fun u30 => (x_indexAddr' rfl sl_36 ti_49 rfl rfl (by omega))) hst22.rle' ?_
   refine LP (ptr b32 (off33 + k_17 * 4)) 3 rfl rfl rfl (fun u48 => (by kernel_rfl)) hst22.rle' ?_
   refine LT (.agg #[(int d45.pl.1), (int d45.pl.2)]) 4 rfl rfl rfl (fun u51 hF52 => (x_load rfl rfl (run_loadVar_agg ti_43 (hF52 _ _ hb40) (seg_part hs43 0 2 rfl rfl) rfl))) hst22.rle' ?_
   refine LP (.slice a5 xs.length cap6) 5 rfl rfl rfl (fun u54 => rfl) hst22.rle' ?_
   refine LP (int (k_17 : Int)) 6 rfl rfl rfl (fun u57 => rfl) hst22.rle' ?_
   obtain ⟨b62, off63, cap64, cs65, T66, fz67, e68, hc69, hb70, he71⟩ := hu.open (by omega)
   cases e68
   obtain ⟨cl72, hs73, hr74⟩ := he71.at k_17 (by omega)
   rw [← hd46] at hr74
   obtain rfl := tyDec_open hr74
   refine LP (ptr b62 (off63 + k_17 * 4)) 7 rfl rfl rfl (fun u60 => (x_indexAddr' rfl sl_39 ti_99 rfl rfl (by omega))) hst22.rle' ?_
   refine LP (ptr b62 (off63 + k_17 * 4)) 8 rfl rfl rfl (fun u76 => (by kernel_rfl)) hst22.rle' ?_
   refine LT (.agg #[(int d45.pl.1), (int d45.pl.2)]) 9 rfl rfl rfl (fun u79 hF80 => (x_load rfl rfl (run_loadVar_agg ti_43 (hF80 _ _ hb70) (seg_part hs73 0 2 rfl rfl) rfl))) hst22.rle' ?_
   refine LP (.bool false) 10 rfl rfl rfl (fun u82 => (x_neq43 rfl rfl rfl)) hst22.rle' ?_
   refine LP (.bool false) 11 rfl rfl rfl (fun u85 => rfl) hst22.rle' ?_
   refine LP (.slice (some ⟨b32, off33, none⟩) xs.length cap2) 12 rfl rfl rfl (fun u88 => rfl) hst22.rle' ?_ (hw := (Want.of rfl rfl rfl rfl rfl))
   refine LP (int (k_17 : Int)) 13 rfl rfl rfl (fun u91 => rfl) hst22.rle' ?_ (hw := (Want.of rfl rfl rfl rfl rfl))
   obtain ⟨cl96, hs97, hr98⟩ := he41.at k_17 (by omega)
   rw [← hd46] at hr98
   obtain rfl := tyDec_open hr98
   refine LP (ptr b32 (off33 + k_17 * 4)) 14 rfl rfl rfl (fun u94 => (x_indexAddr' rfl sl_36 ti_49 rfl rfl (by omega))) hst22.rle' ?_ (hw := (Want.of rfl rfl rfl rfl rfl))
   refine LP (ptr b32 (off33 + k_17 * 4 + 2)) 15 rfl rfl rfl (fun u100 => (by kernel_rfl)) hst22.rle' ?_ (hw := (Want.of rfl rfl rfl rfl rfl))
   refine LT (int d45.tier) 16 rfl rfl rfl (fun u103 hF104 => (x_load rfl rfl (run_loadVar_one ti_3 (hF104 _ _ hb40) (seg_get (j := 2) hs97 rfl)))) hst22.rle' ?_ (hw := (Want.of rfl rfl rfl rfl rfl))
   refine LP (.slice (some ⟨b62, off63, none⟩) xs.length cap6) 17 rfl rfl rfl (fun u106 => rfl) hst22.rle' ?_ (hw := (Want.of rfl rfl rfl rfl rfl))
   refine LP (int (k_17 : Int)) 18 rfl rfl rfl (fun u109 => rfl) hst22.rle' ?_ (hw := (Want.of rfl rfl rfl rfl rfl))
   obtain ⟨cl114, hs115, hr116⟩ := he71.at k_17 (by omega)
   rw [← hd46] at hr116
   obtain rfl := tyDec_open hr116
   refine LP (ptr b62 (off63 + k_17 * 4)) 19 rfl rfl rfl (fun u112 => (x_indexAddr' rfl sl_39 ti_99 rfl rfl (by omega))) hst22.rle' ?_ (hw := (Want.of rfl rfl rfl rfl rfl))
   refine LP (ptr b62 (off63 + k_17 * 4 + 2)) 20 rfl rfl rfl (fun u118 => (by kernel_rfl)) hst22.rle' ?_ (hw := (Want.of rfl rfl rfl rfl rfl))
   refine LT (int d45.tier) 21 rfl rfl rfl (fun u121 hF122 => (x_load rfl rfl (run_loadVar_one ti_3 (hF122 _ _ hb70) (seg_get (j := 2) hs115 rfl)))) hst22.rle' ?_ (hw := (Want.of rfl rfl rfl rfl rfl))
   refine LP (.bool (d45.tier != d45.tier)) 22 rfl rfl rfl (fun u124 => (by kernel_rfl)) hst22.rle' ?_ (hw := (Want.of rfl rfl rfl rfl rfl))
   refine LP (.bool (d45.tier != d45.tier)) 23 rfl rfl rfl (fun u127 => rfl) hst22.rle' ?_
   refine LP (.bool (d45.tier != d45.tier)) 24 rfl rfl rfl (fun u130 => rfl) hst22.rle' ?_
   have c133 : (d45.tier != d45.tier) = false := bne_self_eq_false _
   refine LP (.slice (some ⟨b32, off33, none⟩) xs.length cap2) 25 rfl rfl rfl (fun u136 => rfl) hst22.rle' ?_ (hw := (Want.of rfl rfl rfl rfl (by rw [c133]; rfl)))
   refine LP (int (k_17 : Int)) 26 rfl rfl rfl (fun u139 => rfl) hst22.rle' ?_ (hw := (Want.of rfl rfl rfl rfl (by rw [c133]; rfl)))
   obtain ⟨cl144, hs145, hr146⟩ := he41.at k_17 (by omega)
   rw [← hd46] at hr146
   obtain rfl := tyDec_open hr146
   refine LP (ptr b32 (off33 + k_17 * 4)) 27 rfl rfl rfl (fun u142 => (x_indexAddr' rfl sl_36 ti_49 rfl rfl (by omega))) hst22.rle' ?_ (hw := (Want.of rfl rfl rfl rfl (by rw [c133]; rfl)))
   refine LP (ptr b32 (off33 + k_17 * 4 + 3)) 28 rfl rfl rfl (fun u148 => (by kernel_rfl)) hst22.rle' ?_ (hw := (Want.of rfl rfl rfl rfl (by rw [c133]; rfl)))
   refine LT (.string d45.reason) 29 rfl rfl rfl (fun u151 hF152 => (x_load rfl rfl (run_loadVar_one ti_9 (hF152 _ _ hb40) (seg_get (j := 3) hs145 rfl)))) hst22.rle' ?_ (hw := (Want.of rfl rfl rfl rfl (by rw [c133]; rfl)))
   refine LP (.slice (some ⟨b62, off63, none⟩) xs.length cap6) 30 rfl rfl rfl (fun u154 => rfl) hst22.rle' ?_ (hw := (Want.of rfl rfl rfl rfl (by rw [c133]; rfl)))
   refine LP (int (k_17 : Int)) 31 rfl rfl rfl (fun u157 => rfl) hst22.rle' ?_ (hw := (Want.of rfl rfl rfl rfl (by rw [c133]; rfl)))
   obtain ⟨cl162, hs163, hr164⟩ := he71.at k_17 (by omega)
   rw [← hd46] at hr164
   obtain rfl := tyDec_open hr164
   refine LP (ptr b62 (off63 + k_17 * 4)) 32 rfl rfl rfl (fun u160 => (x_indexAddr' rfl sl_39 ti_99 rfl rfl (by omega))) hst22.rle' ?_ (hw := (Want.of rfl rfl rfl rfl (by rw [c133]; rfl)))
   refine LP (ptr b62 (off63 + k_17 * 4 + 3)) 33 rfl rfl rfl (fun u166 => (by kernel_rfl)) hst22.rle' ?_ (hw := (Want.of rfl rfl rfl rfl (by rw [c133]; rfl)))
   refine LT (.string d45.reason) 34 rfl rfl rfl (fun u169 hF170 => (x_load rfl rfl (run_loadVar_one ti_9 (hF170 _ _ hb70) (seg_get (j := 3) hs163 rfl)))) hst22.rle' ?_ (hw := (Want.of rfl rfl rfl rfl (by rw [c133]; rfl)))
   refine LP (.bool false) 35 rfl rfl rfl (fun u172 => (x_neqS rfl rfl rfl)) hst22.rle' ?_ (hw := (Want.of rfl rfl rfl rfl (by rw [c133]; rfl)))
   refine LP (.bool false) 36 rfl rfl rfl (fun u175 => (x_pick rfl rfl (by rw [c133]; rfl))) hst22.rle' ?_
   refine LA_done (by decide +kernel) ?_
   refine W_cond_false (by show Value.bool _ = _; exact congrArg Value.bool rfl) ?_
   refine W_skip ?_
   refine W_region_lit ?_
   refine Lq (int ((k_17 + 1 : Nat) : Int)) rfl rfl rfl (x_add_nat rfl rfl rfl (by omega)) ?_
   refine Lq (int ((k_17 + 1 : Nat) : Int)) rfl rfl rfl rfl ?_
   refine L_nil ?_
   refine ⟨xs.length - (k_17 + 1), by first | omega | (simp only [List.length_append, List.length_cons, List.length_nil]; omega), ?_⟩
   exact ⟨_, (k_17 + 1), (upd_of (upd_of (upd_of (upd_of (upd_of (upd_of (upd_of (upd_of (upd_of (upd_of rfl rfl) rfl) rfl) rfl) rfl) rfl) rfl) rfl) rfl) rfl), hmk11, hst22, (by omega), rfl⟩
  ·
   have q177 := of_decide_eq_false c19
   refine W_cond_false (by show Value.bool _ = _; exact congrArg Value.bool c19) ?_
   refine W_exit ?_
   refine W_seq ?_
   refine W_region_lit ?_
   refine Lq (.bool true) rfl rfl rfl rfl ?_
   refine L_nil ?_
   refine W_ret ?_
   refine ⟨_, _, res_run (rs := [.tmp 4]) (vs := [(.bool true)]) Tryd.results16 (.cons (.tmp rfl) .nil) hmk11, ?_⟩
   exact ⟨rfl, hst12.grow⟩

end Go.Fx.YtdkjoljcffkpkaaDoor
