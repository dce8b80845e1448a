/-
  Chapter 14: ProfileOwn, printed by geno.py
-/
import Derived.Test.YtdkjoljcffkpkaaDoorRh
set_option linter.unusedSimpArgs false
set_option linter.unusedVariables false
namespace Go.Fx.YtdkjoljcffkpkaaDoor
open Go Go.Fx Go.Proofs
set_option maxRecDepth 20000

theorem ent_11 : Ent Tryd.prog 11 := fun _ _ => by kernel_rfl
theorem ent_12 : Ent Tryd.prog 12 := fun _ _ => by kernel_rfl
theorem ent_13 : Ent Tryd.prog 13 := fun _ _ => by kernel_rfl
theorem ent_16 : Ent Tryd.prog 16 := fun _ _ => by kernel_rfl
theorem sl_24 : SL Tryd.prog 24 32 := Tryd.underlying24
theorem ti_23 : TI Tryd.prog 23 true 4 32 (.agg #[(.int .i64 0), (.int .i64 0), (.int .i64 0), (.int .i64 0)]) := ⟨by kernel_rfl, by kernel_rfl⟩

set_option maxHeartbeats 4000000 in
theorem Own_spec {w : World} {R : Hp} {a b c d : Int} {v : Value} {xs : List Act} (hs : Sats w R []) (hT : Tab R) (ha : I64 a) (hb : I64 b) (hc : I64 c) (hd : I64 d) (hv : RdS tyAct R v xs) (hax : ∀ x ∈ xs, x.Ok) :
    Calls Tryd.prog 9 #[.agg #[int a, int b, int c, int d], v] w (Comes' w R [] fun v' R' L' => v' = .bool true ∧ L' = []) := by
 have hst := Step.refl hs
 refine calls_of_W (n := 61) Tryd.func9 rfl Tryd.ntmps9 (Nat.le_of_ble_eq_true rfl) ?_
 refine W_seq ?_
 refine W_region_lit ?_
 refine L_new hst (v := fun b => ptr b 0) (ob := .cells #[(int a), (int b), (int c), (int d)] 23 (0, 0)) rfl rfl rfl (by kernel_rfl) (fun b1 w2 hst3 => ?_)
 refine Lq (.bool false) rfl rfl rfl rfl ?_
 refine L_nil ?_
 refine W_seq ?_
 refine W_region_lit ?_
 have hst4 := hst3
 refine L_callS [] [one b1 (.cells #[(int a), (int b), (int c), (int d)] 23 (0, 0))] hst4 rfl rfl rfl (x_call (vs := #[]) rfl rfl (by kernel_rfl) ent_10) (sanity_spec (hst4.sats.take 0 rfl) (hT.mono (Le.refl _))) (fun v5 w6 R7 L8 hp9 hle10 hst11 => ?_)
 obtain ⟨rfl, rfl⟩ := hp9
 refine Lq (.bool true) rfl rfl rfl rfl ?_
 refine L_nil ?_
 refine W_seq ?_
 refine W_region_lit ?_
 refine Lq (.agg #[(int a), (int b), (int c), (int d)]) rfl rfl rfl (x_load rfl rfl (run_loadVar_agg ti_23 (hst11.b 0) (l := [(int a), (int b), (int c), (int d)]) rfl rfl)) ?_
 have hst12 := hst11
 refine L_callS [] [one b1 (.cells #[(int a), (int b), (int c), (int d)] 23 (0, 0))] hst12 rfl rfl rfl (x_call (vs := #[(.agg #[(int a), (int b), (int c), (int d)])]) rfl rfl (by kernel_rfl) ent_11) (made_spec (a := a) (b := b) (c := c) (d := d) (hst12.sats.take 0 rfl) ha hb hc hd) (fun v13 w14 R15 L16 hp17 hle18 hst19 => ?_)
 obtain ⟨p20, c21, m23, rfl, rfl, hp22⟩ := hp17
 have hprof24 : Prof R15 p20 (madeP a b c d) c21 := hp22
 refine Lq (.tuple #[(ptr p20 0), (ptr m23 0)]) rfl rfl rfl rfl ?_
 refine Lq (ptr p20 0) rfl rfl rfl (by kernel_rfl) ?_
 refine Lq (ptr m23 0) rfl rfl rfl (by kernel_rfl) ?_
 refine Lq (ptr p20 0) rfl rfl rfl rfl ?_
 refine Lq (ptr m23 0) rfl rfl rfl rfl ?_
 refine L_nil ?_
 refine W_seq ?_
 refine W_seq ?_
 obtain ⟨c25, hst26, href27⟩ := RefP.start (s := madeP a b c d) (m := m23) rfl rfl (madeP_ok a b c d) (hst19.front 1 rfl rfl)
 refine W_region_lit ?_
 refine Lq (int 0) rfl rfl rfl rfl ?_
 refine L_nil ?_
 refine W_block ?_
 refine W_loop (I := fun σ w_ m_ => ∃ (σ0 : Fr) (R_ : Hp) (k_ : Nat) (S_ : PS) (cP : Hp) (cR : Hp), σ = upd (upd (upd (upd (upd (upd (upd (upd (upd (upd (upd (upd (upd (upd σ0 0 (.agg #[(int a), (int b), (int c), (int d)])) 1 v) 2 (ptr b1 0)) 4 (.bool false)) 5 (.bool true)) 6 (ptr p20 0)) 7 (ptr m23 0)) 8 (int (k_ : Int))) 11 (.bool true)) 12 (.tuple #[(ptr p20 0), (ptr m23 0)])) 13 (.agg #[(int a), (int b), (int c), (int d)])) 14 (.tuple #[(ptr p20 0), (ptr m23 0)])) 15 (ptr p20 0)) 16 (ptr m23 0) ∧ mks (σ0 0) = [] ∧ Step w R [] w_ R_ [cP, cR] ∧ Le R15 R_ ∧ Prof R_ p20 S_ cP ∧ RefP R_ m23 S_ cR ∧ k_ ≤ 60 ∧ Ex S_ ∧ S_.n ≤ 9 * k_ ∧ m_ = 60 - k_) (m := 60 - 0) ?_ ?_
 ·
  exact ⟨_, _, 0, (madeP a b c d), c21, c25, (upd_of (upd_of (upd_of (upd_of (upd_of (upd_of (upd_of (upd_of (upd_of (upd_of (upd_of (upd_of (upd_of (upd_of rfl rfl) rfl) rfl) rfl) rfl) rfl) rfl) rfl) rfl) rfl) rfl) rfl) rfl) rfl), rfl, ((hst26.front 1 rfl rfl).keepN 2 rfl), Le.refl _, hprof24, href27, (by omega), (Ex.start a b c d), (Nat.le_refl _), rfl⟩
 ·
  rintro m43 σ_ w30 ⟨s37, R38, k_39, S_40, cP41, cR42, rfl, hmk28, hst29, hle31, hi32, hi33, hf34, hf35, hf36, rfl⟩
  refine W_seq ?_
  refine W_seq ?_
  refine W_region_lit ?_
  refine Lq (int (k_39 : Int)) rfl rfl rfl rfl ?_
  refine Lq v rfl rfl rfl rfl ?_
  obtain ⟨a44, cap45, e46, hc47⟩ := hv.shape
  subst e46
  refine Lq (int (xs.length : Int)) rfl rfl rfl (x_len_slice rfl sl_24 rfl) ?_
  refine Lq (.bool (decide ((k_39 : Int) < (xs.length : Int)))) rfl rfl rfl (by kernel_rfl) ?_
  refine Lq (.bool (decide ((k_39 : Int) < (xs.length : Int)))) rfl rfl rfl rfl ?_
  rcases Bool.eq_false_or_eq_true (decide ((k_39 : Int) < (xs.length : Int))) with c48 | c48
  ·
   have q49 := of_decide_eq_true c48
   refine L_guard rfl rfl rfl rfl c48 ?_
   refine Lq (int (k_39 : Int)) rfl rfl rfl rfl ?_
   refine L_guard rfl rfl rfl rfl c48 ?_
   refine Lq (.bool (decide ((k_39 : Int) < 60))) rfl rfl rfl (by kernel_rfl) ?_
   refine Lq (.bool (decide ((k_39 : Int) < 60))) rfl rfl rfl (x_pick rfl rfl (by rw [c48]; rfl)) ?_
   refine L_nil ?_
   rcases Bool.eq_false_or_eq_true (decide ((k_39 : Int) < 60)) with c50 | c50
   ·
    have q51 := of_decide_eq_true c50
    refine W_cond_true (by show Value.bool _ = _; exact congrArg Value.bool c50) ?_
    refine W_skip ?_
    refine W_seq ?_
    refine W_block ?_
    refine W_seq ?_
    refine W_region_lit ?_
    refine Lq (ptr p20 0) rfl rfl rfl rfl ?_
    refine Lq (.slice a44 xs.length cap45) rfl rfl rfl rfl ?_
    refine Lq (int (k_39 : Int)) rfl rfl rfl rfl ?_
    obtain ⟨b52, off53, cap54, cs55, T56, fz57, e58, hc59, hb60, he61⟩ := hv.open (by omega)
    cases e58
    obtain ⟨cl62, hs63, hr64⟩ := he61.at k_39 (by omega)
    obtain ⟨x65, hx66⟩ : ∃ x_, x_ = (xs[k_39]'(by omega)) := ⟨_, rfl⟩
    rw [← hx66] at hr64
    have hx67 : Act.Ok x65 := by rw [hx66]; exact hax _ (List.getElem_mem _)
    obtain rfl := tyAct_open hr64
    refine Lq (ptr b52 (off53 + k_39 * 3)) rfl rfl rfl (x_indexAddr' rfl sl_24 ti_32 rfl rfl (by omega)) ?_
    refine Lq (.agg #[(int x65.what), (int x65.a), (int x65.n)]) rfl rfl rfl (x_load rfl rfl (run_loadVar_agg ti_32 ((Le.trans hle10 (Le.trans hle18 (Le.trans hle31 hst29.rle'))) _ _ hb60) hs63 rfl)) ?_
    have hst68 := hst29
    refine L_callS [cP41] [cR42] hst68 rfl rfl rfl (x_call (vs := #[(ptr p20 0), (.agg #[(int x65.what), (int x65.a), (int x65.n)])]) rfl rfl (by kernel_rfl) ent_12) (do_spec (s := S_40) x65 hx67 (hst68.sats.take 1 rfl) hi32 (hT.mono (Le.trans hle10 (Le.trans hle18 hle31))) (by have h_ := hf36; omega)) (fun v69 w70 R71 L72 hp73 hle74 hst75 => ?_)
    have hm76 := RefP.lift hi33 hle74
    obtain ⟨c77, rfl, rfl, hp78⟩ := hp73
    have hprof79 : Prof R71 p20 (PS.act S_40 x65).1 c77 := hp78
    refine L_nil ?_
    refine W_seq ?_
    refine W_region_lit ?_
    refine Lq (ptr m23 0) rfl rfl rfl rfl ?_
    refine Lq (.slice (some ⟨b52, off53, none⟩) xs.length cap45) rfl rfl rfl rfl ?_
    refine Lq (int (k_39 : Int)) rfl rfl rfl rfl ?_
    obtain ⟨cl80, hs81, hr82⟩ := he61.at k_39 (by omega)
    rw [← hx66] at hr82
    obtain rfl := tyAct_open hr82
    refine Lq (ptr b52 (off53 + k_39 * 3)) rfl rfl rfl (x_indexAddr' rfl sl_24 ti_32 rfl rfl (by omega)) ?_
    refine Lq (.agg #[(int x65.what), (int x65.a), (int x65.n)]) rfl rfl rfl (x_load rfl rfl (run_loadVar_agg ti_32 ((Le.trans hle10 (Le.trans hle18 (Le.trans hle31 (Le.trans hle74 hst75.rle')))) _ _ hb60) hs81 rfl)) ?_
    have hst83 := (hst75.front 1 rfl rfl)
    refine L_callS [cR42] [c77] hst83 rfl rfl rfl (x_call (vs := #[(ptr m23 0), (.agg #[(int x65.what), (int x65.a), (int x65.n)])]) rfl rfl (by kernel_rfl) ent_13) (DoR_spec (s := S_40) x65 hx67 (hst83.sats.take 1 rfl) hm76 hf35 (by have h_ := hf36; omega)) (fun v84 w85 R86 L87 hp88 hle89 hst90 => ?_)
    have hm91 := Prof.lift hprof79 hle89
    obtain ⟨c92, rfl, rfl, hp93⟩ := hp88
    have href94 : RefP R86 m23 (PS.act S_40 x65).1 c92 := hp93
    refine L_nil ?_
    refine W_seq ?_
    refine W_region_lit ?_
    refine Lq (ptr p20 0) rfl rfl rfl rfl ?_
    have hst95 := (hst90.front 1 rfl rfl)
    refine L_callS [c77] [c92] hst95 rfl rfl rfl (x_call (vs := #[(ptr p20 0)]) rfl rfl (by kernel_rfl) ent_17) (Decisions_spec (hst95.sats.take 1 rfl) hm91 (by have h_ := n_act S_40 x65; omega)) (fun v96 w97 R98 L99 hp100 hle101 hst102 => ?_)
    have hm103 := RefP.lift href94 hle101
    obtain ⟨c104, c105, rfl, ho106, hp107⟩ := hp100
    have hprof108 : Prof R98 p20 (PS.act S_40 x65).1 c105 := hp107
    refine Lq v96 rfl rfl rfl rfl ?_
    refine L_nil ?_
    refine W_seq ?_
    obtain ⟨a109, cap110, e111, hc112⟩ := ho106.value
    subst e111
    have hdl_ := Prof.decs_le hprof108
    have hna_ := n_act S_40 x65
    refine W_region_lit ?_
    refine Lq (.slice a109 ((PS.decs ((PS.act S_40 x65).1)).length) cap110) rfl rfl rfl rfl ?_
    refine Lq (int (((PS.decs ((PS.act S_40 x65).1)).length : Nat) : Int)) rfl rfl rfl (x_len_slice rfl sl_36 rfl) ?_
    refine Lq (int 0) rfl rfl rfl rfl ?_
    refine L_nil ?_
    refine W_block ?_
    refine W_loop (I := fun σ w_ m_ => ∃ (σ0 : Fr) (k_ : Nat) (ys : List Dec) (co : Hp), σ = upd (upd (upd (upd (upd (upd (upd (upd (upd (upd (upd (upd (upd (upd (upd (upd (upd (upd (upd (upd (upd (upd (upd (upd (upd (upd (upd (upd (upd (upd (upd (upd (upd (upd (upd (upd (upd (upd σ0 0 (.agg #[(int a), (int b), (int c), (int d)])) 1 (.slice (some ⟨b52, off53, none⟩) xs.length cap45)) 2 (ptr b1 0)) 4 (.bool false)) 5 (.bool true)) 6 (ptr p20 0)) 7 (ptr m23 0)) 8 (int (k_39 : Int))) 9 (.slice a109 ((PS.decs ((PS.act S_40 x65).1)).length) cap110)) 11 (.bool true)) 12 (.tuple #[(ptr p20 0), (ptr m23 0)])) 13 (.agg #[(int a), (int b), (int c), (int d)])) 14 (.tuple #[(ptr p20 0), (ptr m23 0)])) 15 (ptr p20 0)) 16 (ptr m23 0)) 17 (int (k_39 : Int))) 18 (.slice (some ⟨b52, off53, none⟩) xs.length cap45)) 19 (int (xs.length : Int))) 20 (.bool (decide ((k_39 : Int) < (xs.length : Int))))) 21 (.bool (decide ((k_39 : Int) < (xs.length : Int))))) 22 (int (k_39 : Int))) 23 (.bool (decide ((k_39 : Int) < 60)))) 24 (.bool (decide ((k_39 : Int) < 60)))) 27 (ptr p20 0)) 28 (.slice (some ⟨b52, off53, none⟩) xs.length cap45)) 29 (int (k_39 : Int))) 30 (ptr b52 (off53 + k_39 * 3))) 31 (.agg #[(int x65.what), (int x65.a), (int x65.n)])) 33 (ptr m23 0)) 34 (.slice (some ⟨b52, off53, none⟩) xs.length cap45)) 35 (int (k_39 : Int))) 36 (ptr b52 (off53 + k_39 * 3))) 37 (.agg #[(int x65.what), (int x65.a), (int x65.n)])) 39 (ptr p20 0)) 40 (.slice a109 ((PS.decs ((PS.act S_40 x65).1)).length) cap110)) 41 (.slice a109 ((PS.decs ((PS.act S_40 x65).1)).length) cap110)) 42 (int (((PS.decs ((PS.act S_40 x65).1)).length : Nat) : Int))) 43 (int (k_ : Int)) ∧ mks (σ0 0) = [] ∧ Step w R [] w_ R98 [c105, c92, co] ∧ OwnL tyDec 49 R98 (.slice a109 ((PS.decs ((PS.act S_40 x65).1)).length) cap110) ys co ∧ k_ ≤ (PS.decs ((PS.act S_40 x65).1)).length ∧ ys.length = (PS.decs ((PS.act S_40 x65).1)).length ∧ m_ = (PS.decs ((PS.act S_40 x65).1)).length - k_) (m := (PS.decs ((PS.act S_40 x65).1)).length - 0) ?_ ?_
    ·
     exact ⟨_, 0, (PS.decs ((PS.act S_40 x65).1)), c104, (upd_of (upd_of (upd_of (upd_of (upd_of (upd_of (upd_of (upd_of (upd_of (upd_of (upd_of (upd_of (upd_of (upd_of (upd_of (upd_of (upd_of (upd_of (upd_of (upd_of (upd_of (upd_of (upd_of (upd_of (upd_of (upd_of (upd_of (upd_of (upd_of (upd_of (upd_of (upd_of (upd_of (upd_of (upd_of (upd_of (upd_of (upd_of rfl rfl) rfl) rfl) rfl) rfl) rfl) rfl) rfl) rfl) rfl) rfl) rfl) rfl) rfl) rfl) rfl) rfl) rfl) rfl) rfl) rfl) rfl) rfl) rfl) rfl) rfl) rfl) rfl) rfl) rfl) rfl) rfl) rfl) rfl) rfl) rfl) rfl) rfl), hmk28, ((hst102.front 2 rfl rfl).front 2 rfl rfl), ho106, (by omega), rfl, rfl⟩
    ·
     rintro m124 σ_ w115 ⟨s120, k_121, ys122, co123, rfl, hmk113, hst114, hi117, hf118, hf119, rfl⟩
     refine W_seq ?_
     refine W_region_lit ?_
     refine Lq (.bool (decide ((k_121 : Int) < (((PS.decs ((PS.act S_40 x65).1)).length : Nat) : Int)))) rfl rfl rfl (by kernel_rfl) ?_
     refine L_nil ?_
     refine W_seq ?_
     rcases Bool.eq_false_or_eq_true (decide ((k_121 : Int) < (((PS.decs ((PS.act S_40 x65).1)).length : Nat) : Int))) with c125 | c125
     ·
      have q126 := of_decide_eq_true c125
      refine W_cond_true (by show Value.bool _ = _; exact congrArg Value.bool c125) ?_
      refine W_skip ?_
      refine W_seq ?_
      refine W_block ?_
      refine W_seq ?_
      refine W_region_lit ?_
      refine Lq (int (k_121 : Int)) rfl rfl rfl rfl ?_
      refine Lq (int (k_121 : Int)) rfl rfl rfl rfl ?_
      refine L_nil ?_
      refine W_region_lit ?_
      refine Lq (.slice a109 ((PS.decs ((PS.act S_40 x65).1)).length) cap110) rfl rfl rfl rfl ?_
      refine Lq (int (k_121 : Int)) rfl rfl rfl rfl ?_
      refine Lq (.agg #[(int 0), (int 0), (int 9), (.string ⟨#[]⟩)]) rfl rfl rfl (by kernel_rfl) ?_
      obtain ⟨b127, cap128, N129, e130, hc131, hrow132, hback133⟩ := OwnL.row hi117 (by omega)
      obtain ⟨rfl, hl134, rfl⟩ := Value.slice.inj e130
      try rw [← hl134] at hback133
      obtain ⟨cl135, cs136, hr137, hcb138, hsg139⟩ := Row.at hrow132 k_121 (by omega)
      obtain rfl := tyDec_open hr137
      refine Lq (ptr b127 (0 + k_121 * 4)) rfl rfl rfl (x_indexAddr' rfl sl_36 ti_49 rfl rfl (by omega)) ?_
      obtain ⟨c140, w141, hr142, hrow143, hst144⟩ := Row.store (P := Tryd.prog) (v := (.agg #[(int 0), (int 0), (int 9), (.string ⟨#[]⟩)])) (y := (Dec.mk (0, 0) 9 ⟨#[]⟩)) hrow132 (hst114.front 2 rfl rfl) ti_49 k_121 (by omega) (tyDec_mk _ _ _ _ _)
      refine L_skip rfl rfl (x_store rfl rfl rfl hr142) ?_
      refine L_nil ?_
      refine W_region_lit ?_
      refine Lq (int ((k_121 + 1 : Nat) : Int)) rfl rfl rfl (x_add_nat rfl rfl rfl (by omega)) ?_
      refine Lq (int ((k_121 + 1 : Nat) : Int)) rfl rfl rfl rfl ?_
      refine L_nil ?_
      refine ⟨(PS.decs ((PS.act S_40 x65).1)).length - (k_121 + 1), by first | omega | (simp only [List.length_append, List.length_cons, List.length_nil]; omega), ?_⟩
      exact ⟨_, (k_121 + 1), (ys122.set k_121 (Dec.mk (0, 0) 9 ⟨#[]⟩)), c140, (upd_of (upd_of (upd_of (upd_of (upd_of (upd_of (upd_of (upd_of (upd_of (upd_of (upd_of (upd_of (upd_of (upd_of (upd_of (upd_of (upd_of (upd_of (upd_of (upd_of (upd_of (upd_of (upd_of (upd_of (upd_of (upd_of (upd_of (upd_of (upd_of (upd_of (upd_of (upd_of (upd_of (upd_of (upd_of (upd_of (upd_of (upd_of rfl rfl) rfl) rfl) rfl) rfl) rfl) rfl) rfl) rfl) rfl) rfl) rfl) rfl) rfl) rfl) rfl) rfl) rfl) rfl) rfl) rfl) rfl) rfl) rfl) rfl) rfl) rfl) rfl) rfl) rfl) rfl) rfl) rfl) rfl) rfl) rfl) rfl) rfl), hmk113, ((hst144.front 2 rfl rfl).front 2 rfl rfl), (hback133 R98 (ys122.set k_121 (Dec.mk (0, 0) 9 ⟨#[]⟩)) c140 (by first | rfl | (simp only [List.length_set]; done) | (simp only [List.length_set]; omega) | omega) hrow143), (by omega), (by simp only [List.length_set]; omega), rfl⟩
     ·
      have q145 := of_decide_eq_false c125
      refine W_cond_false (by show Value.bool _ = _; exact congrArg Value.bool c125) ?_
      refine W_exit ?_
      refine W_region_lit ?_
      refine Lq (int (k_39 : Int)) rfl rfl rfl rfl ?_
      refine Lq (int ((k_39 + 1 : Nat) : Int)) rfl rfl rfl (x_add_nat rfl rfl rfl (by omega)) ?_
      refine Lq (int ((k_39 + 1 : Nat) : Int)) rfl rfl rfl rfl ?_
      refine L_nil ?_
      refine ⟨60 - (k_39 + 1), by first | omega | (simp only [List.length_append, List.length_cons, List.length_nil]; omega), ?_⟩
      exact ⟨_, _, (k_39 + 1), ((PS.act S_40 x65).1), c105, c92, (upd_of (upd_of (upd_of (upd_of (upd_of (upd_of (upd_of (upd_of (upd_of (upd_of (upd_of (upd_of (upd_of (upd_of rfl rfl) rfl) rfl) rfl) rfl) rfl) rfl) rfl) rfl) rfl) rfl) rfl) rfl) rfl), hmk113, (((hst114.front 1 rfl rfl).front 1 rfl rfl).keepN 2 rfl), (Le.trans hle31 (Le.trans hle74 (Le.trans hle89 hle101))), hprof108, hm103, (by omega), (Ex.act hf35 x65), (by have h_ := n_act S_40 x65; omega), rfl⟩
   ·
    have q146 := of_decide_eq_false c50
    refine W_cond_false (by show Value.bool _ = _; exact congrArg Value.bool c50) ?_
    refine W_exit ?_
    refine W_seq ?_
    obtain ⟨xsR147, vL148, vD149, cL150, cX151, cD152, hce153, hd154, hd155, hd156, hL157, hX158, hD159, _, _, _, hokR⟩ := hi33
    have hst160 := (hst29.front 1 rfl rfl)
    rw [hce153] at hst160
    have hst161 := RefP.opened hst160 hd154 hd155 hd156
    have hdl_ := Prof.decs_le hi32
    refine W_region_draw [] (fun w => Le R38 (hp w) ∧ Le (one m23 (.cells #[(int S_40.sample), (int S_40.warm), (int S_40.hot), (int S_40.cold), vL148, vD149] 41 (0, 0))) (hp w)) hmix (by decide +kernel) (fun _ _ h => h) ?_
    have hst163 := hst161.draws (w30.drawn + 1)
    generalize draws w30 (w30.drawn + 1) = w162 at hst163 ⊢
    refine LP (.bool true) 0 rfl rfl rfl (fun u165 => rfl) ⟨hst163.rle', hst163.g 0⟩ ?_
    refine LP (.bool true) 1 rfl rfl rfl (fun u168 => rfl) ⟨hst163.rle', hst163.g 0⟩ ?_
    refine LP (ptr p20 0) 2 rfl rfl rfl (fun u171 => rfl) ⟨hst163.rle', hst163.g 0⟩ ?_ (hw := (Want.of rfl rfl rfl rfl rfl))
    refine LP (ptr m23 0) 4 rfl rfl rfl (fun u176 => rfl) ⟨hst163.rle', hst163.g 0⟩ ?_ (hw := (Want.of rfl rfl rfl rfl rfl))
    refine LP (ptr m23 0) 5 rfl rfl rfl (fun u181 => rfl) ⟨hst163.rle', hst163.g 0⟩ ?_ (hw := (Want.of rfl rfl rfl rfl rfl))
    refine LP (ptr m23 5) 6 rfl rfl rfl (fun u186 => (by kernel_rfl)) ⟨hst163.rle', hst163.g 0⟩ ?_ (hw := (Want.of rfl rfl rfl rfl rfl))
    refine LT vD149 7 rfl rfl rfl (fun u191 hF192 => (x_load rfl rfl (run_loadVar_one ti_39 (hF192.2 _ _ (one_self _ _)) rfl))) ⟨hst163.rle', hst163.g 0⟩ ?_ (hw := (Want.of rfl rfl rfl rfl rfl))
    refine LA_all [3] (by decide +kernel) (by simp) ?_
    intro i_ hi_
    simp only [List.mem_cons, List.not_mem_nil, or_false] at hi_
    subst hi_
    have hst196 := (hst163.front 4 rfl rfl)
    refine One_callS (i := 3) [cP41] [one m23 (.cells #[(int S_40.sample), (int S_40.warm), (int S_40.hot), (int S_40.cold), vL148, vD149] 41 (0, 0)), cL150, cX151, cD152] hst196 rfl rfl rfl (Want.of rfl rfl rfl rfl rfl) (x_call (vs := #[(ptr p20 0)]) rfl rfl (by kernel_rfl) ent_17) (Decisions_spec (hst196.sats.take 1 rfl) hi32 (by have h_ := hf36; omega)) (fun v197 w198 R199 L200 hp201 hle202 hst203 => ?_)
    have hm204 := OwnL.mono hD159 hle202
    obtain ⟨c205, c206, rfl, ho207, hp208⟩ := hp201
    have hprof209 : Prof R199 p20 S_40 c206 := hp208
    obtain ⟨R210, hst211, hle212, hc213⟩ := Step.frz hst203
    have hm214 := Prof.lift hprof209 hle212
    have hm215 := OwnL.mono hm204 hle212
    have hrd216 := OwnL.freeze ho207 hle212 hc213
    refine ⟨(fun _ => ⟨(Le.trans hle202 (Le.trans hle212 hst211.rle')), hst211.g 1⟩), ?_⟩
    refine LA_all [8] (by decide +kernel) (by simp) ?_
    intro i_ hi_
    simp only [List.mem_cons, List.not_mem_nil, or_false] at hi_
    subst hi_
    refine One_call (i := 8) rfl rfl rfl (Want.of rfl rfl rfl rfl rfl) (x_call (vs := #[v197, vD149]) rfl rfl (by kernel_rfl) ent_16) (same_spec (xs := (PS.decs S_40)) (Le.refl _) (RdS.mono hrd216 hst211.rle') (OwnL.freeze hm215 hst211.rle' (hst211.g 4)) (by omega)) ?_
    rintro e222 w220 ⟨rfl, hw223⟩
    have hst221 := hst211.grown hw223
    refine ⟨_, rfl, (fun _ => ⟨(Le.trans hle202 (Le.trans hle212 hst221.rle')), hst221.g 1⟩), ?_⟩
    refine LP (.bool true) 9 rfl rfl rfl (fun u225 => rfl) ⟨(Le.trans hle202 (Le.trans hle212 hst221.rle')), hst221.g 1⟩ ?_
    refine LP (.bool true) 10 rfl rfl rfl (fun u228 => rfl) ⟨(Le.trans hle202 (Le.trans hle212 hst221.rle')), hst221.g 1⟩ ?_
    refine LA_done (by decide +kernel) ?_
    refine W_ret ?_
    refine ⟨_, _, res_run (rs := [.tmp 4]) (vs := [(.bool true)]) Tryd.results9 (.cons (.tmp rfl) .nil) hmk28, ?_⟩
    exact ⟨_, _, [], rfl, hst221.keepN 0 rfl, rfl, rfl⟩
  ·
   have q230 := of_decide_eq_false c48
   refine L_unwanted rfl rfl rfl rfl (by rw [c48]; try rfl) rfl rfl ?_
   refine L_unwanted rfl rfl rfl rfl (by rw [c48]; try rfl) rfl rfl ?_
   refine Lq (.bool false) rfl rfl rfl (x_pick rfl rfl (by rw [c48]; rfl)) ?_
   refine L_nil ?_
   refine W_cond_false (by show Value.bool _ = _; exact congrArg Value.bool rfl) ?_
   refine W_exit ?_
   refine W_seq ?_
   obtain ⟨xsR231, vL232, vD233, cL234, cX235, cD236, hce237, hd238, hd239, hd240, hL241, hX242, hD243, _, _, _, hokR⟩ := hi33
   have hst244 := (hst29.front 1 rfl rfl)
   rw [hce237] at hst244
   have hst245 := RefP.opened hst244 hd238 hd239 hd240
   have hdl_ := Prof.decs_le hi32
   refine W_region_draw [] (fun w => Le R38 (hp w) ∧ Le (one m23 (.cells #[(int S_40.sample), (int S_40.warm), (int S_40.hot), (int S_40.cold), vL232, vD233] 41 (0, 0))) (hp w)) hmix (by decide +kernel) (fun _ _ h => h) ?_
   have hst247 := hst245.draws (w30.drawn + 1)
   generalize draws w30 (w30.drawn + 1) = w246 at hst247 ⊢
   refine LP (.bool true) 0 rfl rfl rfl (fun u249 => rfl) ⟨hst247.rle', hst247.g 0⟩ ?_
   refine LP (.bool true) 1 rfl rfl rfl (fun u252 => rfl) ⟨hst247.rle', hst247.g 0⟩ ?_
   refine LP (ptr p20 0) 2 rfl rfl rfl (fun u255 => rfl) ⟨hst247.rle', hst247.g 0⟩ ?_ (hw := (Want.of rfl rfl rfl rfl rfl))
   refine LP (ptr m23 0) 4 rfl rfl rfl (fun u260 => rfl) ⟨hst247.rle', hst247.g 0⟩ ?_ (hw := (Want.of rfl rfl rfl rfl rfl))
   refine LP (ptr m23 0) 5 rfl rfl rfl (fun u265 => rfl) ⟨hst247.rle', hst247.g 0⟩ ?_ (hw := (Want.of rfl rfl rfl rfl rfl))
   refine LP (ptr m23 5) 6 rfl rfl rfl (fun u270 => (by kernel_rfl)) ⟨hst247.rle', hst247.g 0⟩ ?_ (hw := (Want.of rfl rfl rfl rfl rfl))
   refine LT vD233 7 rfl rfl rfl (fun u275 hF276 => (x_load rfl rfl (run_loadVar_one ti_39 (hF276.2 _ _ (one_self _ _)) rfl))) ⟨hst247.rle', hst247.g 0⟩ ?_ (hw := (Want.of rfl rfl rfl rfl rfl))
   refine LA_all [3] (by decide +kernel) (by simp) ?_
   intro i_ hi_
   simp only [List.mem_cons, List.not_mem_nil, or_false] at hi_
   subst hi_
   have hst280 := (hst247.front 4 rfl rfl)
   refine One_callS (i := 3) [cP41] [one m23 (.cells #[(int S_40.sample), (int S_40.warm), (int S_40.hot), (int S_40.cold), vL232, vD233] 41 (0, 0)), cL234, cX235, cD236] hst280 rfl rfl rfl (Want.of rfl rfl rfl rfl rfl) (x_call (vs := #[(ptr p20 0)]) rfl rfl (by kernel_rfl) ent_17) (Decisions_spec (hst280.sats.take 1 rfl) hi32 (by have h_ := hf36; omega)) (fun v281 w282 R283 L284 hp285 hle286 hst287 => ?_)
   have hm288 := OwnL.mono hD243 hle286
   obtain ⟨c289, c290, rfl, ho291, hp292⟩ := hp285
   have hprof293 : Prof R283 p20 S_40 c290 := hp292
   obtain ⟨R294, hst295, hle296, hc297⟩ := Step.frz hst287
   have hm298 := Prof.lift hprof293 hle296
   have hm299 := OwnL.mono hm288 hle296
   have hrd300 := OwnL.freeze ho291 hle296 hc297
   refine ⟨(fun _ => ⟨(Le.trans hle286 (Le.trans hle296 hst295.rle')), hst295.g 1⟩), ?_⟩
   refine LA_all [8] (by decide +kernel) (by simp) ?_
   intro i_ hi_
   simp only [List.mem_cons, List.not_mem_nil, or_false] at hi_
   subst hi_
   refine One_call (i := 8) rfl rfl rfl (Want.of rfl rfl rfl rfl rfl) (x_call (vs := #[v281, vD233]) rfl rfl (by kernel_rfl) ent_16) (same_spec (xs := (PS.decs S_40)) (Le.refl _) (RdS.mono hrd300 hst295.rle') (OwnL.freeze hm299 hst295.rle' (hst295.g 4)) (by omega)) ?_
   rintro e306 w304 ⟨rfl, hw307⟩
   have hst305 := hst295.grown hw307
   refine ⟨_, rfl, (fun _ => ⟨(Le.trans hle286 (Le.trans hle296 hst305.rle')), hst305.g 1⟩), ?_⟩
   refine LP (.bool true) 9 rfl rfl rfl (fun u309 => rfl) ⟨(Le.trans hle286 (Le.trans hle296 hst305.rle')), hst305.g 1⟩ ?_
   refine LP (.bool true) 10 rfl rfl rfl (fun u312 => rfl) ⟨(Le.trans hle286 (Le.trans hle296 hst305.rle')), hst305.g 1⟩ ?_
   refine LA_done (by decide +kernel) ?_
   refine W_ret ?_
   refine ⟨_, _, res_run (rs := [.tmp 4]) (vs := [(.bool true)]) Tryd.results9 (.cons (.tmp rfl) .nil) hmk28, ?_⟩
   exact ⟨_, _, [], rfl, hst305.keepN 0 rfl, rfl, rfl⟩

end Go.Fx.YtdkjoljcffkpkaaDoor
