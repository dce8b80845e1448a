/-
  Chapter 14: ProfilePlays, printed by genpl.py
-/
import Derived.Test.YtdkjoljcffkpkaaDoorRu
set_option linter.unusedSimpArgs false
set_option linter.unusedVariables false
namespace Go.Fx.YtdkjoljcffkpkaaDoor
open Go Go.Fx Go.Proofs
set_option maxRecDepth 20000

theorem ent_15 : Ent Tryd.prog 15 := fun _ _ => by kernel_rfl
theorem ent_19 : Ent Tryd.prog 19 := fun _ _ => by kernel_rfl

set_option maxHeartbeats 4000000 in
theorem Plays_spec {w : World} {R : Hp} {a b c d : Int} {v : Value} {xs : List Act} (hs : Sats w R []) (hT : Tab R) (ha : I64 a) (hb : I64 b) (hc : I64 c) (hd : I64 d) (hv : RdS tyAct R v xs) (hax : ∀ x ∈ xs, x.Ok) :
    Calls Tryd.prog 3 #[.agg #[int a, int b, int c, int d], v] w (Comes' w R [] fun v' R' L' => v' = .bool true ∧ L' = []) := by
 have hst := Step.refl hs
 refine calls_of_W (n := 73) Tryd.func3 rfl Tryd.ntmps3 (Nat.le_of_ble_eq_true rfl) ?_
 refine W_seq ?_
 refine W_region_lit ?_
 refine L_new hst (v := fun b => ptr b 0) (ob := .cells #[(int a), (int b), (int c), (int d)] 23 (0, 0)) rfl rfl rfl (by kernel_rfl) (fun b1 w2 hst3 => ?_)
 refine Lq (.bool false) rfl rfl rfl rfl ?_
 refine L_nil ?_
 refine W_seq ?_
 refine W_region_lit ?_
 have hst4 := hst3
 refine L_callS [] [one b1 (.cells #[(int a), (int b), (int c), (int d)] 23 (0, 0))] hst4 rfl rfl rfl (x_call (vs := #[]) rfl rfl (by kernel_rfl) ent_10) (sanity_spec (hst4.sats.take 0 rfl) (hT.mono (Le.refl _))) (fun v5 w6 R7 L8 hp9 hle10 hst11 => ?_)
 obtain ⟨rfl, rfl⟩ := hp9
 refine Lq (.bool true) rfl rfl rfl rfl ?_
 refine L_nil ?_
 refine W_seq ?_
 refine W_region_lit ?_
 refine Lq (.agg #[(int a), (int b), (int c), (int d)]) rfl rfl rfl (x_load rfl rfl (run_loadVar_agg ti_23 (hst11.b 0) (l := [(int a), (int b), (int c), (int d)]) rfl rfl)) ?_
 have hst12 := hst11
 refine L_callS [] [one b1 (.cells #[(int a), (int b), (int c), (int d)] 23 (0, 0))] hst12 rfl rfl rfl (x_call (vs := #[(.agg #[(int a), (int b), (int c), (int d)])]) rfl rfl (by kernel_rfl) ent_11) (made_spec (a := a) (b := b) (c := c) (d := d) (hst12.sats.take 0 rfl) ha hb hc hd) (fun v13 w14 R15 L16 hp17 hle18 hst19 => ?_)
 obtain ⟨p20, c21, m23, rfl, rfl, hp22⟩ := hp17
 have hprof24 : Prof R15 p20 (madeP a b c d) c21 := hp22
 refine Lq (.tuple #[(ptr p20 0), (ptr m23 0)]) rfl rfl rfl rfl ?_
 refine Lq (ptr p20 0) rfl rfl rfl (by kernel_rfl) ?_
 refine Lq (ptr m23 0) rfl rfl rfl (by kernel_rfl) ?_
 refine Lq (ptr p20 0) rfl rfl rfl rfl ?_
 refine Lq (ptr m23 0) rfl rfl rfl rfl ?_
 refine L_nil ?_
 refine W_seq ?_
 refine W_seq ?_
 obtain ⟨c25, hst26, href27⟩ := RefP.start (s := madeP a b c d) (m := m23) rfl rfl (madeP_ok a b c d) (hst19.front 1 rfl rfl)
 refine W_region_lit ?_
 refine Lq (int 0) rfl rfl rfl rfl ?_
 refine L_nil ?_
 refine W_block ?_
 refine W_loop (I := fun σ w_ m_ => ∃ (σ0 : Fr) (R_ : Hp) (k_ : Nat) (S_ : PS) (cP : Hp) (cR : Hp), σ = upd (upd (upd (upd (upd (upd (upd (upd (upd (upd (upd (upd (upd σ0 0 (.agg #[(int a), (int b), (int c), (int d)])) 1 v) 2 (ptr b1 0)) 5 (.bool true)) 6 (ptr p20 0)) 7 (ptr m23 0)) 8 (int (k_ : Int))) 11 (.bool true)) 12 (.tuple #[(ptr p20 0), (ptr m23 0)])) 13 (.agg #[(int a), (int b), (int c), (int d)])) 14 (.tuple #[(ptr p20 0), (ptr m23 0)])) 15 (ptr p20 0)) 16 (ptr m23 0) ∧ mks (σ0 0) = [] ∧ Step w R [] w_ R_ [cP, cR] ∧ Le R15 R_ ∧ Prof R_ p20 S_ cP ∧ RefP R_ m23 S_ cR ∧ k_ ≤ 60 ∧ Ex S_ ∧ S_.n ≤ 9 * k_ ∧ PlOk S_ ∧ m_ = 60 - k_) (m := 60 - 0) ?_ ?_
 ·
  exact ⟨_, _, 0, (madeP a b c d), c21, c25, (upd_of (upd_of (upd_of (upd_of (upd_of (upd_of (upd_of (upd_of (upd_of (upd_of (upd_of (upd_of (upd_of rfl rfl) rfl) rfl) rfl) rfl) rfl) rfl) rfl) rfl) rfl) rfl) rfl) rfl), rfl, ((hst26.front 1 rfl rfl).keepN 2 rfl), Le.refl _, hprof24, href27, (by omega), (Ex.start a b c d), (Nat.le_refl _), (PlOk.start a b c d), rfl⟩
 ·
  rintro m44 σ_ w30 ⟨s38, R39, k_40, S_41, cP42, cR43, rfl, hmk28, hst29, hle31, hi32, hi33, hf34, hf35, hf36, hf37, rfl⟩
  refine W_seq ?_
  refine W_seq ?_
  refine W_region_lit ?_
  refine Lq (int (k_40 : Int)) rfl rfl rfl rfl ?_
  refine Lq v rfl rfl rfl rfl ?_
  obtain ⟨a45, cap46, e47, hc48⟩ := hv.shape
  subst e47
  refine Lq (int (xs.length : Int)) rfl rfl rfl (x_len_slice rfl sl_24 rfl) ?_
  refine Lq (.bool (decide ((k_40 : Int) < (xs.length : Int)))) rfl rfl rfl (by kernel_rfl) ?_
  refine Lq (.bool (decide ((k_40 : Int) < (xs.length : Int)))) rfl rfl rfl rfl ?_
  rcases Bool.eq_false_or_eq_true (decide ((k_40 : Int) < (xs.length : Int))) with c49 | c49
  ·
   have q50 := of_decide_eq_true c49
   refine L_guard rfl rfl rfl rfl c49 ?_
   refine Lq (int (k_40 : Int)) rfl rfl rfl rfl ?_
   refine L_guard rfl rfl rfl rfl c49 ?_
   refine Lq (.bool (decide ((k_40 : Int) < 60))) rfl rfl rfl (by kernel_rfl) ?_
   refine Lq (.bool (decide ((k_40 : Int) < 60))) rfl rfl rfl (x_pick rfl rfl (by rw [c49]; rfl)) ?_
   refine L_nil ?_
   rcases Bool.eq_false_or_eq_true (decide ((k_40 : Int) < 60)) with c51 | c51
   ·
    have q52 := of_decide_eq_true c51
    refine W_cond_true (by show Value.bool _ = _; exact congrArg Value.bool c51) ?_
    refine W_skip ?_
    refine W_seq ?_
    refine W_block ?_
    refine W_seq ?_
    refine W_seq ?_
    refine W_region_draw [] (fun w => Le R39 (hp w)) hmix (by decide +kernel) (fun _ _ h => h) ?_
    have hst54 := hst29.draws (w30.drawn + 1)
    generalize draws w30 (w30.drawn + 1) = w53 at hst54 ⊢
    refine LP (ptr p20 0) 0 rfl rfl rfl (fun u56 => rfl) hst54.rle' ?_
    refine LP (.slice a45 xs.length cap46) 1 rfl rfl rfl (fun u59 => rfl) hst54.rle' ?_
    refine LP (int (k_40 : Int)) 2 rfl rfl rfl (fun u62 => rfl) hst54.rle' ?_
    obtain ⟨b67, off68, cap69, cs70, T71, fz72, e73, hc74, hb75, he76⟩ := hv.open (by omega)
    cases e73
    obtain ⟨cl77, hs78, hr79⟩ := he76.at k_40 (by omega)
    obtain ⟨x80, hx81⟩ : ∃ x_, x_ = (xs[k_40]'(by omega)) := ⟨_, rfl⟩
    rw [← hx81] at hr79
    have hx82 : Act.Ok x80 := by rw [hx81]; exact hax _ (List.getElem_mem _)
    obtain rfl := tyAct_open hr79
    refine LP (ptr b67 (off68 + k_40 * 3)) 3 rfl rfl rfl (fun u65 => (x_indexAddr' rfl sl_24 ti_32 rfl rfl (by omega))) hst54.rle' ?_
    refine LT (.agg #[(int x80.what), (int x80.a), (int x80.n)]) 4 rfl rfl rfl (fun u84 hF85 => (x_load rfl rfl (run_loadVar_agg ti_32 ((Le.trans hle10 (Le.trans hle18 (Le.trans hle31 hF85))) _ _ hb75) hs78 rfl))) hst54.rle' ?_
    refine LP (ptr m23 0) 6 rfl rfl rfl (fun u89 => rfl) hst54.rle' ?_
    refine LP (.slice (some ⟨b67, off68, none⟩) xs.length cap46) 7 rfl rfl rfl (fun u94 => rfl) hst54.rle' ?_
    refine LP (int (k_40 : Int)) 8 rfl rfl rfl (fun u99 => rfl) hst54.rle' ?_
    obtain ⟨cl106, hs107, hr108⟩ := he76.at k_40 (by omega)
    rw [← hx81] at hr108
    obtain rfl := tyAct_open hr108
    refine LP (ptr b67 (off68 + k_40 * 3)) 9 rfl rfl rfl (fun u104 => (x_indexAddr' rfl sl_24 ti_32 rfl rfl (by omega))) hst54.rle' ?_
    refine LT (.agg #[(int x80.what), (int x80.a), (int x80.n)]) 10 rfl rfl rfl (fun u112 hF113 => (x_load rfl rfl (run_loadVar_agg ti_32 ((Le.trans hle10 (Le.trans hle18 (Le.trans hle31 hF113))) _ _ hb75) hs107 rfl))) hst54.rle' ?_
    refine LA_all [5] (by decide +kernel) (by simp) ?_
    intro i_ hi_
    simp only [List.mem_cons, List.not_mem_nil, or_false] at hi_
    subst hi_
    have hst117 := hst54
    refine One_callS (i := 5) [cP42] [cR43] hst117 rfl rfl rfl (Want.plain rfl) (x_call (vs := #[(ptr p20 0), (.agg #[(int x80.what), (int x80.a), (int x80.n)])]) rfl rfl (by kernel_rfl) ent_12) (do_spec (s := S_41) x80 hx82 (hst117.sats.take 1 rfl) hi32 (hT.mono (Le.trans hle10 (Le.trans hle18 hle31))) (by have h_ := hf36; omega)) (fun v118 w119 R120 L121 hp122 hle123 hst124 => ?_)
    have hm125 := RefP.lift hi33 hle123
    obtain ⟨c126, rfl, rfl, hp127⟩ := hp122
    have hprof128 : Prof R120 p20 (PS.act S_41 x80).1 c126 := hp127
    refine ⟨(fun _ => (Le.trans hle123 hst124.rle')), ?_⟩
    refine LA_all [11] (by decide +kernel) (by simp) ?_
    intro i_ hi_
    simp only [List.mem_cons, List.not_mem_nil, or_false] at hi_
    subst hi_
    have hst132 := (hst124.front 1 rfl rfl)
    refine One_callS (i := 11) [cR43] [c126] hst132 rfl rfl rfl (Want.plain rfl) (x_call (vs := #[(ptr m23 0), (.agg #[(int x80.what), (int x80.a), (int x80.n)])]) rfl rfl (by kernel_rfl) ent_13) (DoR_spec (s := S_41) x80 hx82 (hst132.sats.take 1 rfl) hm125 hf35 (by have h_ := hf36; omega)) (fun v133 w134 R135 L136 hp137 hle138 hst139 => ?_)
    have hm140 := Prof.lift hprof128 hle138
    obtain ⟨c141, rfl, rfl, hp142⟩ := hp137
    have href143 : RefP R135 m23 (PS.act S_41 x80).1 c141 := hp142
    refine ⟨(fun _ => (Le.trans hle123 (Le.trans hle138 hst139.rle'))), ?_⟩
    refine LP (.bool ((((PS.act S_41 x80).2 : Nat) : Int) != (((PS.act S_41 x80).2 : Nat) : Int))) 12 rfl rfl rfl (fun u145 => (by kernel_rfl)) (Le.trans hle123 (Le.trans hle138 hst139.rle')) ?_
    refine LP (.bool ((((PS.act S_41 x80).2 : Nat) : Int) != (((PS.act S_41 x80).2 : Nat) : Int))) 13 rfl rfl rfl (fun u148 => rfl) (Le.trans hle123 (Le.trans hle138 hst139.rle')) ?_
    have c151 : ((((PS.act S_41 x80).2 : Nat) : Int) != (((PS.act S_41 x80).2 : Nat) : Int)) = false := bne_self_eq_false _
    refine LP (ptr p20 0) 14 rfl rfl rfl (fun u154 => rfl) (Le.trans hle123 (Le.trans hle138 hst139.rle')) ?_ (hw := (Want.of rfl rfl rfl rfl (by rw [c151]; rfl)))
    refine LP (ptr m23 0) 16 rfl rfl rfl (fun u159 => rfl) (Le.trans hle123 (Le.trans hle138 hst139.rle')) ?_ (hw := (Want.of rfl rfl rfl rfl (by rw [c151]; rfl)))
    refine LA_all [15] (by decide +kernel) (by simp) ?_
    intro i_ hi_
    simp only [List.mem_cons, List.not_mem_nil, or_false] at hi_
    subst hi_
    refine One_call (i := 15) rfl rfl rfl (Want.of rfl rfl rfl rfl (by rw [c151]; rfl)) (x_call (vs := #[(ptr p20 0)]) rfl rfl (by kernel_rfl) ent_14) (Text_canon hm140 (hst139.g 1) (hT.mono (Le.trans hle10 (Le.trans hle18 (Le.trans hle31 (Le.trans hle123 (Le.trans hle138 hst139.rle')))))) (by have h_ := n_act S_41 x80; omega) (PlOk.act hf37 x80)) ?_
    rintro e166 w164 ⟨rfl, hw167⟩
    have hst165 := hst139.grown hw167
    refine ⟨_, rfl, (fun _ => (Le.trans hle123 (Le.trans hle138 hst165.rle'))), ?_⟩
    refine LA_all [17] (by decide +kernel) (by simp) ?_
    intro i_ hi_
    simp only [List.mem_cons, List.not_mem_nil, or_false] at hi_
    subst hi_
    refine One_call (i := 17) rfl rfl rfl (Want.of rfl rfl rfl rfl (by rw [c151]; rfl)) (x_call (vs := #[(ptr m23 0)]) rfl rfl (by kernel_rfl) ent_15) (TextR_spec href143 (hst165.g 0) hst165.rle' (by have h_ := n_act S_41 x80; omega) (PlOk.act hf37 x80)) ?_
    rintro e173 w171 ⟨rfl, hw174⟩
    have hst172 := hst165.grown hw174
    refine ⟨_, rfl, (fun _ => (Le.trans hle123 (Le.trans hle138 hst172.rle'))), ?_⟩
    refine LP (.bool false) 18 rfl rfl rfl (fun u176 => (x_neqS rfl rfl rfl)) (Le.trans hle123 (Le.trans hle138 hst172.rle')) ?_ (hw := (Want.of rfl rfl rfl rfl (by rw [c151]; rfl)))
    refine LP (.bool false) 19 rfl rfl rfl (fun u179 => (x_pick rfl rfl (by rw [c151]; rfl))) (Le.trans hle123 (Le.trans hle138 hst172.rle')) ?_
    refine LP (.bool false) 20 rfl rfl rfl (fun u182 => rfl) (Le.trans hle123 (Le.trans hle138 hst172.rle')) ?_
    refine LP (ptr p20 0) 21 rfl rfl rfl (fun u185 => rfl) (Le.trans hle123 (Le.trans hle138 hst172.rle')) ?_ (hw := (Want.of rfl rfl rfl rfl rfl))
    refine LP (ptr m23 0) 23 rfl rfl rfl (fun u190 => rfl) (Le.trans hle123 (Le.trans hle138 hst172.rle')) ?_ (hw := (Want.of rfl rfl rfl rfl rfl))
    refine LP (ptr m23 0) 24 rfl rfl rfl (fun u195 => rfl) (Le.trans hle123 (Le.trans hle138 hst172.rle')) ?_ (hw := (Want.of rfl rfl rfl rfl rfl))
    refine LP (ptr m23 5) 25 rfl rfl rfl (fun u200 => (by kernel_rfl)) (Le.trans hle123 (Le.trans hle138 hst172.rle')) ?_ (hw := (Want.of rfl rfl rfl rfl rfl))
    refine LA_all [22, 26] (by decide +kernel) (by simp) ?_
    intro i_ hi_
    simp only [List.mem_cons, List.not_mem_nil, or_false] at hi_
    rcases hi_ with rfl | rfl
    ·
     have hdl_ := Prof.decs_le hm140
     have hna_ := n_act S_41 x80
     have hst207 := (hst172.front 1 rfl rfl)
     refine One_callS (i := 22) [c126] [c141] hst207 rfl rfl rfl (Want.of rfl rfl rfl rfl rfl) (x_call (vs := #[(ptr p20 0)]) rfl rfl (by kernel_rfl) ent_17) (Decisions_spec (hst207.sats.take 1 rfl) hm140 (by have h_ := n_act S_41 x80; omega)) (fun v208 w209 R210 L211 hp212 hle213 hst214 => ?_)
     have hm215 := RefP.lift href143 hle213
     obtain ⟨c216, c217, rfl, ho218, hp219⟩ := hp212
     have hprof220 : Prof R210 p20 (PS.act S_41 x80).1 c217 := hp219
     obtain ⟨R221, hst222, hle223, hc224⟩ := Step.frz hst214
     have hm225 := Prof.lift hprof220 hle223
     have hm226 := RefP.lift hm215 hle223
     have hrd227 := OwnL.freeze ho218 hle223 hc224
     refine ⟨(fun _ => (Le.trans hle123 (Le.trans hle138 (Le.trans hle213 (Le.trans hle223 hst222.rle'))))), ?_⟩
     refine LA_all [26] (by decide +kernel) (by simp) ?_
     intro i_ hi_
     simp only [List.mem_cons, List.not_mem_nil, or_false] at hi_
     subst hi_
     obtain ⟨xsR231, vL232, vD233, cL234, cX235, cD236, hce237, hd238, hd239, hd240, hL241, hX242, hD243, hsr244, hag245, hln246, hok247⟩ := hm226
     have hst248 := (hst222.front 1 rfl rfl)
     rw [hce237] at hst248
     have hst249 := RefP.opened hst248 hd238 hd239 hd240
     refine One_val (i := 26) (v := vD233) rfl rfl rfl (Want.of rfl rfl rfl rfl rfl) (x_load rfl rfl (run_loadVar_one ti_39 (hst249.b 0) rfl)) (fun _ => (Le.trans hle123 (Le.trans hle138 (Le.trans hle213 (Le.trans hle223 hst249.rle'))))) ?_
     refine LA_all [27] (by decide +kernel) (by simp) ?_
     intro i_ hi_
     simp only [List.mem_cons, List.not_mem_nil, or_false] at hi_
     subst hi_
     refine One_call (i := 27) rfl rfl rfl (Want.of rfl rfl rfl rfl rfl) (x_call (vs := #[v208, vD233]) rfl rfl (by kernel_rfl) ent_16) (same_spec (xs := (PS.decs ((PS.act S_41 x80).1))) (Le.refl _) (RdS.mono hrd227 hst249.rle') (OwnL.freeze hD243 hst249.rle' (hst249.g 3)) (by omega)) ?_
     rintro e255 w253 ⟨rfl, hw256⟩
     have hst254 := hst249.grown hw256
     refine ⟨_, rfl, (fun _ => (Le.trans hle123 (Le.trans hle138 (Le.trans hle213 (Le.trans hle223 hst254.rle'))))), ?_⟩
     refine LP (.bool false) 28 rfl rfl rfl (fun u258 => rfl) (Le.trans hle123 (Le.trans hle138 (Le.trans hle213 (Le.trans hle223 hst254.rle')))) ?_ (hw := (Want.of rfl rfl rfl rfl rfl))
     refine LP (.bool false) 29 rfl rfl rfl (fun u261 => rfl) (Le.trans hle123 (Le.trans hle138 (Le.trans hle213 (Le.trans hle223 hst254.rle')))) ?_
     refine LA_done (by decide +kernel) ?_
     refine W_cond_false (by show Value.bool _ = _; exact congrArg Value.bool rfl) ?_
     refine W_skip ?_
     refine W_seq ?_
     obtain ⟨c263, hst264, href265⟩ := RefP.close (s := (PS.act S_41 x80).1) (xs := xsR231) ((((hst254.front 3 rfl rfl).front 3 rfl rfl).front 3 rfl rfl).front 3 rfl rfl) hL241 hX242 hD243 hsr244 hag245 hln246 hok247
     refine W_region_lit ?_
     refine Lq (int 0) rfl rfl rfl rfl ?_
     refine L_nil ?_
     refine W_block ?_
     refine W_loop (I := fun σ w_ m_ => ∃ (σ0 : Fr) (R_ : Hp) (f_ : Nat) (cP : Hp) (cR : Hp), σ = upd (upd (upd (upd (upd (upd (upd (upd (upd (upd (upd (upd (upd (upd (upd (upd (upd (upd (upd (upd (upd (upd (upd (upd (upd (upd (upd (upd (upd (upd (upd (upd (upd (upd (upd (upd (upd (upd (upd (upd (upd (upd (upd (upd (upd (upd (upd (upd (upd (upd (upd (upd σ0 0 (.agg #[(int a), (int b), (int c), (int d)])) 1 (.slice (some ⟨b67, off68, none⟩) xs.length cap46)) 2 (ptr b1 0)) 5 (.bool true)) 6 (ptr p20 0)) 7 (ptr m23 0)) 8 (int (k_40 : Int))) 9 (int (f_ : Int))) 11 (.bool true)) 12 (.tuple #[(ptr p20 0), (ptr m23 0)])) 13 (.agg #[(int a), (int b), (int c), (int d)])) 14 (.tuple #[(ptr p20 0), (ptr m23 0)])) 15 (ptr p20 0)) 16 (ptr m23 0)) 17 (int (k_40 : Int))) 18 (.slice (some ⟨b67, off68, none⟩) xs.length cap46)) 19 (int (xs.length : Int))) 20 (.bool (decide ((k_40 : Int) < (xs.length : Int))))) 21 (.bool (decide ((k_40 : Int) < (xs.length : Int))))) 22 (int (k_40 : Int))) 23 (.bool (decide ((k_40 : Int) < 60)))) 24 (.bool (decide ((k_40 : Int) < 60)))) 27 (ptr p20 0)) 28 (.slice (some ⟨b67, off68, none⟩) xs.length cap46)) 29 (int (k_40 : Int))) 30 (ptr b67 (off68 + k_40 * 3))) 31 (.agg #[(int x80.what), (int x80.a), (int x80.n)])) 32 (int (((PS.act S_41 x80).2 : Nat) : Int))) 33 (ptr m23 0)) 34 (.slice (some ⟨b67, off68, none⟩) xs.length cap46)) 35 (int (k_40 : Int))) 36 (ptr b67 (off68 + k_40 * 3))) 37 (.agg #[(int x80.what), (int x80.a), (int x80.n)])) 38 (int (((PS.act S_41 x80).2 : Nat) : Int))) 39 (.bool ((((PS.act S_41 x80).2 : Nat) : Int) != (((PS.act S_41 x80).2 : Nat) : Int)))) 40 (.bool ((((PS.act S_41 x80).2 : Nat) : Int) != (((PS.act S_41 x80).2 : Nat) : Int)))) 41 (ptr p20 0)) 42 (.string (txt ((PS.act S_41 x80).1)))) 43 (ptr m23 0)) 44 (.string (txt ((PS.act S_41 x80).1)))) 45 (.bool false)) 46 (.bool false)) 47 (.bool false)) 48 (ptr p20 0)) 49 v208) 50 (ptr m23 0)) 51 (ptr m23 0)) 52 (ptr m23 5)) 53 vD233) 54 (.bool true)) 55 (.bool false)) 56 (.bool false) ∧ mks (σ0 0) = [] ∧ Step w R [] w_ R_ [cP, cR] ∧ Le R221 R_ ∧ Prof R_ p20 (PS.act S_41 x80).1 cP ∧ RefP R_ m23 (PS.act S_41 x80).1 cR ∧ f_ ≤ 3 ∧ m_ = 3 - f_) (m := 3 - 0) ?_ ?_
     ·
      exact ⟨_, _, 0, c217, c263, (upd_of (upd_of (upd_of (upd_of (upd_of (upd_of (upd_of (upd_of (upd_of (upd_of (upd_of (upd_of (upd_of (upd_of (upd_of (upd_of (upd_of (upd_of (upd_of (upd_of (upd_of (upd_of (upd_of (upd_of (upd_of (upd_of (upd_of (upd_of (upd_of (upd_of (upd_of (upd_of (upd_of (upd_of (upd_of (upd_of (upd_of (upd_of (upd_of (upd_of (upd_of (upd_of (upd_of (upd_of (upd_of (upd_of (upd_of (upd_of (upd_of (upd_of (upd_of (upd_of rfl rfl) rfl) rfl) rfl) rfl) rfl) rfl) rfl) rfl) rfl) rfl) rfl) rfl) rfl) rfl) rfl) rfl) rfl) rfl) rfl) rfl) rfl) rfl) rfl) rfl) rfl) rfl) rfl) rfl) rfl) rfl) rfl) rfl) rfl) rfl) rfl) rfl) rfl) rfl) rfl) rfl) rfl) rfl) rfl) rfl) rfl) rfl) rfl) rfl) rfl) rfl) rfl), hmk28, (hst264.front 1 rfl rfl), Le.refl _, hm225, href265, (by omega), rfl⟩
     ·
      rintro m278 σ_ w268 ⟨s273, R274, f_275, cP276, cR277, rfl, hmk266, hst267, hle269, hi270, hi271, hf272, rfl⟩
      refine W_seq ?_
      refine W_seq ?_
      refine W_region_lit ?_
      refine Lq (int (f_275 : Int)) rfl rfl rfl rfl ?_
      refine Lq (.bool (decide ((f_275 : Int) < 3))) rfl rfl rfl (by kernel_rfl) ?_
      refine L_nil ?_
      rcases Bool.eq_false_or_eq_true (decide ((f_275 : Int) < 3)) with c279 | c279
      ·
       have q280 := of_decide_eq_true c279
       refine W_cond_true (by show Value.bool _ = _; exact congrArg Value.bool c279) ?_
       refine W_skip ?_
       refine W_seq ?_
       refine W_block ?_
       refine W_seq ?_
       refine W_region_lit ?_
       refine Lq (int (f_275 : Int)) rfl rfl rfl rfl ?_
       refine Lq (int (k_40 : Int)) rfl rfl rfl rfl ?_
       refine Lq (int (((k_40 % 4) : Nat) : Int)) rfl rfl rfl (x_rem_nat rfl rfl rfl (by omega)) ?_
       refine Lq (.agg #[(int (f_275 : Int)), (int (((k_40 % 4) : Nat) : Int))]) rfl rfl rfl (by kernel_rfl) ?_
       refine L_new hst267 (v := fun b => ptr b 0) (ob := .cells #[(int 0), (int 0)] 43 (0, 0)) rfl rfl rfl (by kernel_rfl) (fun b281 w282 hst283 => ?_)
       refine L_store hst283 0 ti_43 rfl rfl rfl rfl rfl rfl rfl rfl rfl rfl rfl (fun w284 hst285 => ?_)
       change Step _ _ _ _ _ [one b281 (.cells #[(int (f_275 : Int)), (int (((k_40 % 4) : Nat) : Int))] 43 (0, 0)), cP276, cR277] at hst285
       refine L_nil ?_
       refine W_seq ?_
       refine W_region_draw [] (fun w => Le R274 (hp w) ∧ Le (one b281 (.cells #[(int (f_275 : Int)), (int (((k_40 % 4) : Nat) : Int))] 43 (0, 0))) (hp w)) hmix (by decide +kernel) (fun _ _ h => h) ?_
       have hst287 := hst285.draws (w284.drawn + 1)
       generalize draws w284 (w284.drawn + 1) = w286 at hst287 ⊢
       refine LP (ptr p20 0) 0 rfl rfl rfl (fun u289 => rfl) ⟨hst287.rle', hst287.g 0⟩ ?_
       refine LT (.agg #[(int (f_275 : Int)), (int (((k_40 % 4) : Nat) : Int))]) 1 rfl rfl rfl (fun u292 hF293 => (x_load rfl rfl (run_loadVar_agg ti_43 (hF293.2 _ _ (one_self _ _)) (l := [(int (f_275 : Int)), (int (((k_40 % 4) : Nat) : Int))]) rfl rfl))) ⟨hst287.rle', hst287.g 0⟩ ?_
       refine LP (ptr m23 0) 3 rfl rfl rfl (fun u297 => rfl) ⟨hst287.rle', hst287.g 0⟩ ?_
       refine LT (.agg #[(int (f_275 : Int)), (int (((k_40 % 4) : Nat) : Int))]) 4 rfl rfl rfl (fun u302 hF303 => (x_load rfl rfl (run_loadVar_agg ti_43 (hF303.2 _ _ (one_self _ _)) (l := [(int (f_275 : Int)), (int (((k_40 % 4) : Nat) : Int))]) rfl rfl))) ⟨hst287.rle', hst287.g 0⟩ ?_
       refine LA_all [2] (by decide +kernel) (by simp) ?_
       intro i_ hi_
       simp only [List.mem_cons, List.not_mem_nil, or_false] at hi_
       subst hi_
       have hst307 := (hst287.front 1 rfl rfl)
       refine One_callS (i := 2) [cP276] [one b281 (.cells #[(int (f_275 : Int)), (int (((k_40 % 4) : Nat) : Int))] 43 (0, 0)), cR277] hst307 rfl rfl rfl (Want.plain rfl) (x_call (vs := #[(ptr p20 0), (.agg #[(int (f_275 : Int)), (int (((k_40 % 4) : Nat) : Int))])]) rfl rfl (by kernel_rfl) ent_18) (Tier_spec (s := (PS.act S_41 x80).1) ((f_275 : Int), (((k_40 % 4) : Nat) : Int))  (hst307.sats.take 1 rfl) hi270 (hT.mono (Le.trans hle10 (Le.trans hle18 (Le.trans hle31 (Le.trans hle123 (Le.trans hle138 (Le.trans hle213 (Le.trans hle223 hle269)))))))) (by have h_ := n_act S_41 x80; omega)) (fun v308 w309 R310 L311 hp312 hle313 hst314 => ?_)
       have hm315 := RefP.lift hi271 hle313
       obtain ⟨c316, hv317, rfl, hp318⟩ := hp312
       subst hv317
       have hprof319 : Prof R310 p20 (PS.act S_41 x80).1 c316 := hp318
       refine ⟨(fun _ => ⟨(Le.trans hle313 hst314.rle'), hst314.g 1⟩), ?_⟩
       refine LA_all [5] (by decide +kernel) (by simp) ?_
       intro i_ hi_
       simp only [List.mem_cons, List.not_mem_nil, or_false] at hi_
       subst hi_
       have hst323 := (hst314.front 2 rfl rfl)
       refine One_callS (i := 5) [cR277] [c316, one b281 (.cells #[(int (f_275 : Int)), (int (((k_40 % 4) : Nat) : Int))] 43 (0, 0))] hst323 rfl rfl rfl (Want.plain rfl) (x_call (vs := #[(ptr m23 0), (.agg #[(int (f_275 : Int)), (int (((k_40 % 4) : Nat) : Int))])]) rfl rfl (by kernel_rfl) ent_19) (TierR_spec (s := (PS.act S_41 x80).1) ((f_275 : Int), (((k_40 % 4) : Nat) : Int))  (hst323.sats.take 1 rfl) hm315 (by have h_ := n_act S_41 x80; omega)) (fun v324 w325 R326 L327 hp328 hle329 hst330 => ?_)
       have hm331 := Prof.lift hprof319 hle329
       obtain ⟨c332, hv333, rfl, hp334⟩ := hp328
       subst hv333
       have href335 : RefP R326 m23 (PS.act S_41 x80).1 c332 := hp334
       refine ⟨(fun _ => ⟨(Le.trans hle313 (Le.trans hle329 hst330.rle')), hst330.g 2⟩), ?_⟩
       refine LP (.bool ((PS.tier (PS.act S_41 x80).1 ((f_275 : Int), (((k_40 % 4) : Nat) : Int))) != (PS.tier (PS.act S_41 x80).1 ((f_275 : Int), (((k_40 % 4) : Nat) : Int))))) 6 rfl rfl rfl (fun u337 => (by kernel_rfl)) ⟨(Le.trans hle313 (Le.trans hle329 hst330.rle')), hst330.g 2⟩ ?_
       refine LA_done (by decide +kernel) ?_
       have c339 : ((PS.tier (PS.act S_41 x80).1 ((f_275 : Int), (((k_40 % 4) : Nat) : Int))) != (PS.tier (PS.act S_41 x80).1 ((f_275 : Int), (((k_40 % 4) : Nat) : Int)))) = false := bne_self_eq_false _
       refine W_cond_false (by show Value.bool _ = _; exact congrArg Value.bool c339) ?_
       refine W_skip ?_
       refine W_region_lit ?_
       refine Lq (int (f_275 : Int)) rfl rfl rfl rfl ?_
       refine Lq (int ((f_275 + 1 : Nat) : Int)) rfl rfl rfl (x_add_nat rfl rfl rfl (by omega)) ?_
       refine Lq (int ((f_275 + 1 : Nat) : Int)) rfl rfl rfl rfl ?_
       refine L_nil ?_
       refine ⟨3 - (f_275 + 1), by first | omega | (simp only [List.length_append, List.length_cons, List.length_nil]; omega), ?_⟩
       exact ⟨_, _, (f_275 + 1), c316, c332, (upd_of (upd_of (upd_of (upd_of (upd_of (upd_of (upd_of (upd_of (upd_of (upd_of (upd_of (upd_of (upd_of (upd_of (upd_of (upd_of (upd_of (upd_of (upd_of (upd_of (upd_of (upd_of (upd_of (upd_of (upd_of (upd_of (upd_of (upd_of (upd_of (upd_of (upd_of (upd_of (upd_of (upd_of (upd_of (upd_of (upd_of (upd_of (upd_of (upd_of (upd_of (upd_of (upd_of (upd_of (upd_of (upd_of (upd_of (upd_of (upd_of (upd_of (upd_of (upd_of rfl rfl) rfl) rfl) rfl) rfl) rfl) rfl) rfl) rfl) rfl) rfl) rfl) rfl) rfl) rfl) rfl) rfl) rfl) rfl) rfl) rfl) rfl) rfl) rfl) rfl) rfl) rfl) rfl) rfl) rfl) rfl) rfl) rfl) rfl) rfl) rfl) rfl) rfl) rfl) rfl) rfl) rfl) rfl) rfl) rfl) rfl) rfl) rfl) rfl) rfl) rfl) rfl), hmk266, ((hst330.front 1 rfl rfl).keepN 2 rfl), (Le.trans hle269 (Le.trans hle313 hle329)), hm331, href335, (by omega), rfl⟩
      ·
       have q341 := of_decide_eq_false c279
       refine W_cond_false (by show Value.bool _ = _; exact congrArg Value.bool c279) ?_
       refine W_exit ?_
       refine W_region_lit ?_
       refine Lq (int (k_40 : Int)) rfl rfl rfl rfl ?_
       refine Lq (int ((k_40 + 1 : Nat) : Int)) rfl rfl rfl (x_add_nat rfl rfl rfl (by omega)) ?_
       refine Lq (int ((k_40 + 1 : Nat) : Int)) rfl rfl rfl rfl ?_
       refine L_nil ?_
       refine ⟨60 - (k_40 + 1), by first | omega | (simp only [List.length_append, List.length_cons, List.length_nil]; omega), ?_⟩
       exact ⟨_, _, (k_40 + 1), ((PS.act S_41 x80).1), cP276, cR277, (upd_of (upd_of (upd_of (upd_of (upd_of (upd_of (upd_of (upd_of (upd_of (upd_of (upd_of (upd_of (upd_of rfl rfl) rfl) rfl) rfl) rfl) rfl) rfl) rfl) rfl) rfl) rfl) rfl) rfl), hmk266, ((hst267.front 1 rfl rfl).front 1 rfl rfl), (Le.trans hle31 (Le.trans hle123 (Le.trans hle138 (Le.trans hle213 (Le.trans hle223 hle269))))), hi270, hi271, (by omega), (Ex.act hf35 x80), (by have h_ := n_act S_41 x80; omega), (PlOk.act hf37 x80), rfl⟩
    ·
     obtain ⟨xsR342, vL343, vD344, cL345, cX346, cD347, hce348, hd349, hd350, hd351, hL352, hX353, hD354, hsr355, hag356, hln357, hok358⟩ := href143
     have hst359 := hst172
     rw [hce348] at hst359
     have hst360 := RefP.opened hst359 hd349 hd350 hd351
     refine One_val (i := 26) (v := vD344) rfl rfl rfl (Want.of rfl rfl rfl rfl rfl) (x_load rfl rfl (run_loadVar_one ti_39 (hst360.b 0) rfl)) (fun _ => (Le.trans hle123 (Le.trans hle138 hst360.rle'))) ?_
     refine LA_all [22] (by decide +kernel) (by simp) ?_
     intro i_ hi_
     simp only [List.mem_cons, List.not_mem_nil, or_false] at hi_
     subst hi_
     have hdl_ := Prof.decs_le hm140
     have hna_ := n_act S_41 x80
     have hst364 := (hst360.front 4 rfl rfl)
     refine One_callS (i := 22) [c126] [one m23 (.cells #[(int (((PS.act S_41 x80).1).sample)), (int (((PS.act S_41 x80).1).warm)), (int (((PS.act S_41 x80).1).hot)), (int (((PS.act S_41 x80).1).cold)), vL343, vD344] 41 (0, 0)), cL345, cX346, cD347] hst364 rfl rfl rfl (Want.of rfl rfl rfl rfl rfl) (x_call (vs := #[(ptr p20 0)]) rfl rfl (by kernel_rfl) ent_17) (Decisions_spec (hst364.sats.take 1 rfl) hm140 (by have h_ := n_act S_41 x80; omega)) (fun v365 w366 R367 L368 hp369 hle370 hst371 => ?_)
     have hm372 := OwnL.mono hL352 hle370
     have hm373 := Exs.mono hX353 hle370
     have hm374 := OwnL.mono hD354 hle370
     obtain ⟨c375, c376, rfl, ho377, hp378⟩ := hp369
     have hprof379 : Prof R367 p20 (PS.act S_41 x80).1 c376 := hp378
     obtain ⟨R380, hst381, hle382, hc383⟩ := Step.frz hst371
     have hm384 := Prof.lift hprof379 hle382
     have hm385 := OwnL.mono hm372 hle382
     have hm386 := Exs.mono hm373 hle382
     have hm387 := OwnL.mono hm374 hle382
     have hrd388 := OwnL.freeze ho377 hle382 hc383
     refine ⟨(fun _ => (Le.trans hle123 (Le.trans hle138 (Le.trans hle370 (Le.trans hle382 hst381.rle'))))), ?_⟩
     refine LA_all [27] (by decide +kernel) (by simp) ?_
     intro i_ hi_
     simp only [List.mem_cons, List.not_mem_nil, or_false] at hi_
     subst hi_
     refine One_call (i := 27) rfl rfl rfl (Want.of rfl rfl rfl rfl rfl) (x_call (vs := #[v365, vD344]) rfl rfl (by kernel_rfl) ent_16) (same_spec (xs := (PS.decs ((PS.act S_41 x80).1))) (Le.refl _) (RdS.mono hrd388 hst381.rle') (OwnL.freeze hm387 hst381.rle' (hst381.g 4)) (by omega)) ?_
     rintro e394 w392 ⟨rfl, hw395⟩
     have hst393 := hst381.grown hw395
     refine ⟨_, rfl, (fun _ => (Le.trans hle123 (Le.trans hle138 (Le.trans hle370 (Le.trans hle382 hst393.rle'))))), ?_⟩
     refine LP (.bool false) 28 rfl rfl rfl (fun u397 => rfl) (Le.trans hle123 (Le.trans hle138 (Le.trans hle370 (Le.trans hle382 hst393.rle')))) ?_ (hw := (Want.of rfl rfl rfl rfl rfl))
     refine LP (.bool false) 29 rfl rfl rfl (fun u400 => rfl) (Le.trans hle123 (Le.trans hle138 (Le.trans hle370 (Le.trans hle382 hst393.rle')))) ?_
     refine LA_done (by decide +kernel) ?_
     refine W_cond_false (by show Value.bool _ = _; exact congrArg Value.bool rfl) ?_
     refine W_skip ?_
     refine W_seq ?_
     obtain ⟨c402, hst403, href404⟩ := RefP.close (s := (PS.act S_41 x80).1) (xs := xsR342) ((((hst393.front 4 rfl rfl).front 4 rfl rfl).front 4 rfl rfl).front 4 rfl rfl) hm385 hm386 hm387 hsr355 hag356 hln357 hok358
     refine W_region_lit ?_
     refine Lq (int 0) rfl rfl rfl rfl ?_
     refine L_nil ?_
     refine W_block ?_
     refine W_loop (I := fun σ w_ m_ => ∃ (σ0 : Fr) (R_ : Hp) (f_ : Nat) (cP : Hp) (cR : Hp), σ = upd (upd (upd (upd (upd (upd (upd (upd (upd (upd (upd (upd (upd (upd (upd (upd (upd (upd (upd (upd (upd (upd (upd (upd (upd (upd (upd (upd (upd (upd (upd (upd (upd (upd (upd (upd (upd (upd (upd (upd (upd (upd (upd (upd (upd (upd (upd (upd (upd (upd (upd (upd σ0 0 (.agg #[(int a), (int b), (int c), (int d)])) 1 (.slice (some ⟨b67, off68, none⟩) xs.length cap46)) 2 (ptr b1 0)) 5 (.bool true)) 6 (ptr p20 0)) 7 (ptr m23 0)) 8 (int (k_40 : Int))) 9 (int (f_ : Int))) 11 (.bool true)) 12 (.tuple #[(ptr p20 0), (ptr m23 0)])) 13 (.agg #[(int a), (int b), (int c), (int d)])) 14 (.tuple #[(ptr p20 0), (ptr m23 0)])) 15 (ptr p20 0)) 16 (ptr m23 0)) 17 (int (k_40 : Int))) 18 (.slice (some ⟨b67, off68, none⟩) xs.length cap46)) 19 (int (xs.length : Int))) 20 (.bool (decide ((k_40 : Int) < (xs.length : Int))))) 21 (.bool (decide ((k_40 : Int) < (xs.length : Int))))) 22 (int (k_40 : Int))) 23 (.bool (decide ((k_40 : Int) < 60)))) 24 (.bool (decide ((k_40 : Int) < 60)))) 27 (ptr p20 0)) 28 (.slice (some ⟨b67, off68, none⟩) xs.length cap46)) 29 (int (k_40 : Int))) 30 (ptr b67 (off68 + k_40 * 3))) 31 (.agg #[(int x80.what), (int x80.a), (int x80.n)])) 32 (int (((PS.act S_41 x80).2 : Nat) : Int))) 33 (ptr m23 0)) 34 (.slice (some ⟨b67, off68, none⟩) xs.length cap46)) 35 (int (k_40 : Int))) 36 (ptr b67 (off68 + k_40 * 3))) 37 (.agg #[(int x80.what), (int x80.a), (int x80.n)])) 38 (int (((PS.act S_41 x80).2 : Nat) : Int))) 39 (.bool ((((PS.act S_41 x80).2 : Nat) : Int) != (((PS.act S_41 x80).2 : Nat) : Int)))) 40 (.bool ((((PS.act S_41 x80).2 : Nat) : Int) != (((PS.act S_41 x80).2 : Nat) : Int)))) 41 (ptr p20 0)) 42 (.string (txt ((PS.act S_41 x80).1)))) 43 (ptr m23 0)) 44 (.string (txt ((PS.act S_41 x80).1)))) 45 (.bool false)) 46 (.bool false)) 47 (.bool false)) 48 (ptr p20 0)) 49 v365) 50 (ptr m23 0)) 51 (ptr m23 0)) 52 (ptr m23 5)) 53 vD344) 54 (.bool true)) 55 (.bool false)) 56 (.bool false) ∧ mks (σ0 0) = [] ∧ Step w R [] w_ R_ [cP, cR] ∧ Le R380 R_ ∧ Prof R_ p20 (PS.act S_41 x80).1 cP ∧ RefP R_ m23 (PS.act S_41 x80).1 cR ∧ f_ ≤ 3 ∧ m_ = 3 - f_) (m := 3 - 0) ?_ ?_
     ·
      exact ⟨_, _, 0, c376, c402, (upd_of (upd_of (upd_of (upd_of (upd_of (upd_of (upd_of (upd_of (upd_of (upd_of (upd_of (upd_of (upd_of (upd_of (upd_of (upd_of (upd_of (upd_of (upd_of (upd_of (upd_of (upd_of (upd_of (upd_of (upd_of (upd_of (upd_of (upd_of (upd_of (upd_of (upd_of (upd_of (upd_of (upd_of (upd_of (upd_of (upd_of (upd_of (upd_of (upd_of (upd_of (upd_of (upd_of (upd_of (upd_of (upd_of (upd_of (upd_of (upd_of (upd_of (upd_of (upd_of rfl rfl) rfl) rfl) rfl) rfl) rfl) rfl) rfl) rfl) rfl) rfl) rfl) rfl) rfl) rfl) rfl) rfl) rfl) rfl) rfl) rfl) rfl) rfl) rfl) rfl) rfl) rfl) rfl) rfl) rfl) rfl) rfl) rfl) rfl) rfl) rfl) rfl) rfl) rfl) rfl) rfl) rfl) rfl) rfl) rfl) rfl) rfl) rfl) rfl) rfl) rfl) rfl), hmk28, (hst403.front 1 rfl rfl), Le.refl _, hm384, href404, (by omega), rfl⟩
     ·
      rintro m417 σ_ w407 ⟨s412, R413, f_414, cP415, cR416, rfl, hmk405, hst406, hle408, hi409, hi410, hf411, rfl⟩
      refine W_seq ?_
      refine W_seq ?_
      refine W_region_lit ?_
      refine Lq (int (f_414 : Int)) rfl rfl rfl rfl ?_
      refine Lq (.bool (decide ((f_414 : Int) < 3))) rfl rfl rfl (by kernel_rfl) ?_
      refine L_nil ?_
      rcases Bool.eq_false_or_eq_true (decide ((f_414 : Int) < 3)) with c418 | c418
      ·
       have q419 := of_decide_eq_true c418
       refine W_cond_true (by show Value.bool _ = _; exact congrArg Value.bool c418) ?_
       refine W_skip ?_
       refine W_seq ?_
       refine W_block ?_
       refine W_seq ?_
       refine W_region_lit ?_
       refine Lq (int (f_414 : Int)) rfl rfl rfl rfl ?_
       refine Lq (int (k_40 : Int)) rfl rfl rfl rfl ?_
       refine Lq (int (((k_40 % 4) : Nat) : Int)) rfl rfl rfl (x_rem_nat rfl rfl rfl (by omega)) ?_
       refine Lq (.agg #[(int (f_414 : Int)), (int (((k_40 % 4) : Nat) : Int))]) rfl rfl rfl (by kernel_rfl) ?_
       refine L_new hst406 (v := fun b => ptr b 0) (ob := .cells #[(int 0), (int 0)] 43 (0, 0)) rfl rfl rfl (by kernel_rfl) (fun b420 w421 hst422 => ?_)
       refine L_store hst422 0 ti_43 rfl rfl rfl rfl rfl rfl rfl rfl rfl rfl rfl (fun w423 hst424 => ?_)
       change Step _ _ _ _ _ [one b420 (.cells #[(int (f_414 : Int)), (int (((k_40 % 4) : Nat) : Int))] 43 (0, 0)), cP415, cR416] at hst424
       refine L_nil ?_
       refine W_seq ?_
       refine W_region_draw [] (fun w => Le R413 (hp w) ∧ Le (one b420 (.cells #[(int (f_414 : Int)), (int (((k_40 % 4) : Nat) : Int))] 43 (0, 0))) (hp w)) hmix (by decide +kernel) (fun _ _ h => h) ?_
       have hst426 := hst424.draws (w423.drawn + 1)
       generalize draws w423 (w423.drawn + 1) = w425 at hst426 ⊢
       refine LP (ptr p20 0) 0 rfl rfl rfl (fun u428 => rfl) ⟨hst426.rle', hst426.g 0⟩ ?_
       refine LT (.agg #[(int (f_414 : Int)), (int (((k_40 % 4) : Nat) : Int))]) 1 rfl rfl rfl (fun u431 hF432 => (x_load rfl rfl (run_loadVar_agg ti_43 (hF432.2 _ _ (one_self _ _)) (l := [(int (f_414 : Int)), (int (((k_40 % 4) : Nat) : Int))]) rfl rfl))) ⟨hst426.rle', hst426.g 0⟩ ?_
       refine LP (ptr m23 0) 3 rfl rfl rfl (fun u436 => rfl) ⟨hst426.rle', hst426.g 0⟩ ?_
       refine LT (.agg #[(int (f_414 : Int)), (int (((k_40 % 4) : Nat) : Int))]) 4 rfl rfl rfl (fun u441 hF442 => (x_load rfl rfl (run_loadVar_agg ti_43 (hF442.2 _ _ (one_self _ _)) (l := [(int (f_414 : Int)), (int (((k_40 % 4) : Nat) : Int))]) rfl rfl))) ⟨hst426.rle', hst426.g 0⟩ ?_
       refine LA_all [2] (by decide +kernel) (by simp) ?_
       intro i_ hi_
       simp only [List.mem_cons, List.not_mem_nil, or_false] at hi_
       subst hi_
       have hst446 := (hst426.front 1 rfl rfl)
       refine One_callS (i := 2) [cP415] [one b420 (.cells #[(int (f_414 : Int)), (int (((k_40 % 4) : Nat) : Int))] 43 (0, 0)), cR416] hst446 rfl rfl rfl (Want.plain rfl) (x_call (vs := #[(ptr p20 0), (.agg #[(int (f_414 : Int)), (int (((k_40 % 4) : Nat) : Int))])]) rfl rfl (by kernel_rfl) ent_18) (Tier_spec (s := (PS.act S_41 x80).1) ((f_414 : Int), (((k_40 % 4) : Nat) : Int))  (hst446.sats.take 1 rfl) hi409 (hT.mono (Le.trans hle10 (Le.trans hle18 (Le.trans hle31 (Le.trans hle123 (Le.trans hle138 (Le.trans hle370 (Le.trans hle382 hle408)))))))) (by have h_ := n_act S_41 x80; omega)) (fun v447 w448 R449 L450 hp451 hle452 hst453 => ?_)
       have hm454 := RefP.lift hi410 hle452
       obtain ⟨c455, hv456, rfl, hp457⟩ := hp451
       subst hv456
       have hprof458 : Prof R449 p20 (PS.act S_41 x80).1 c455 := hp457
       refine ⟨(fun _ => ⟨(Le.trans hle452 hst453.rle'), hst453.g 1⟩), ?_⟩
       refine LA_all [5] (by decide +kernel) (by simp) ?_
       intro i_ hi_
       simp only [List.mem_cons, List.not_mem_nil, or_false] at hi_
       subst hi_
       have hst462 := (hst453.front 2 rfl rfl)
       refine One_callS (i := 5) [cR416] [c455, one b420 (.cells #[(int (f_414 : Int)), (int (((k_40 % 4) : Nat) : Int))] 43 (0, 0))] hst462 rfl rfl rfl (Want.plain rfl) (x_call (vs := #[(ptr m23 0), (.agg #[(int (f_414 : Int)), (int (((k_40 % 4) : Nat) : Int))])]) rfl rfl (by kernel_rfl) ent_19) (TierR_spec (s := (PS.act S_41 x80).1) ((f_414 : Int), (((k_40 % 4) : Nat) : Int))  (hst462.sats.take 1 rfl) hm454 (by have h_ := n_act S_41 x80; omega)) (fun v463 w464 R465 L466 hp467 hle468 hst469 => ?_)
       have hm470 := Prof.lift hprof458 hle468
       obtain ⟨c471, hv472, rfl, hp473⟩ := hp467
       subst hv472
       have href474 : RefP R465 m23 (PS.act S_41 x80).1 c471 := hp473
       refine ⟨(fun _ => ⟨(Le.trans hle452 (Le.trans hle468 hst469.rle')), hst469.g 2⟩), ?_⟩
       refine LP (.bool ((PS.tier (PS.act S_41 x80).1 ((f_414 : Int), (((k_40 % 4) : Nat) : Int))) != (PS.tier (PS.act S_41 x80).1 ((f_414 : Int), (((k_40 % 4) : Nat) : Int))))) 6 rfl rfl rfl (fun u476 => (by kernel_rfl)) ⟨(Le.trans hle452 (Le.trans hle468 hst469.rle')), hst469.g 2⟩ ?_
       refine LA_done (by decide +kernel) ?_
       have c478 : ((PS.tier (PS.act S_41 x80).1 ((f_414 : Int), (((k_40 % 4) : Nat) : Int))) != (PS.tier (PS.act S_41 x80).1 ((f_414 : Int), (((k_40 % 4) : Nat) : Int)))) = false := bne_self_eq_false _
       refine W_cond_false (by show Value.bool _ = _; exact congrArg Value.bool c478) ?_
       refine W_skip ?_
       refine W_region_lit ?_
       refine Lq (int (f_414 : Int)) rfl rfl rfl rfl ?_
       refine Lq (int ((f_414 + 1 : Nat) : Int)) rfl rfl rfl (x_add_nat rfl rfl rfl (by omega)) ?_
       refine Lq (int ((f_414 + 1 : Nat) : Int)) rfl rfl rfl rfl ?_
       refine L_nil ?_
       refine ⟨3 - (f_414 + 1), by first | omega | (simp only [List.length_append, List.length_cons, List.length_nil]; omega), ?_⟩
       exact ⟨_, _, (f_414 + 1), c455, c471, (upd_of (upd_of (upd_of (upd_of (upd_of (upd_of (upd_of (upd_of (upd_of (upd_of (upd_of (upd_of (upd_of (upd_of (upd_of (upd_of (upd_of (upd_of (upd_of (upd_of (upd_of (upd_of (upd_of (upd_of (upd_of (upd_of (upd_of (upd_of (upd_of (upd_of (upd_of (upd_of (upd_of (upd_of (upd_of (upd_of (upd_of (upd_of (upd_of (upd_of (upd_of (upd_of (upd_of (upd_of (upd_of (upd_of (upd_of (upd_of (upd_of (upd_of (upd_of (upd_of rfl rfl) rfl) rfl) rfl) rfl) rfl) rfl) rfl) rfl) rfl) rfl) rfl) rfl) rfl) rfl) rfl) rfl) rfl) rfl) rfl) rfl) rfl) rfl) rfl) rfl) rfl) rfl) rfl) rfl) rfl) rfl) rfl) rfl) rfl) rfl) rfl) rfl) rfl) rfl) rfl) rfl) rfl) rfl) rfl) rfl) rfl) rfl) rfl) rfl) rfl) rfl) rfl), hmk405, ((hst469.front 1 rfl rfl).keepN 2 rfl), (Le.trans hle408 (Le.trans hle452 hle468)), hm470, href474, (by omega), rfl⟩
      ·
       have q480 := of_decide_eq_false c418
       refine W_cond_false (by show Value.bool _ = _; exact congrArg Value.bool c418) ?_
       refine W_exit ?_
       refine W_region_lit ?_
       refine Lq (int (k_40 : Int)) rfl rfl rfl rfl ?_
       refine Lq (int ((k_40 + 1 : Nat) : Int)) rfl rfl rfl (x_add_nat rfl rfl rfl (by omega)) ?_
       refine Lq (int ((k_40 + 1 : Nat) : Int)) rfl rfl rfl rfl ?_
       refine L_nil ?_
       refine ⟨60 - (k_40 + 1), by first | omega | (simp only [List.length_append, List.length_cons, List.length_nil]; omega), ?_⟩
       exact ⟨_, _, (k_40 + 1), ((PS.act S_41 x80).1), cP415, cR416, (upd_of (upd_of (upd_of (upd_of (upd_of (upd_of (upd_of (upd_of (upd_of (upd_of (upd_of (upd_of (upd_of rfl rfl) rfl) rfl) rfl) rfl) rfl) rfl) rfl) rfl) rfl) rfl) rfl) rfl), hmk405, ((hst406.front 1 rfl rfl).front 1 rfl rfl), (Le.trans hle31 (Le.trans hle123 (Le.trans hle138 (Le.trans hle370 (Le.trans hle382 hle408))))), hi409, hi410, (by omega), (Ex.act hf35 x80), (by have h_ := n_act S_41 x80; omega), (PlOk.act hf37 x80), rfl⟩
   ·
    have q481 := of_decide_eq_false c51
    refine W_cond_false (by show Value.bool _ = _; exact congrArg Value.bool c51) ?_
    refine W_exit ?_
    refine W_seq ?_
    refine W_region_lit ?_
    refine Lq (.bool true) rfl rfl rfl rfl ?_
    refine Lq (.bool true) rfl rfl rfl rfl ?_
    refine L_nil ?_
    refine W_ret ?_
    refine ⟨_, _, res_run (rs := [.tmp 4]) (vs := [(.bool true)]) Tryd.results3 (.cons (.tmp rfl) .nil) hmk28, ?_⟩
    exact ⟨_, _, [], rfl, hst29.keepN 0 rfl, rfl, rfl⟩
  ·
   have q482 := of_decide_eq_false c49
   refine L_unwanted rfl rfl rfl rfl (by rw [c49]; try rfl) rfl rfl ?_
   refine L_unwanted rfl rfl rfl rfl (by rw [c49]; try rfl) rfl rfl ?_
   refine Lq (.bool false) rfl rfl rfl (x_pick rfl rfl (by rw [c49]; rfl)) ?_
   refine L_nil ?_
   refine W_cond_false (by show Value.bool _ = _; exact congrArg Value.bool rfl) ?_
   refine W_exit ?_
   refine W_seq ?_
   refine W_region_lit ?_
   refine Lq (.bool true) rfl rfl rfl rfl ?_
   refine Lq (.bool true) rfl rfl rfl rfl ?_
   refine L_nil ?_
   refine W_ret ?_
   refine ⟨_, _, res_run (rs := [.tmp 4]) (vs := [(.bool true)]) Tryd.results3 (.cons (.tmp rfl) .nil) hmk28, ?_⟩
   exact ⟨_, _, [], rfl, hst29.keepN 0 rfl, rfl, rfl⟩

end Go.Fx.YtdkjoljcffkpkaaDoor
