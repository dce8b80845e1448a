/-
  Chapter 27: AssumeOrder, printed by gen18.py.
-/
import Derived.Test.YtlfabjfajcbdcaaAs13
import Derived.Test.YtlfabjfajcbdcaaAs15
import Derived.Test.YtlfabjfajcbdcaaAs16
import Derived.Test.YtlfabjfajcbdcaaFx18
set_option linter.unusedSimpArgs false
set_option linter.unusedVariables false
namespace Go.Fx.Ytlfabjfajcbdcaa
open Go Go.Fx Go.Proofs
set_option maxRecDepth 20000

theorem sl_22 : SL Try.prog 22 29 := Try.underlying22

theorem Order_walk {w : World} {R : Hp} {v : Value} {l : List (List Fact)} {t : Nat} {q0 q1 : Int} (hs : Sats w R []) (hv : RdS (Ty.slice tyFact) R v l) (hlen : l.length ≤ 1048576) (hmax : ∀ x ∈ l, x.length ≤ 1048576) (ht : t < 256) :
    Calls Try.prog 3 #[v, .int .u8 (t : Int), .agg #[int q0, int q1]] w (Comes' w R [] fun v' R' L' => v' = .bool true ∧ L' = []) := by
  have hst := Step.refl hs
  refine calls_of_W (n := 84) Try.func3 rfl Try.ntmps3 (Nat.le_of_ble_eq_true rfl) ?_
  refine W_seq ?_
  refine W_region_lit ?_
  refine L_new hst (v := fun b => ptr b 0) (ob := .cells #[(.int .i64 q0), (.int .i64 q1)] 23 (0, 0)) rfl rfl rfl (by kernel_rfl) (fun b1 w2 hst3 => ?_)
  refine L_val (v := (.bool false)) (w' := w2) rfl rfl rfl rfl ?_
  refine L_nil ?_
  refine W_seq ?_
  refine W_region_lit ?_
  have hst4 := hst3
  refine L_callS [] [one b1 (.cells #[(.int .i64 q0), (.int .i64 q1)] 23 (0, 0))] hst4 rfl rfl rfl (x_call (vs := #[]) rfl rfl (by kernel_rfl) ent_9) (sanity_spec (hst4.sats.take 0 rfl)) (fun v5 w6 R7 L8 hp9 hle10 hst11 => ?_)
  obtain ⟨rfl, rfl⟩ := hp9
  refine L_val (v := (.bool true)) (w' := w6) rfl rfl rfl rfl ?_
  refine L_nil ?_
  refine W_seq ?_
  refine W_region_lit ?_
  have hst12 := hst11
  refine L_callS [] [one b1 (.cells #[(.int .i64 q0), (.int .i64 q1)] 23 (0, 0))] hst12 rfl rfl rfl (x_call (vs := #[(.int .i64 4), (.int .i64 3)]) rfl rfl (by kernel_rfl) ent_10) (New_spec (f := 4) (c := 3) (hst12.sats.take 0 rfl) (by decide) (by decide)) (fun v13 w14 R15 L16 hp17 hle18 hst19 => ?_)
  obtain ⟨p20, c21, rfl, rfl, hreg22⟩ := hp17
  have hreg23 : Reg R15 p20 (RS.new 4 3) c21 := hreg22
  have hst24 := hst19
  refine L_callS [] [c21, one b1 (.cells #[(.int .i64 q0), (.int .i64 q1)] 23 (0, 0))] hst24 rfl rfl rfl (x_call (vs := #[(.int .i64 4), (.int .i64 3)]) rfl rfl (by kernel_rfl) ent_10) (New_spec (f := 4) (c := 3) (hst24.sats.take 0 rfl) (by decide) (by decide)) (fun v25 w26 R27 L28 hp29 hle30 hst31 => ?_)
  have hm32 := Reg.lift hreg23 hle30
  obtain ⟨p33, c34, rfl, rfl, hreg35⟩ := hp29
  have hreg36 : Reg R27 p33 (RS.new 4 3) c34 := hreg35
  refine L_val (v := (ptr p20 0)) (w' := w26) rfl rfl rfl rfl ?_
  refine L_val (v := (ptr p33 0)) (w' := w26) rfl rfl rfl rfl ?_
  refine L_nil ?_
  refine W_seq ?_
  refine W_region_lit ?_
  refine L_val (v := v) (w' := w26) rfl rfl rfl rfl ?_
  refine L_val (v := v) (w' := w26) rfl rfl rfl rfl ?_
  obtain ⟨a37, cap38, e39, hc40⟩ := hv.shape
  subst e39
  refine L_val (v := (.int .i64 (l.length : Int))) (w' := w26) rfl rfl rfl (x_len_slice rfl sl_22 rfl) ?_
  refine L_val (v := (.int .i64 (((min l.length 6) : Nat) : Int))) (w' := w26) rfl rfl rfl (x_min_nat rfl rfl rfl) ?_
  obtain ⟨v41, hr42, hv43⟩ := RdS.sliceHi (P := Try.prog) (w := w26) sl_22 ti_29 hv (k := (min l.length 6)) (by omega)
  obtain ⟨l1, hl1⟩ : ∃ l1, l1 = (List.take (min l.length 6) l) := ⟨_, rfl⟩
  have hl6 : l1.length ≤ 6 := by rw [hl1, List.length_take]; omega
  have hlm : ∀ x ∈ l1, x.length ≤ 1048576 := fun x hx => hmax x (List.mem_of_mem_take (hl1 ▸ hx))
  have hv44 := hv43
  rw [← hl1] at hv44
  refine L_val (v := v41) (w' := w26) rfl rfl rfl (x_slice sl_22 rfl rfl hr42) ?_
  refine L_val (v := v41) (w' := w26) rfl rfl rfl rfl ?_
  refine L_nil ?_
  refine W_seq ?_
  refine W_seq ?_
  refine W_region_lit ?_
  refine L_val (v := v41) (w' := w26) rfl rfl rfl rfl ?_
  obtain ⟨a45, cap46, e47, hc48⟩ := hv44.shape
  subst e47
  refine L_val (v := (.int .i64 (l1.length : Int))) (w' := w26) rfl rfl rfl (x_len_slice rfl sl_22 rfl) ?_
  refine L_val (v := (.int .i64 0)) (w' := w26) rfl rfl rfl rfl ?_
  refine L_nil ?_
  refine W_block ?_
  refine W_loop (I := fun σ w_ m_ => ∃ (σ0 : Fr) (R_ : Hp) (k_ : Nat) (sa : RS) (sb : RS) (cA : Hp) (cB : Hp), σ = upd (upd (upd (upd (upd (upd (upd (upd (upd (upd (upd (upd (upd (upd (upd (upd (upd (upd (upd σ0 0 (.slice a45 l1.length cap46)) 1 (.int .u8 (t : Int))) 2 (.agg #[(.int .i64 q0), (.int .i64 q1)])) 5 (ptr b1 0)) 6 (.bool false)) 7 (.bool true)) 8 (ptr p20 0)) 9 (ptr p33 0)) 13 (.bool true)) 14 (ptr p20 0)) 15 (ptr p33 0)) 16 (.slice a37 l.length cap38)) 17 (.slice a37 l.length cap38)) 18 (.int .i64 (l.length : Int))) 19 (.int .i64 (((min l.length 6) : Nat) : Int))) 20 (.slice a45 l1.length cap46)) 21 (.slice a45 l1.length cap46)) 22 (.int .i64 (l1.length : Int))) 23 (.int .i64 (k_ : Int)) ∧ mks (σ0 0) = [] ∧ Step w R [] w_ R_ [cA, cB, one b1 (.cells #[(.int .i64 q0), (.int .i64 q1)] 23 (0, 0))] ∧ Le R27 R_ ∧ Reg R_ p20 sa cA ∧ Reg R_ p33 sb cB ∧ k_ ≤ l1.length ∧ Same l1 (RS.new 4 3).vers (List.range k_) sa ∧ Same l1 (RS.new 4 3).vers (turned l1.length t k_) sb ∧ m_ = l1.length - k_) (m := l1.length - 0) ?_ ?_
  · skip
    exact ⟨_, _, 0, (RS.new 4 3), (RS.new 4 3), c21, c34, (upd_of (upd_of (upd_of (upd_of (upd_of (upd_of (upd_of (upd_of (upd_of (upd_of (upd_of (upd_of (upd_of (upd_of (upd_of (upd_of (upd_of (upd_of (upd_of rfl rfl) rfl) rfl) rfl) rfl) rfl) rfl) rfl) rfl) rfl) rfl) rfl) rfl) rfl) rfl) rfl) rfl) rfl) rfl), rfl, (((hst31.front 2 rfl rfl).front 1 rfl rfl).front 2 rfl rfl), Le.refl _, hm32, hreg36, (by omega), (Same.start _ _ _), (Same.start _ _ _), rfl⟩
  · skip
    rintro m65 σ_ w51 ⟨s58, R59, k_60, sa61, sb62, cA63, cB64, rfl, hmk49, hst50, hle52, hi53, hi54, hf55, hf56, hf57, rfl⟩
    refine W_seq ?_
    refine W_region_lit ?_
    refine L_val (v := (.bool (decide ((k_60 : Int) < (l1.length : Int))))) (w' := w51) rfl rfl rfl (by kernel_rfl) ?_
    refine L_nil ?_
    refine W_seq ?_
    rcases Bool.eq_false_or_eq_true (decide ((k_60 : Int) < (l1.length : Int))) with c66 | c66
    · skip
      have q67 := of_decide_eq_true c66
      refine W_cond_true (by show Value.bool _ = _; exact congrArg Value.bool c66) ?_
      refine W_skip ?_
      refine W_seq ?_
      refine W_block ?_
      refine W_seq ?_
      refine W_region_lit ?_
      refine L_val (v := (.int .i64 (k_60 : Int))) (w' := w51) rfl rfl rfl rfl ?_
      refine L_val (v := (.int .i64 (k_60 : Int))) (w' := w51) rfl rfl rfl rfl ?_
      refine L_nil ?_
      refine W_seq ?_
      refine W_region_lit ?_
      refine L_val (v := (.int .i64 (k_60 : Int))) (w' := w51) rfl rfl rfl rfl ?_
      refine L_val (v := (.int .u8 (t : Int))) (w' := w51) rfl rfl rfl rfl ?_
      refine L_val (v := (.int .i64 (t : Int))) (w' := w51) rfl rfl rfl (x_conv8' rfl rfl (by omega) (by omega)) ?_
      refine L_val (v := (.int .i64 ((k_60 + t : Nat) : Int))) (w' := w51) rfl rfl rfl (x_add_nat rfl rfl rfl (by omega)) ?_
      refine L_val (v := (.slice a45 l1.length cap46)) (w' := w51) rfl rfl rfl rfl ?_
      refine L_val (v := (.int .i64 (l1.length : Int))) (w' := w51) rfl rfl rfl (x_len_slice rfl sl_22 rfl) ?_
      refine L_val (v := (.int .i64 ((((k_60 + t) % l1.length) : Nat) : Int))) (w' := w51) rfl rfl rfl (x_rem_nat rfl rfl rfl (by omega)) ?_
      refine L_val (v := (.int .i64 ((((k_60 + t) % l1.length) : Nat) : Int))) (w' := w51) rfl rfl rfl rfl ?_
      refine L_nil ?_
      refine W_seq ?_
      have hmod : ((k_60 + t) % l1.length) < l1.length := Nat.mod_lt _ (by omega)
      refine W_region_lit ?_
      refine L_val (v := (ptr p20 0)) (w' := w51) rfl rfl rfl rfl ?_
      refine L_val (v := (.int .i64 (k_60 : Int))) (w' := w51) rfl rfl rfl rfl ?_
      refine L_val (v := (.slice a45 l1.length cap46)) (w' := w51) rfl rfl rfl rfl ?_
      refine L_val (v := (.int .i64 (k_60 : Int))) (w' := w51) rfl rfl rfl rfl ?_
      obtain ⟨b68, off69, cap70, cs71, T72, fz73, e74, hc75, hb76, he77⟩ := hv44.open (by omega)
      cases e74
      obtain ⟨cl78, hs79, hr80⟩ := he77.at k_60 (by omega)
      obtain ⟨u81, e82, hu83⟩ := hr80
      subst e82
      refine L_val (v := (ptr b68 (off69 + k_60 * 1))) (w' := w51) rfl rfl rfl (x_indexAddr' rfl sl_22 ti_29 rfl rfl (by omega)) ?_
      refine L_val (v := u81) (w' := w51) rfl rfl rfl (x_load rfl rfl (run_loadVar_one ti_29 ((Le.trans hle10 (Le.trans hle18 (Le.trans hle30 (Le.trans hle52 hst50.rle')))) _ _ hb76) (seg_get (j := 0) hs79 rfl))) ?_
      obtain ⟨a84, cap85, e86, hc87⟩ := hu83.shape
      subst e86
      have hst88 := hst50
      refine L_callS [cA63] [cB64, one b1 (.cells #[(.int .i64 q0), (.int .i64 q1)] 23 (0, 0))] hst88 rfl rfl rfl (x_call (vs := #[(ptr p20 0), (.int .i64 (k_60 : Int)), (.slice a84 ((l1[k_60]'(by omega)).length) cap85)]) rfl rfl (by kernel_rfl) ent_11) (Add_spec (v := (.slice a84 ((l1[k_60]'(by omega)).length) cap85)) (k_60 : Int) (RdS.mono hu83 (Le.trans hle10 (Le.trans hle18 (Le.trans hle30 hle52)))) (Nat.le_trans (hlm _ (List.getElem_mem _)) (by decide)) (hst88.sats.take 1 rfl) hi53) (fun v89 w90 R91 L92 hp93 hle94 hst95 => ?_)
      have hm96 := Reg.lift hi54 hle94
      obtain ⟨c97, rfl, rfl, hreg98⟩ := hp93
      have hreg99 : Reg R91 p20 (RS.add sa61 (k_60 : Int) (l1[k_60]'(by omega))) c97 := hreg98
      refine L_nil ?_
      refine W_region_lit ?_
      refine L_val (v := (ptr p33 0)) (w' := w90) rfl rfl rfl rfl ?_
      refine L_val (v := (.int .i64 ((((k_60 + t) % l1.length) : Nat) : Int))) (w' := w90) rfl rfl rfl rfl ?_
      refine L_val (v := (.slice (some ⟨b68, off69, none⟩) l1.length cap46)) (w' := w90) rfl rfl rfl rfl ?_
      refine L_val (v := (.int .i64 ((((k_60 + t) % l1.length) : Nat) : Int))) (w' := w90) rfl rfl rfl rfl ?_
      obtain ⟨cl100, hs101, hr102⟩ := he77.at ((k_60 + t) % l1.length) (by omega)
      obtain ⟨u103, e104, hu105⟩ := hr102
      subst e104
      refine L_val (v := (ptr b68 (off69 + ((k_60 + t) % l1.length) * 1))) (w' := w90) rfl rfl rfl (x_indexAddr' rfl sl_22 ti_29 rfl rfl (by omega)) ?_
      refine L_val (v := u103) (w' := w90) rfl rfl rfl (x_load rfl rfl (run_loadVar_one ti_29 ((Le.trans hle10 (Le.trans hle18 (Le.trans hle30 (Le.trans hle52 (Le.trans hle94 hst95.rle'))))) _ _ hb76) (seg_get (j := 0) hs101 rfl))) ?_
      obtain ⟨a106, cap107, e108, hc109⟩ := hu105.shape
      subst e108
      have hst110 := (hst95.front 1 rfl rfl)
      refine L_callS [cB64] [c97, one b1 (.cells #[(.int .i64 q0), (.int .i64 q1)] 23 (0, 0))] hst110 rfl rfl rfl (x_call (vs := #[(ptr p33 0), (.int .i64 ((((k_60 + t) % l1.length) : Nat) : Int)), (.slice a106 ((l1[((k_60 + t) % l1.length)]'(by omega)).length) cap107)]) rfl rfl (by kernel_rfl) ent_11) (Add_spec (v := (.slice a106 ((l1[((k_60 + t) % l1.length)]'(by omega)).length) cap107)) ((((k_60 + t) % l1.length) : Nat) : Int) (RdS.mono hu105 (Le.trans hle10 (Le.trans hle18 (Le.trans hle30 (Le.trans hle52 hle94))))) (Nat.le_trans (hlm _ (List.getElem_mem _)) (by decide)) (hst110.sats.take 1 rfl) hm96) (fun v111 w112 R113 L114 hp115 hle116 hst117 => ?_)
      have hm118 := Reg.lift hreg99 hle116
      obtain ⟨c119, rfl, rfl, hreg120⟩ := hp115
      have hreg121 : Reg R113 p33 (RS.add sb62 ((((k_60 + t) % l1.length) : Nat) : Int) (l1[((k_60 + t) % l1.length)]'(by omega))) c119 := hreg120
      refine L_nil ?_
      refine W_region_lit ?_
      refine L_val (v := (.int .i64 ((k_60 + 1 : Nat) : Int))) (w' := w112) rfl rfl rfl (x_add_nat rfl rfl rfl (by omega)) ?_
      refine L_val (v := (.int .i64 ((k_60 + 1 : Nat) : Int))) (w' := w112) rfl rfl rfl rfl ?_
      refine L_nil ?_
      refine ⟨l1.length - (k_60 + 1), by first | omega | (simp only [List.length_append, List.length_cons, List.length_nil]; omega), ?_⟩
      exact ⟨_, _, (k_60 + 1), (RS.add sa61 (k_60 : Int) (l1[k_60]'(by omega))), (RS.add sb62 ((((k_60 + t) % l1.length) : Nat) : Int) (l1[((k_60 + t) % l1.length)]'(by omega))), c97, c119, (upd_of (upd_of (upd_of (upd_of (upd_of (upd_of (upd_of (upd_of (upd_of (upd_of (upd_of (upd_of (upd_of (upd_of (upd_of (upd_of (upd_of (upd_of (upd_of rfl rfl) rfl) rfl) rfl) rfl) rfl) rfl) rfl) rfl) rfl) rfl) rfl) rfl) rfl) rfl) rfl) rfl) rfl) rfl), hmk49, (((hst117.front 2 rfl rfl).front 1 rfl rfl).front 2 rfl rfl), (Le.trans hle52 (Le.trans hle94 hle116)), hm118, hreg121, (by omega), (by rw [List.range_succ]; exact Same.step hf56 (by simp) (by simp [List.getD, List.getElem?_eq_getElem (show k_60 < l1.length by omega)])), (by rw [turned_succ]; exact Same.step hf57 (turned_new (by omega)) (by simp [List.getD, List.getElem?_eq_getElem (Nat.mod_lt (k_60 + t) (show 0 < l1.length by omega))])), rfl⟩
    · skip
      have q122 := of_decide_eq_false c66
      refine W_cond_false (by show Value.bool _ = _; exact congrArg Value.bool c66) ?_
      refine W_exit ?_
      refine W_seq ?_
      refine W_seq ?_
      obtain rfl : k_60 = l1.length := by omega
      have hga := Same.gets hf56 hf57 (turned_all _ t)
      have hlen_sa61 : sa61.mods.length ≤ 6 := by have := hf56.len; simp [turned] at this; omega
      have hc_sa61 := hf56.cnt
      have hn_sa61 : sa61.vers ≠ [] := by rw [hf56.vers]; decide
      have hlen_sb62 : sb62.mods.length ≤ 6 := by have := hf57.len; simp [turned] at this; omega
      have hc_sb62 := hf57.cnt
      have hn_sb62 : sb62.vers ≠ [] := by rw [hf57.vers]; decide
      have hvv : sa61.vers = sb62.vers := hf56.vers.trans hf57.vers.symm
      refine W_region_draw [] (fun w => Le R59 (hp w) ∧ Le (one b1 (.cells #[(.int .i64 q0), (.int .i64 q1)] 23 (0, 0))) (hp w)) hmix (by decide +kernel) (fun _ _ h => h) ?_
      have hst124 := hst50.draws (w51.drawn + 1)
      generalize draws w51 (w51.drawn + 1) = w123 at hst124 ⊢
      refine LA_takeP (v := (ptr p20 0)) 0 rfl rfl rfl (by decide +kernel) (by decide +kernel) (by decide +kernel) (by decide +kernel) (fun _ _ _ h => h) (Want.plain rfl) (fun u126 => rfl) (fun _ => ⟨hst124.rle', hst124.get (i := 2) rfl⟩) ?_
      refine LA_takeP (v := (ptr p33 0)) 2 rfl rfl rfl (by decide +kernel) (by decide +kernel) (by decide +kernel) (by decide +kernel) (fun _ _ _ h => h) (Want.plain rfl) (fun u131 => rfl) (fun _ => ⟨hst124.rle', hst124.get (i := 2) rfl⟩) ?_
      refine LA_all [1] (by decide +kernel) (by simp) ?_
      intro i_ hi_
      simp only [List.mem_cons, List.not_mem_nil, or_false] at hi_
      subst hi_
      refine One_call (i := 1) rfl rfl rfl (Want.plain rfl) (x_call (vs := #[(ptr p20 0)]) rfl rfl (by kernel_rfl) ent_13) (Modules_reg hi53 (hst124.get (i := 0) rfl) hn_sa61 (by omega)) ?_
      rintro e136 w137 ⟨v138, R139, L140, rfl, hst141, hp142⟩
      obtain ⟨c144, rfl, ho145⟩ := hp142
      have ho146 := OwnL.reint (R' := R59) ho145
      have hst143 := Step.gain hst124 hst141
      refine ⟨_, rfl, (fun _ => ⟨hst143.rle', hst143.get (i := 3) rfl⟩), ?_⟩
      refine LA_all [3] (by decide +kernel) (by simp) ?_
      intro i_ hi_
      simp only [List.mem_cons, List.not_mem_nil, or_false] at hi_
      subst hi_
      refine One_call (i := 3) rfl rfl rfl (Want.plain rfl) (x_call (vs := #[(ptr p33 0)]) rfl rfl (by kernel_rfl) ent_13) (Modules_reg hi54 (hst143.get (i := 2) rfl) hn_sb62 (by omega)) ?_
      rintro e150 w151 ⟨v152, R153, L154, rfl, hst155, hp156⟩
      obtain ⟨c158, rfl, ho159⟩ := hp156
      have ho160 := OwnL.reint (R' := R59) ho159
      have hst157 := Step.gain hst143 hst155
      refine ⟨_, rfl, (fun _ => ⟨hst157.rle', hst157.get (i := 4) rfl⟩), ?_⟩
      refine LA_all [4] (by decide +kernel) (by simp) ?_
      intro i_ hi_
      simp only [List.mem_cons, List.not_mem_nil, or_false] at hi_
      subst hi_
      refine One_call (i := 4) rfl rfl rfl (Want.plain rfl) (x_call (vs := #[v138, v152]) rfl rfl (by kernel_rfl) ent_12) (EqualI_spec (w := w151) (R := hp w151) (v1 := v138) (v2 := v152) (xs := (RS.modules sa61)) (ys := (RS.modules sb62)) (Le.refl _) (OwnL.freeze ho146 hst157.rle' (hst157.get (i := 1) rfl)) (OwnL.freeze ho160 hst157.rle' (hst157.get (i := 0) rfl)) (by rw [RS.modules_len]; omega)) ?_
      rintro e166 w164 ⟨rfl, hw167⟩
      have hst165 := hst157.grown hw167
      refine ⟨_, rfl, (fun _ => ⟨hst165.rle', hst165.get (i := 4) rfl⟩), ?_⟩
      refine LA_takeP (v := (.bool (!(decide (((RS.modules sa61) : List Int) = (RS.modules sb62)))))) 5 rfl rfl rfl (by decide +kernel) (by decide +kernel) (by decide +kernel) (by decide +kernel) (fun _ _ _ h => h) (Want.plain rfl) (fun u169 => rfl) (fun _ => ⟨hst165.rle', hst165.get (i := 4) rfl⟩) ?_
      refine LA_takeP (v := (.bool (!(decide (((RS.modules sa61) : List Int) = (RS.modules sb62)))))) 6 rfl rfl rfl (by decide +kernel) (by decide +kernel) (by decide +kernel) (by decide +kernel) (fun _ _ _ h => h) (Want.plain rfl) (fun u172 => rfl) (fun _ => ⟨hst165.rle', hst165.get (i := 4) rfl⟩) ?_
      have c175 : (decide (((RS.modules sa61) : List Int) = (RS.modules sb62))) = true := decide_eq_true (modules_same hf56.ok hf57.ok hga)
      refine LA_takeP (v := (ptr p20 0)) 7 rfl rfl rfl (by decide +kernel) (by decide +kernel) (by decide +kernel) (by decide +kernel) (fun _ _ _ h => h) (Want.of rfl rfl rfl rfl (by rw [c175]; rfl)) (fun u177 => rfl) (fun _ => ⟨hst165.rle', hst165.get (i := 4) rfl⟩) ?_
      refine LA_takeP (v := (ptr b1 0)) 8 rfl rfl rfl (by decide +kernel) (by decide +kernel) (by decide +kernel) (by decide +kernel) (fun _ _ _ h => h) (Want.of rfl rfl rfl rfl (by rw [c175]; rfl)) (fun u180 => (by kernel_rfl)) (fun _ => ⟨hst165.rle', hst165.get (i := 4) rfl⟩) ?_
      refine LA_take (v := (.int .i64 q0)) 9 rfl rfl rfl (by decide +kernel) (by decide +kernel) (by decide +kernel) (by decide +kernel) (by decide +kernel) (fun _ _ _ h => h) (Want.of rfl rfl rfl rfl (by rw [c175]; rfl)) (fun u183 hF184 => (x_load rfl rfl (run_loadVar_one ti_3 (hF184.2 _ _ (one_self _ _)) rfl))) ⟨hst165.rle', hst165.get (i := 4) rfl⟩ ?_
      refine LA_takeP (v := (ptr b1 1)) 10 rfl rfl rfl (by decide +kernel) (by decide +kernel) (by decide +kernel) (by decide +kernel) (fun _ _ _ h => h) (Want.of rfl rfl rfl rfl (by rw [c175]; rfl)) (fun u186 => (by kernel_rfl)) (fun _ => ⟨hst165.rle', hst165.get (i := 4) rfl⟩) ?_
      refine LA_take (v := (.int .i64 q1)) 11 rfl rfl rfl (by decide +kernel) (by decide +kernel) (by decide +kernel) (by decide +kernel) (by decide +kernel) (fun _ _ _ h => h) (Want.of rfl rfl rfl rfl (by rw [c175]; rfl)) (fun u189 hF190 => (x_load rfl rfl (run_loadVar_one ti_3 (hF190.2 _ _ (one_self _ _)) rfl))) ⟨hst165.rle', hst165.get (i := 4) rfl⟩ ?_
      refine LA_takeP (v := (ptr p33 0)) 13 rfl rfl rfl (by decide +kernel) (by decide +kernel) (by decide +kernel) (by decide +kernel) (fun _ _ _ h => h) (Want.of rfl rfl rfl rfl (by rw [c175]; rfl)) (fun u194 => rfl) (fun _ => ⟨hst165.rle', hst165.get (i := 4) rfl⟩) ?_
      refine LA_takeP (v := (ptr b1 0)) 14 rfl rfl rfl (by decide +kernel) (by decide +kernel) (by decide +kernel) (by decide +kernel) (fun _ _ _ h => h) (Want.of rfl rfl rfl rfl (by rw [c175]; rfl)) (fun u199 => (by kernel_rfl)) (fun _ => ⟨hst165.rle', hst165.get (i := 4) rfl⟩) ?_
      refine LA_take (v := (.int .i64 q0)) 15 rfl rfl rfl (by decide +kernel) (by decide +kernel) (by decide +kernel) (by decide +kernel) (by decide +kernel) (fun _ _ _ h => h) (Want.of rfl rfl rfl rfl (by rw [c175]; rfl)) (fun u204 hF205 => (x_load rfl rfl (run_loadVar_one ti_3 (hF205.2 _ _ (one_self _ _)) rfl))) ⟨hst165.rle', hst165.get (i := 4) rfl⟩ ?_
      refine LA_takeP (v := (ptr b1 1)) 16 rfl rfl rfl (by decide +kernel) (by decide +kernel) (by decide +kernel) (by decide +kernel) (fun _ _ _ h => h) (Want.of rfl rfl rfl rfl (by rw [c175]; rfl)) (fun u209 => (by kernel_rfl)) (fun _ => ⟨hst165.rle', hst165.get (i := 4) rfl⟩) ?_
      refine LA_take (v := (.int .i64 q1)) 17 rfl rfl rfl (by decide +kernel) (by decide +kernel) (by decide +kernel) (by decide +kernel) (by decide +kernel) (fun _ _ _ h => h) (Want.of rfl rfl rfl rfl (by rw [c175]; rfl)) (fun u214 hF215 => (x_load rfl rfl (run_loadVar_one ti_3 (hF215.2 _ _ (one_self _ _)) rfl))) ⟨hst165.rle', hst165.get (i := 4) rfl⟩ ?_
      refine LA_all [12] (by decide +kernel) (by simp) ?_
      intro i_ hi_
      simp only [List.mem_cons, List.not_mem_nil, or_false] at hi_
      subst hi_
      have hst219 := (hst165.front 2 rfl rfl)
      refine One_callS (i := 12) [cA63] [c158, c144, cB64, one b1 (.cells #[(.int .i64 q0), (.int .i64 q1)] 23 (0, 0))] hst219 rfl rfl rfl (Want.of rfl rfl rfl rfl (by rw [c175]; rfl)) (x_call (vs := #[(ptr p20 0), (.int .i64 q0), (.int .i64 q1)]) rfl rfl (by kernel_rfl) ent_14) (Bump_spec q0 q1 (hst219.sats.take 1 rfl) hi53 (by omega) (by omega)) (fun v220 w221 R222 L223 hp224 hle225 hst226 => ?_)
      have hm227 := OwnL.mono ho160 hle225
      have hm228 := OwnL.mono ho146 hle225
      have hm229 := Reg.lift hi54 hle225
      obtain ⟨c230, co231, rfl, hreg232, ho233⟩ := hp224
      have hreg234 : Reg R222 p20 (RS.bump sa61 q0 q1) c230 := hreg232
      refine ⟨(fun _ => ⟨(Le.trans hle225 hst226.rle'), hst226.get (i := 5) rfl⟩), ?_⟩
      refine LA_all [18] (by decide +kernel) (by simp) ?_
      intro i_ hi_
      simp only [List.mem_cons, List.not_mem_nil, or_false] at hi_
      subst hi_
      have hst238 := (hst226.front 4 rfl rfl)
      refine One_callS (i := 18) [cB64] [c230, co231, c158, c144, one b1 (.cells #[(.int .i64 q0), (.int .i64 q1)] 23 (0, 0))] hst238 rfl rfl rfl (Want.of rfl rfl rfl rfl (by rw [c175]; rfl)) (x_call (vs := #[(ptr p33 0), (.int .i64 q0), (.int .i64 q1)]) rfl rfl (by kernel_rfl) ent_14) (Bump_spec q0 q1 (hst238.sats.take 1 rfl) hm229 (by omega) (by omega)) (fun v239 w240 R241 L242 hp243 hle244 hst245 => ?_)
      have hm246 := Reg.lift hreg234 hle244
      have hm247 := OwnL.mono ho233 hle244
      have hm248 := OwnL.mono hm227 hle244
      have hm249 := OwnL.mono hm228 hle244
      obtain ⟨c250, co251, rfl, hreg252, ho253⟩ := hp243
      have hreg254 : Reg R241 p33 (RS.bump sb62 q0 q1) c250 := hreg252
      refine ⟨(fun _ => ⟨(Le.trans hle225 (Le.trans hle244 hst245.rle')), hst245.get (i := 6) rfl⟩), ?_⟩
      refine LA_all [19] (by decide +kernel) (by simp) ?_
      intro i_ hi_
      simp only [List.mem_cons, List.not_mem_nil, or_false] at hi_
      subst hi_
      refine One_call (i := 19) rfl rfl rfl (Want.of rfl rfl rfl rfl (by rw [c175]; rfl)) (x_call (vs := #[v220, v239]) rfl rfl (by kernel_rfl) ent_12) (EqualI_spec (w := w240) (R := hp w240) (v1 := v220) (v2 := v239) (xs := (RS.bumpL sa61 q0 q1)) (ys := (RS.bumpL sb62 q0 q1)) (Le.refl _) (OwnL.freeze hm247 hst245.rle' (hst245.get (i := 3) rfl)) (OwnL.freeze ho253 hst245.rle' (hst245.get (i := 1) rfl)) (bumpL_len _ _ _ (by omega))) ?_
      rintro e260 w258 ⟨rfl, hw261⟩
      have hst259 := hst245.grown hw261
      refine ⟨_, rfl, (fun _ => ⟨(Le.trans hle225 (Le.trans hle244 hst259.rle')), hst259.get (i := 6) rfl⟩), ?_⟩
      refine LA_takeP (v := (.bool (!(decide (((RS.bumpL sa61 q0 q1) : List Int) = (RS.bumpL sb62 q0 q1)))))) 20 rfl rfl rfl (by decide +kernel) (by decide +kernel) (by decide +kernel) (by decide +kernel) (fun _ _ _ h => h) (Want.of rfl rfl rfl rfl (by rw [c175]; rfl)) (fun u263 => rfl) (fun _ => ⟨(Le.trans hle225 (Le.trans hle244 hst259.rle')), hst259.get (i := 6) rfl⟩) ?_
      refine LA_takeP (v := (.bool (!(decide (((RS.bumpL sa61 q0 q1) : List Int) = (RS.bumpL sb62 q0 q1)))))) 21 rfl rfl rfl (by decide +kernel) (by decide +kernel) (by decide +kernel) (by decide +kernel) (fun _ _ _ h => h) (Want.plain rfl) (fun u266 => (x_pick rfl rfl (by rw [c175]; rfl))) (fun _ => ⟨(Le.trans hle225 (Le.trans hle244 hst259.rle')), hst259.get (i := 6) rfl⟩) ?_
      refine LA_done (by decide +kernel) ?_
      have c268 : (decide (((RS.bumpL sa61 q0 q1) : List Int) = (RS.bumpL sb62 q0 q1))) = true := decide_eq_true (bumpL_same hf56.ok hf57.ok hvv hga q0 q1)
      refine W_cond_false (by show Value.bool _ = _; exact congrArg Value.bool (by rw [c268]; rfl)) ?_
      refine W_skip ?_
      refine W_seq ?_
      refine W_seq ?_
      refine W_region_lit ?_
      refine L_val (v := (.slice a45 l1.length cap46)) (w' := w258) rfl rfl rfl rfl ?_
      refine L_val (v := (.int .i64 (l1.length : Int))) (w' := w258) rfl rfl rfl (x_len_slice rfl sl_22 rfl) ?_
      refine L_val (v := (.int .i64 0)) (w' := w258) rfl rfl rfl rfl ?_
      refine L_nil ?_
      refine W_block ?_
      refine W_loop (I := fun σ w_ m_ => ∃ (σ0 : Fr) (k_ : Nat), σ = upd (upd (upd (upd (upd (upd (upd (upd (upd (upd (upd (upd (upd (upd (upd (upd (upd (upd (upd (upd (upd (upd (upd (upd (upd (upd (upd (upd (upd (upd (upd (upd (upd (upd (upd (upd (upd (upd (upd (upd (upd (upd (upd (upd σ0 0 (.slice a45 l1.length cap46)) 1 (.int .u8 (t : Int))) 2 (.agg #[(.int .i64 q0), (.int .i64 q1)])) 5 (ptr b1 0)) 7 (.bool true)) 8 (ptr p20 0)) 9 (ptr p33 0)) 13 (.bool true)) 14 (ptr p20 0)) 15 (ptr p33 0)) 16 (.slice a37 l.length cap38)) 17 (.slice a37 l.length cap38)) 18 (.int .i64 (l.length : Int))) 19 (.int .i64 (((min l.length 6) : Nat) : Int))) 20 (.slice a45 l1.length cap46)) 21 (.slice a45 l1.length cap46)) 22 (.int .i64 (l1.length : Int))) 23 (.int .i64 (l1.length : Int))) 24 (.bool (decide ((l1.length : Int) < (l1.length : Int))))) 48 (ptr p20 0)) 49 v138) 50 (ptr p33 0)) 51 v152) 52 (.bool (decide (((RS.modules sa61) : List Int) = (RS.modules sb62))))) 53 (.bool (!(decide (((RS.modules sa61) : List Int) = (RS.modules sb62)))))) 54 (.bool (!(decide (((RS.modules sa61) : List Int) = (RS.modules sb62)))))) 55 (ptr p20 0)) 56 (ptr b1 0)) 57 (.int .i64 q0)) 58 (ptr b1 1)) 59 (.int .i64 q1)) 60 v220) 61 (ptr p33 0)) 62 (ptr b1 0)) 63 (.int .i64 q0)) 64 (ptr b1 1)) 65 (.int .i64 q1)) 66 v239) 67 (.bool (decide (((RS.bumpL sa61 q0 q1) : List Int) = (RS.bumpL sb62 q0 q1))))) 68 (.bool (!(decide (((RS.bumpL sa61 q0 q1) : List Int) = (RS.bumpL sb62 q0 q1)))))) 69 (.bool (!(decide (((RS.bumpL sa61 q0 q1) : List Int) = (RS.bumpL sb62 q0 q1)))))) 70 (.slice a45 l1.length cap46)) 71 (.int .i64 (l1.length : Int))) 72 (.int .i64 (k_ : Int)) ∧ mks (σ0 0) = [] ∧ Step w R [] w_ R241 [c230, c250] ∧ k_ ≤ l1.length ∧ m_ = l1.length - k_) (m := l1.length - 0) ?_ ?_
      · skip
        exact ⟨_, 0, (upd_of (upd_of (upd_of (upd_of (upd_of (upd_of (upd_of (upd_of (upd_of (upd_of (upd_of (upd_of (upd_of (upd_of (upd_of (upd_of (upd_of (upd_of (upd_of (upd_of (upd_of (upd_of (upd_of (upd_of (upd_of (upd_of (upd_of (upd_of (upd_of (upd_of (upd_of (upd_of (upd_of (upd_of (upd_of (upd_of (upd_of (upd_of (upd_of (upd_of (upd_of (upd_of (upd_of (upd_of rfl rfl) rfl) rfl) rfl) rfl) rfl) rfl) rfl) rfl) rfl) rfl) rfl) rfl) rfl) rfl) rfl) rfl) rfl) rfl) rfl) rfl) rfl) rfl) rfl) rfl) rfl) rfl) rfl) rfl) rfl) rfl) rfl) rfl) rfl) rfl) rfl) rfl) rfl) rfl) rfl) rfl) rfl) rfl) rfl), hmk49, ((hst259.front 2 rfl rfl).keepN 2 rfl), (by omega), rfl⟩
      · skip
        rintro m276 σ_ w271 ⟨s274, k_275, rfl, hmk269, hst270, hf273, rfl⟩
        refine W_seq ?_
        refine W_region_lit ?_
        refine L_val (v := (.bool (decide ((k_275 : Int) < (l1.length : Int))))) (w' := w271) rfl rfl rfl (by kernel_rfl) ?_
        refine L_nil ?_
        refine W_seq ?_
        rcases Bool.eq_false_or_eq_true (decide ((k_275 : Int) < (l1.length : Int))) with c277 | c277
        · skip
          have q278 := of_decide_eq_true c277
          refine W_cond_true (by show Value.bool _ = _; exact congrArg Value.bool c277) ?_
          refine W_skip ?_
          refine W_seq ?_
          refine W_block ?_
          refine W_seq ?_
          refine W_region_lit ?_
          refine L_val (v := (.int .i64 (k_275 : Int))) (w' := w271) rfl rfl rfl rfl ?_
          refine L_val (v := (.int .i64 (k_275 : Int))) (w' := w271) rfl rfl rfl rfl ?_
          refine L_nil ?_
          refine W_seq ?_
          refine W_region_lit ?_
          refine L_val (v := (ptr p20 0)) (w' := w271) rfl rfl rfl rfl ?_
          refine L_val (v := (.int .i64 (k_275 : Int))) (w' := w271) rfl rfl rfl rfl ?_
          refine L_callG hst270 (v := (.bool (holds (RS.bump sa61 q0 q1).vers (RS.bump sa61 q0 q1).mods (k_275 : Int)))) rfl rfl rfl (x_call (vs := #[(ptr p20 0), (.int .i64 (k_275 : Int))]) rfl rfl (by kernel_rfl) ent_15) (Holds_reg (w := w271) (k_275 : Int) hm246 hst270.rle' (hst270.get (i := 0) rfl)) (fun w279 hst280 => ?_)
          refine L_val (v := (ptr p33 0)) (w' := w279) rfl rfl rfl rfl ?_
          refine L_val (v := (.int .i64 (k_275 : Int))) (w' := w279) rfl rfl rfl rfl ?_
          refine L_callG hst280 (v := (.bool (holds (RS.bump sb62 q0 q1).vers (RS.bump sb62 q0 q1).mods (k_275 : Int)))) rfl rfl rfl (x_call (vs := #[(ptr p33 0), (.int .i64 (k_275 : Int))]) rfl rfl (by kernel_rfl) ent_15) (Holds_reg (w := w279) (k_275 : Int) hreg254 hst280.rle' (hst280.get (i := 1) rfl)) (fun w281 hst282 => ?_)
          refine L_val (v := (.bool ((holds (RS.bump sa61 q0 q1).vers (RS.bump sa61 q0 q1).mods (k_275 : Int)) != (holds (RS.bump sb62 q0 q1).vers (RS.bump sb62 q0 q1).mods (k_275 : Int))))) (w' := w281) rfl rfl rfl (by kernel_rfl) ?_
          refine L_nil ?_
          have c283 : ((holds (RS.bump sa61 q0 q1).vers (RS.bump sa61 q0 q1).mods (k_275 : Int)) != (holds (RS.bump sb62 q0 q1).vers (RS.bump sb62 q0 q1).mods (k_275 : Int))) = false := by rw [bump_same hvv hga]; exact bne_self_eq_false _
          refine W_cond_false (by show Value.bool _ = _; exact congrArg Value.bool c283) ?_
          refine W_skip ?_
          refine W_region_lit ?_
          refine L_val (v := (.int .i64 ((k_275 + 1 : Nat) : Int))) (w' := w281) rfl rfl rfl (x_add_nat rfl rfl rfl (by omega)) ?_
          refine L_val (v := (.int .i64 ((k_275 + 1 : Nat) : Int))) (w' := w281) rfl rfl rfl rfl ?_
          refine L_nil ?_
          refine ⟨l1.length - (k_275 + 1), by first | omega | (simp only [List.length_append, List.length_cons, List.length_nil]; omega), ?_⟩
          exact ⟨_, (k_275 + 1), (upd_of (upd_of (upd_of (upd_of (upd_of (upd_of (upd_of (upd_of (upd_of (upd_of (upd_of (upd_of (upd_of (upd_of (upd_of (upd_of (upd_of (upd_of (upd_of (upd_of (upd_of (upd_of (upd_of (upd_of (upd_of (upd_of (upd_of (upd_of (upd_of (upd_of (upd_of (upd_of (upd_of (upd_of (upd_of (upd_of (upd_of (upd_of (upd_of (upd_of (upd_of (upd_of (upd_of (upd_of rfl rfl) rfl) rfl) rfl) rfl) rfl) rfl) rfl) rfl) rfl) rfl) rfl) rfl) rfl) rfl) rfl) rfl) rfl) rfl) rfl) rfl) rfl) rfl) rfl) rfl) rfl) rfl) rfl) rfl) rfl) rfl) rfl) rfl) rfl) rfl) rfl) rfl) rfl) rfl) rfl) rfl) rfl) rfl) rfl), hmk269, ((hst282.front 1 rfl rfl).front 1 rfl rfl), (by omega), rfl⟩
        · skip
          have q284 := of_decide_eq_false c277
          refine W_cond_false (by show Value.bool _ = _; exact congrArg Value.bool c277) ?_
          refine W_exit ?_
          refine W_seq ?_
          refine W_region_lit ?_
          refine L_val (v := (.bool true)) (w' := w271) rfl rfl rfl rfl ?_
          refine L_val (v := (.bool true)) (w' := w271) rfl rfl rfl rfl ?_
          refine L_nil ?_
          refine W_ret ?_
          refine ⟨_, _, res_run (rs := [.tmp 6]) (vs := [(.bool true)]) Try.results3 (.cons (.tmp rfl) .nil) hmk269, ?_⟩
          exact ⟨_, _, [], rfl, hst270.keepN 0 rfl, rfl, rfl⟩

end Go.Fx.Ytlfabjfajcbdcaa
