/-
  Chapter 27: sanity, printed by gen11.py.
-/
import Derived.Test.YtlfabjfajcbdcaaAs10
set_option linter.unusedSimpArgs false
set_option linter.unusedVariables false
namespace Go.Fx.Ytlfabjfajcbdcaa
open Go Go.Fx Go.Proofs
set_option maxRecDepth 20000

theorem ent_10 : Ent Try.prog 10 := fun _ _ => by kernel_rfl
theorem ent_11 : Ent Try.prog 11 := fun _ _ => by kernel_rfl
theorem ent_12 : Ent Try.prog 12 := fun _ _ => by kernel_rfl
theorem ent_14 : Ent Try.prog 14 := fun _ _ => by kernel_rfl
theorem ent_22 : Ent Try.prog 22 := fun _ _ => by kernel_rfl
theorem ent_24 : Ent Try.prog 24 := fun _ _ => by kernel_rfl
theorem ent_26 : Ent Try.prog 26 := fun _ _ => by kernel_rfl
theorem ti_56 : TI Try.prog 56 true 4 64 (.agg #[(.int .i64 0), (.int .i64 0), (.slice none 0 0), (.slice none 0 0)]) := ⟨by kernel_rfl, by kernel_rfl⟩

theorem sanity_spec {w : World} {R : Hp} (hs : Sats w R []) :
    Calls Try.prog 9 #[] w (Comes' w R [] fun v' R' L' => v' = .bool true ∧ L' = []) := by
  have hst := Step.refl hs
  refine calls_of_W (n := 59) Try.func9 rfl Try.ntmps9 (Nat.le_of_ble_eq_true rfl) ?_
  refine W_seq ?_
  refine W_region_lit ?_
  refine L_val (v := (.bool false)) (w' := w) rfl rfl rfl rfl ?_
  refine L_nil ?_
  refine W_seq ?_
  refine W_region_lit ?_
  have hst1 := hst
  refine L_callS [] [] hst1 rfl rfl rfl (x_call (vs := #[(.int .i64 2), (.int .i64 1)]) rfl rfl (by kernel_rfl) ent_10) (New_spec (f := 2) (c := 1) (hst1.sats.take 0 rfl) (by decide) (by decide)) (fun v2 w3 R4 L5 hp6 hle7 hst8 => ?_)
  obtain ⟨p9, c10, rfl, rfl, hreg11⟩ := hp6
  have hreg12 : Reg R4 p9 g0 c10 := hreg11
  refine L_val (v := (ptr p9 0)) (w' := w3) rfl rfl rfl rfl ?_
  refine L_nil ?_
  refine W_seq ?_
  refine W_seq ?_
  refine W_region_lit ?_
  refine L_val (v := (ptr p9 0)) (w' := w3) rfl rfl rfl rfl ?_
  refine L_val (v := (.bool false)) (w' := w3) rfl rfl rfl (by kernel_rfl) ?_
  refine L_val (v := (.bool false)) (w' := w3) rfl rfl rfl rfl ?_
  refine L_guard rfl rfl rfl rfl rfl ?_
  refine L_val (v := (ptr p9 0)) (w' := w3) rfl rfl rfl rfl ?_
  refine L_guard rfl rfl rfl rfl rfl ?_
  refine L_callG hst8 (v := (.int .i64 1)) rfl rfl rfl (x_call (vs := #[(ptr p9 0), (.int .i64 1), (.int .i64 1)]) rfl rfl (by kernel_rfl) ent_16) (by have h_ := Version_reg (w := w3) 1 1 hreg12 (hst8.get (i := 0) rfl); rw [g0_v1] at h_; exact h_) (fun w13 hst14 => ?_)
  refine L_guard rfl rfl rfl rfl rfl ?_
  refine L_val (v := (.bool false)) (w' := w13) rfl rfl rfl (by kernel_rfl) ?_
  refine L_val (v := (.bool false)) (w' := w13) rfl rfl rfl rfl ?_
  refine L_val (v := (.bool false)) (w' := w13) rfl rfl rfl rfl ?_
  refine L_guard rfl rfl rfl rfl rfl ?_
  refine L_val (v := (ptr p9 0)) (w' := w13) rfl rfl rfl rfl ?_
  refine L_guard rfl rfl rfl rfl rfl ?_
  refine L_callG hst14 (v := (.int .i64 (-1))) rfl rfl rfl (x_call (vs := #[(ptr p9 0), (.int .i64 2), (.int .i64 1)]) rfl rfl (by kernel_rfl) ent_16) (by have h_ := Version_reg (w := w13) 2 1 hreg12 (hst14.get (i := 0) rfl); rw [g0_v2] at h_; exact h_) (fun w15 hst16 => ?_)
  refine L_guard rfl rfl rfl rfl rfl ?_
  refine L_val (v := (.bool false)) (w' := w15) rfl rfl rfl (by kernel_rfl) ?_
  refine L_val (v := (.bool false)) (w' := w15) rfl rfl rfl rfl ?_
  refine L_val (v := (.bool false)) (w' := w15) rfl rfl rfl rfl ?_
  refine L_guard rfl rfl rfl rfl rfl ?_
  refine L_val (v := (ptr p9 0)) (w' := w15) rfl rfl rfl rfl ?_
  refine L_guard rfl rfl rfl rfl rfl ?_
  refine L_callG hst16 (v := (.int .i64 (-1))) rfl rfl rfl (x_call (vs := #[(ptr p9 0), (.int .i64 9), (.int .i64 0)]) rfl rfl (by kernel_rfl) ent_16) (by have h_ := Version_reg (w := w15) 9 0 hreg12 (hst16.get (i := 0) rfl); rw [g0_v3] at h_; exact h_) (fun w17 hst18 => ?_)
  refine L_guard rfl rfl rfl rfl rfl ?_
  refine L_val (v := (.bool false)) (w' := w17) rfl rfl rfl (by kernel_rfl) ?_
  refine L_val (v := (.bool false)) (w' := w17) rfl rfl rfl rfl ?_
  refine L_nil ?_
  refine W_cond_false (by show Value.bool _ = _; exact congrArg Value.bool rfl) ?_
  refine W_skip ?_
  refine W_seq ?_
  refine W_seq ?_
  refine W_region_lit ?_
  refine L_val (v := (ptr p9 0)) (w' := w17) rfl rfl rfl rfl ?_
  refine L_callG hst18 (v := (.agg #[(.int .i64 1), (.int .i64 0), (.int .i64 1)])) rfl rfl rfl (x_call (vs := #[(.int .i64 1), (.int .i64 0), (.int .i64 1)]) rfl rfl (by kernel_rfl) ent_24) (fact_spec 1 0 1 (Le.refl _)) (fun w19 hst20 => ?_)
  refine L_callG hst20 (v := (.agg #[(.int .i64 2), (.int .i64 0), (.int .i64 1)])) rfl rfl rfl (x_call (vs := #[(.int .i64 2), (.int .i64 0), (.int .i64 1)]) rfl rfl (by kernel_rfl) ent_24) (fact_spec 2 0 1 (Le.refl _)) (fun w21 hst22 => ?_)
  refine L_new hst22 (v := fun b => .slice (some ⟨b, 0, none⟩) 2 2) (ob := .cells #[(.int .i64 1), (.int .i64 0), (.int .i64 1), (.int .i64 2), (.int .i64 0), (.int .i64 1)] 38 (0, 0)) rfl rfl rfl (by kernel_rfl) (fun b23 w24 hst25 => ?_)
  obtain ⟨R26, hst27, hle28, hc29⟩ := Step.frz hst25
  have hm30 := Reg.lift hreg12 hle28
  have hrd31 : RdS tyFact R26 (.slice (some ⟨b23, 0, none⟩) 2 2) [⟨1, 0, 1⟩, ⟨2, 0, 1⟩] := OwnL.freeze (R := R26) (OwnL.lit (T := 38) (cs := [(.int .i64 1), (.int .i64 0), (.int .i64 1), (.int .i64 2), (.int .i64 0), (.int .i64 1)]) (Encs.cons (tyFact_mk _ _ _ _) (Encs.cons (tyFact_mk _ _ _ _) (Encs.nil))) rfl (by decide)) (Le.refl _) hc29
  have hst32 := hst27
  refine L_callS [c10] [] hst32 rfl rfl rfl (x_call (vs := #[(ptr p9 0), (.int .i64 7), (.slice (some ⟨b23, 0, none⟩) 2 2)]) rfl rfl (by kernel_rfl) ent_11) (Add_spec 7 hrd31 (by simp) (hst32.sats.take 1 rfl) hm30) (fun v33 w34 R35 L36 hp37 hle38 hst39 => ?_)
  obtain ⟨c40, hv41, rfl, hreg42⟩ := hp37
  rw [g0_add] at hv41
  subst hv41
  have hreg43 : Reg R35 p9 g1 c40 := hreg42
  refine L_val (v := (.bool false)) (w' := w34) rfl rfl rfl (by kernel_rfl) ?_
  refine L_val (v := (.bool false)) (w' := w34) rfl rfl rfl rfl ?_
  refine L_guard rfl rfl rfl rfl rfl ?_
  refine L_val (v := (ptr p9 0)) (w' := w34) rfl rfl rfl rfl ?_
  refine L_guard rfl rfl rfl rfl rfl ?_
  refine L_callG hst39 (v := (.bool true)) rfl rfl rfl (x_call (vs := #[(ptr p9 0), (.int .i64 7)]) rfl rfl (by kernel_rfl) ent_15) (by have h_ := Holds_reg (w := w34) 7 hreg43 hst39.rle' (hst39.get (i := 0) rfl); rw [g1_holds] at h_; exact h_) (fun w44 hst45 => ?_)
  refine L_guard rfl rfl rfl rfl rfl ?_
  refine L_val (v := (.bool false)) (w' := w44) rfl rfl rfl rfl ?_
  refine L_val (v := (.bool false)) (w' := w44) rfl rfl rfl rfl ?_
  refine L_nil ?_
  refine W_cond_false (by show Value.bool _ = _; exact congrArg Value.bool rfl) ?_
  refine W_skip ?_
  refine W_seq ?_
  refine W_seq ?_
  refine W_region_lit ?_
  refine L_val (v := (ptr p9 0)) (w' := w44) rfl rfl rfl rfl ?_
  have hst46 := hst45
  refine L_callS [c40] [] hst46 rfl rfl rfl (x_call (vs := #[(ptr p9 0), (.int .i64 2), (.int .i64 0)]) rfl rfl (by kernel_rfl) ent_14) (Bump_spec 2 0 (hst46.sats.take 1 rfl) hreg43 (by rw [g1_eq]; decide) (by rw [g1_eq]; decide)) (fun v47 w48 R49 L50 hp51 hle52 hst53 => ?_)
  obtain ⟨c54, co55, rfl, hreg56, ho57⟩ := hp51
  rw [g1_bump] at ho57
  have hreg58 : Reg R49 p9 g2 c54 := hreg56
  refine L_new hst53 (v := fun b => .slice (some ⟨b, 0, none⟩) 1 1) (ob := .cells #[(.int .i64 7)] 3 (0, 0)) rfl rfl rfl (by kernel_rfl) (fun b59 w60 hst61 => ?_)
  refine L_callG hst61 (v := (.bool true)) rfl rfl rfl (x_call (vs := #[v47, (.slice (some ⟨b59, 0, none⟩) 1 1)]) rfl rfl (by kernel_rfl) ent_12) (by have h_ := EqualI_spec (w := w60) (R := hp w60) (v1 := v47) (v2 := (.slice (some ⟨b59, 0, none⟩) 1 1)) (xs := [7]) (ys := [7]) (Le.refl _) (OwnL.freeze ho57 hst61.rle' (hst61.get (i := 2) rfl)) (OwnL.freeze (OwnL.lit (T := 3) (R := R49) (cs := [(.int .i64 7)]) (int_mk _ _) rfl (by decide)) hst61.rle' (hst61.get (i := 0) rfl)) (by simp); rw [show decide (([7] : List Int) = [7]) = true by simp] at h_; exact h_) (fun w62 hst63 => ?_)
  refine L_val (v := (.bool false)) (w' := w62) rfl rfl rfl rfl ?_
  refine L_val (v := (.bool false)) (w' := w62) rfl rfl rfl rfl ?_
  refine L_guard rfl rfl rfl rfl rfl ?_
  refine L_val (v := (ptr p9 0)) (w' := w62) rfl rfl rfl rfl ?_
  refine L_guard rfl rfl rfl rfl rfl ?_
  refine L_callG hst63 (v := (.bool false)) rfl rfl rfl (x_call (vs := #[(ptr p9 0), (.int .i64 7)]) rfl rfl (by kernel_rfl) ent_15) (by have h_ := Holds_reg (w := w62) 7 hreg58 hst63.rle' (hst63.get (i := 1) rfl); rw [g2_holds] at h_; exact h_) (fun w64 hst65 => ?_)
  refine L_val (v := (.bool false)) (w' := w64) rfl rfl rfl rfl ?_
  refine L_val (v := (.bool false)) (w' := w64) rfl rfl rfl rfl ?_
  refine L_guard rfl rfl rfl rfl rfl ?_
  refine L_val (v := (ptr p9 0)) (w' := w64) rfl rfl rfl rfl ?_
  refine L_guard rfl rfl rfl rfl rfl ?_
  refine L_callG hst65 (v := (.agg #[(.int .i64 2), (.int .i64 0), (.int .i64 1)])) rfl rfl rfl (x_call (vs := #[(.int .i64 2), (.int .i64 0), (.int .i64 1)]) rfl rfl (by kernel_rfl) ent_24) (fact_spec 2 0 1 (Le.refl _)) (fun w66 hst67 => ?_)
  refine L_guard rfl rfl rfl rfl rfl ?_
  refine L_new hst67 (v := fun b => .slice (some ⟨b, 0, none⟩) 1 1) (ob := .cells #[(.int .i64 2), (.int .i64 0), (.int .i64 1)] 38 (0, 0)) rfl rfl rfl (by kernel_rfl) (fun b68 w69 hst70 => ?_)
  refine L_guard rfl rfl rfl rfl rfl ?_
  obtain ⟨R71, hst72, hle73, hc74⟩ := Step.frz hst70
  have hm75 := Reg.lift hreg58 hle73
  have hm76 := OwnL.mono ho57 hle73
  have hrd77 : RdS tyFact R71 (.slice (some ⟨b68, 0, none⟩) 1 1) [⟨2, 0, 1⟩] := OwnL.freeze (R := R71) (OwnL.lit (T := 38) (cs := [(.int .i64 2), (.int .i64 0), (.int .i64 1)]) (Encs.cons (tyFact_mk _ _ _ _) (Encs.nil)) rfl (by decide)) (Le.refl _) hc74
  have hst78 := (hst72.front 1 rfl rfl)
  refine L_callS [c54] [one b59 (.cells #[(.int .i64 7)] 3 (0, 0)), co55] hst78 rfl rfl rfl (x_call (vs := #[(ptr p9 0), (.int .i64 8), (.slice (some ⟨b68, 0, none⟩) 1 1)]) rfl rfl (by kernel_rfl) ent_11) (Add_spec 8 hrd77 (by simp) (hst78.sats.take 1 rfl) hm75) (fun v79 w80 R81 L82 hp83 hle84 hst85 => ?_)
  have hm86 := OwnL.mono hm76 hle84
  obtain ⟨c87, hv88, rfl, hreg89⟩ := hp83
  rw [g2_add] at hv88
  subst hv88
  have hreg90 : Reg R81 p9 g2 c87 := (by simpa only [g2_same] using hreg89)
  refine L_guard rfl rfl rfl rfl rfl ?_
  refine L_val (v := (.bool false)) (w' := w80) rfl rfl rfl (by kernel_rfl) ?_
  refine L_val (v := (.bool false)) (w' := w80) rfl rfl rfl rfl ?_
  refine L_nil ?_
  refine W_cond_false (by show Value.bool _ = _; exact congrArg Value.bool rfl) ?_
  refine W_skip ?_
  refine W_seq ?_
  refine W_region_lit ?_
  refine L_val (v := (.agg #[(.int .i64 1), (.int .i64 3)])) (w' := w80) rfl rfl rfl (by kernel_rfl) ?_
  refine L_val (v := (.agg #[(.int .i64 16), (.int .i64 0), (.int .i64 0), (.int .i64 0), (.int .i64 0), (.slice none 0 0), (.int .i64 0), (.int .i64 0), (.string ⟨#[]⟩), (.slice none 0 0), (.int .i64 0), (.int .i64 0), (.int .i64 (-1)), (.bool false)])) (w' := w80) rfl rfl rfl (by kernel_rfl) ?_
  refine L_new hst85 (v := fun b => .slice (some ⟨b, 0, none⟩) 1 1) (ob := .cells #[(.int .i64 16), (.int .i64 0), (.int .i64 0), (.int .i64 0), (.int .i64 0), (.slice none 0 0), (.int .i64 0), (.int .i64 0), (.string ⟨#[]⟩), (.slice none 0 0), (.int .i64 0), (.int .i64 0), (.int .i64 (-1)), (.bool false)] 71 (0, 0)) rfl rfl rfl (by kernel_rfl) (fun b91 w92 hst93 => ?_)
  refine L_val (v := (.agg #[(.int .i64 1), (.int .i64 3), (.slice (some ⟨b91, 0, none⟩) 1 1), (.slice none 0 0)])) (w' := w92) rfl rfl rfl (by kernel_rfl) ?_
  refine L_new hst93 (v := fun b => ptr b 0) (ob := .cells #[(.int .i64 0), (.int .i64 0), (.slice none 0 0), (.slice none 0 0)] 56 (0, 0)) rfl rfl rfl (by kernel_rfl) (fun b94 w95 hst96 => ?_)
  refine L_store hst96 0 ti_56 rfl rfl rfl rfl rfl rfl rfl rfl rfl rfl rfl (fun w97 hst98 => ?_)
  change Step _ _ _ _ _ [one b94 (.cells #[(.int .i64 1), (.int .i64 3), (.slice (some ⟨b91, 0, none⟩) 1 1), (.slice none 0 0)] 56 (0, 0)), one b91 (.cells #[(.int .i64 16), (.int .i64 0), (.int .i64 0), (.int .i64 0), (.int .i64 0), (.slice none 0 0), (.int .i64 0), (.int .i64 0), (.string ⟨#[]⟩), (.slice none 0 0), (.int .i64 0), (.int .i64 0), (.int .i64 (-1)), (.bool false)] 71 (0, 0)), c87, one b59 (.cells #[(.int .i64 7)] 3 (0, 0)), co55] at hst98
  refine L_nil ?_
  refine W_seq ?_
  refine W_region_lit ?_
  refine L_val (v := (ptr p9 0)) (w' := w97) rfl rfl rfl rfl ?_
  refine L_val (v := (.agg #[(.int .i64 1), (.int .i64 3), (.slice (some ⟨b91, 0, none⟩) 1 1), (.slice none 0 0)])) (w' := w97) rfl rfl rfl (x_load rfl rfl (run_loadVar_agg ti_56 (hst98.blk (i := 0) rfl) (l := [(.int .i64 1), (.int .i64 3), (.slice (some ⟨b91, 0, none⟩) 1 1), (.slice none 0 0)]) rfl rfl)) ?_
  refine L_call rfl rfl rfl (x_call (vs := #[(ptr p9 0), (.agg #[(.int .i64 1), (.int .i64 3), (.slice (some ⟨b91, 0, none⟩) 1 1), (.slice none 0 0)])]) rfl rfl (by kernel_rfl) ent_22) (Facts_reg hreg90 (hst98.get (i := 2) rfl) (hst98.get (i := 1) rfl) g2_pos) ?_
  rintro e99 w100 ⟨v101, R102, L103, rfl, hst104, c105, ys106, rfl, ho107, hp108, hp109⟩
  refine ⟨_, rfl, ?_⟩
  have hst110 := Step.gain hst98 hst104
  rw [g2_facts] at hp108
  obtain rfl := two_sorted hp108 hp109 (by decide)
  have ho111 := OwnL.refact (R' := R81) ho107
  refine L_callG hst110 (v := (.agg #[(.int .i64 1), (.int .i64 1), (.int .i64 1)])) rfl rfl rfl (x_call (vs := #[(.int .i64 1), (.int .i64 1), (.int .i64 1)]) rfl rfl (by kernel_rfl) ent_24) (fact_spec 1 1 1 (Le.refl _)) (fun w112 hst113 => ?_)
  refine L_callG hst113 (v := (.agg #[(.int .i64 2), (.int .i64 0), (.int .i64 2)])) rfl rfl rfl (x_call (vs := #[(.int .i64 2), (.int .i64 0), (.int .i64 2)]) rfl rfl (by kernel_rfl) ent_24) (fact_spec 2 0 2 (Le.refl _)) (fun w114 hst115 => ?_)
  refine L_new hst115 (v := fun b => .slice (some ⟨b, 0, none⟩) 2 2) (ob := .cells #[(.int .i64 1), (.int .i64 1), (.int .i64 1), (.int .i64 2), (.int .i64 0), (.int .i64 2)] 38 (0, 0)) rfl rfl rfl (by kernel_rfl) (fun b116 w117 hst118 => ?_)
  refine L_callG hst118 (v := (.bool true)) rfl rfl rfl (x_call (vs := #[v101, (.slice (some ⟨b116, 0, none⟩) 2 2)]) rfl rfl (by kernel_rfl) ent_26) (by have h_ := EqualF_spec (w := w117) (R := hp w117) (v1 := v101) (v2 := (.slice (some ⟨b116, 0, none⟩) 2 2)) (xs := [⟨1, 1, 1⟩, ⟨2, 0, 2⟩]) (ys := [⟨1, 1, 1⟩, ⟨2, 0, 2⟩]) (Le.refl _) (OwnL.freeze ho111 hst118.rle' (hst118.get (i := 1) rfl)) (OwnL.freeze (OwnL.lit (T := 38) (R := R81) (cs := [(.int .i64 1), (.int .i64 1), (.int .i64 1), (.int .i64 2), (.int .i64 0), (.int .i64 2)]) (Encs.cons (tyFact_mk _ _ _ _) (Encs.cons (tyFact_mk _ _ _ _) (Encs.nil))) rfl (by decide)) hst118.rle' (hst118.get (i := 0) rfl)) (by simp); rw [show decide (([⟨1, 1, 1⟩, ⟨2, 0, 2⟩] : List Fact) = [⟨1, 1, 1⟩, ⟨2, 0, 2⟩]) = true by simp] at h_; exact h_) (fun w119 hst120 => ?_)
  refine L_val (v := (.bool true)) (w' := w119) rfl rfl rfl rfl ?_
  refine L_nil ?_
  refine W_ret ?_
  refine ⟨_, _, res_run (rs := [.tmp 0]) (vs := [(.bool true)]) Try.results9 (.cons (.tmp rfl) .nil) rfl, ?_⟩
  exact ⟨_, _, [], rfl, hst120.keepN 0 rfl, rfl, rfl⟩

end Go.Fx.Ytlfabjfajcbdcaa
