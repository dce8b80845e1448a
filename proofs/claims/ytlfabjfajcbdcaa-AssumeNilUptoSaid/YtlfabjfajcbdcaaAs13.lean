/-
  Chapter 27: AssumeRemoved, printed by gen13.py.
-/
import Derived.Test.YtlfabjfajcbdcaaAs12
set_option linter.unusedSimpArgs false
set_option linter.unusedVariables false
namespace Go.Fx.Ytlfabjfajcbdcaa
open Go Go.Fx Go.Proofs
set_option maxRecDepth 20000

theorem ent_21 : Ent Try.prog 21 := fun _ _ => by kernel_rfl
theorem ent_9 : Ent Try.prog 9 := fun _ _ => by kernel_rfl

theorem Removed_walk {w : World} {R : Hp} {a0 a1 k f : Int} (hs : Sats w R []) (hk8 : Int.tmod a0 9 = k) (hf8 : Int.tmod a1 4 = f) (hk : 0 ≤ k) (hk9 : k < 9) (hf : 0 ≤ f) (hf4 : f < 4) :
    Calls Try.prog 7 #[.int .u8 a0, .int .u8 a1] w (Comes' w R [] fun v' R' L' => v' = .bool true ∧ L' = []) := by
  have hst := Step.refl hs
  refine calls_of_W (n := 83) Try.func7 rfl Try.ntmps7 (Nat.le_of_ble_eq_true rfl) ?_
  refine W_seq ?_
  refine W_region_lit ?_
  refine L_val (v := (.bool false)) (w' := w) rfl rfl rfl rfl ?_
  refine L_nil ?_
  refine W_seq ?_
  refine W_region_lit ?_
  have hst1 := hst
  refine L_callS [] [] hst1 rfl rfl rfl (x_call (vs := #[]) rfl rfl (by kernel_rfl) ent_9) (sanity_spec (hst1.sats.take 0 rfl)) (fun v2 w3 R4 L5 hp6 hle7 hst8 => ?_)
  obtain ⟨rfl, rfl⟩ := hp6
  refine L_val (v := (.bool true)) (w' := w3) rfl rfl rfl rfl ?_
  refine L_nil ?_
  refine W_seq ?_
  refine W_region_lit ?_
  have hst9 := hst8
  refine L_callS [] [] hst9 rfl rfl rfl (x_call (vs := #[(.int .i64 4), (.int .i64 0)]) rfl rfl (by kernel_rfl) ent_10) (New_spec (f := 4) (c := 0) (hst9.sats.take 0 rfl) (by decide) (by decide)) (fun v10 w11 R12 L13 hp14 hle15 hst16 => ?_)
  obtain ⟨p17, c18, rfl, rfl, hreg19⟩ := hp14
  have hreg20 : Reg R12 p17 k0 c18 := hreg19
  refine L_val (v := (ptr p17 0)) (w' := w11) rfl rfl rfl rfl ?_
  refine L_nil ?_
  refine W_seq ?_
  refine W_region_lit ?_
  refine L_val (v := (.int .u8 a0)) (w' := w11) rfl rfl rfl rfl ?_
  refine L_val (v := (.int .u8 k)) (w' := w11) rfl rfl rfl (x_rem8 rfl rfl rfl (by decide) hk8) ?_
  refine L_val (v := (.int .i64 k)) (w' := w11) rfl rfl rfl (x_conv8 rfl rfl hk hk9) ?_
  refine L_val (v := (.int .u8 a1)) (w' := w11) rfl rfl rfl rfl ?_
  refine L_val (v := (.int .u8 f)) (w' := w11) rfl rfl rfl (x_rem8 rfl rfl rfl (by decide) hf8) ?_
  refine L_val (v := (.int .i64 f)) (w' := w11) rfl rfl rfl (x_conv8 rfl rfl hf (by omega)) ?_
  refine L_val (v := (.int .i64 k)) (w' := w11) rfl rfl rfl rfl ?_
  refine L_val (v := (.int .i64 f)) (w' := w11) rfl rfl rfl rfl ?_
  refine L_nil ?_
  refine W_seq ?_
  refine W_seq ?_
  refine W_region_lit ?_
  refine L_val (v := (ptr p17 0)) (w' := w11) rfl rfl rfl rfl ?_
  refine L_val (v := (.int .i64 k)) (w' := w11) rfl rfl rfl rfl ?_
  refine L_val (v := (.int .i64 f)) (w' := w11) rfl rfl rfl rfl ?_
  refine L_callG hst16 (v := (.agg #[(.int .i64 1), (.int .i64 f), (.int .i64 1)])) rfl rfl rfl (x_call (vs := #[(.int .i64 1), (.int .i64 f), (.int .i64 1)]) rfl rfl (by kernel_rfl) ent_24) (fact_spec 1 f 1 (Le.refl _)) (fun w21 hst22 => ?_)
  refine L_new hst22 (v := fun b => .slice (some ⟨b, 0, none⟩) 1 1) (ob := .cells #[(.int .i64 1), (.int .i64 f), (.int .i64 1)] 38 (0, 0)) rfl rfl rfl (by kernel_rfl) (fun b23 w24 hst25 => ?_)
  obtain ⟨R26, hst27, hle28, hc29⟩ := Step.frz hst25
  have hm30 := Reg.lift hreg20 hle28
  have hrd31 : RdS tyFact R26 (.slice (some ⟨b23, 0, none⟩) 1 1) [⟨1, f, 1⟩] := OwnL.freeze (R := R26) (OwnL.lit (T := 38) (cs := [(.int .i64 1), (.int .i64 f), (.int .i64 1)]) (Encs.cons (tyFact_mk _ _ _ _) (Encs.nil)) rfl (by decide)) (Le.refl _) hc29
  have hst32 := hst27
  refine L_callS [c18] [] hst32 rfl rfl rfl (x_call (vs := #[(ptr p17 0), (.int .i64 k), (.slice (some ⟨b23, 0, none⟩) 1 1)]) rfl rfl (by kernel_rfl) ent_11) (Add_spec k hrd31 (by simp) (hst32.sats.take 1 rfl) hm30) (fun v33 w34 R35 L36 hp37 hle38 hst39 => ?_)
  obtain ⟨c40, hv41, rfl, hreg42⟩ := hp37
  rw [k0_add hk hf hf4] at hv41
  subst hv41
  have hreg43 : Reg R35 p17 (k1 k f) c40 := hreg42
  refine L_val (v := (.bool false)) (w' := w34) rfl rfl rfl (by kernel_rfl) ?_
  refine L_val (v := (.bool false)) (w' := w34) rfl rfl rfl rfl ?_
  refine L_guard rfl rfl rfl rfl rfl ?_
  refine L_val (v := (ptr p17 0)) (w' := w34) rfl rfl rfl rfl ?_
  refine L_guard rfl rfl rfl rfl rfl ?_
  refine L_val (v := (.int .i64 k)) (w' := w34) rfl rfl rfl rfl ?_
  refine L_guard rfl rfl rfl rfl rfl ?_
  have hst44 := hst39
  refine L_callS [c40] [] hst44 rfl rfl rfl (x_call (vs := #[(ptr p17 0), (.int .i64 k), (.slice none 0 0)]) rfl rfl (by kernel_rfl) ent_11) (Add_spec k (RdS.empty _ _) (by simp) (hst44.sats.take 1 rfl) hreg43) (fun v45 w46 R47 L48 hp49 hle50 hst51 => ?_)
  obtain ⟨c52, hv53, rfl, hreg54⟩ := hp49
  rw [k1_busy hk hf hf4] at hv53
  subst hv53
  have hreg55 : Reg R47 p17 (k1 k f) c52 := (by simpa only [RS.add_same (k1_busy hk hf hf4) (by decide), RS.add_same (k2_busy hk hf hf4) (by decide), RS.add_same (k3_stale hk hf hf4) (by decide), k3_same hk hf hf4] using hreg54)
  refine L_guard rfl rfl rfl rfl rfl ?_
  refine L_val (v := (.bool false)) (w' := w46) rfl rfl rfl (by kernel_rfl) ?_
  refine L_val (v := (.bool false)) (w' := w46) rfl rfl rfl rfl ?_
  refine L_nil ?_
  refine W_cond_false (by show Value.bool _ = _; exact congrArg Value.bool rfl) ?_
  refine W_skip ?_
  refine W_seq ?_
  refine W_seq ?_
  refine W_region_lit ?_
  refine L_val (v := (ptr p17 0)) (w' := w46) rfl rfl rfl rfl ?_
  refine L_val (v := (.int .i64 f)) (w' := w46) rfl rfl rfl rfl ?_
  have hst56 := hst51
  refine L_callS [c52] [] hst56 rfl rfl rfl (x_call (vs := #[(ptr p17 0), (.int .i64 1), (.int .i64 f)]) rfl rfl (by kernel_rfl) ent_14) (Bump_spec 1 f (hst56.sats.take 1 rfl) hreg55 (by rw [k1_eq hk hf hf4]; simp) (by rw [k1_eq hk hf hf4]; simp)) (fun v57 w58 R59 L60 hp61 hle62 hst63 => ?_)
  obtain ⟨c64, co65, rfl, hreg66, ho67⟩ := hp61
  rw [k1_bump hk hf hf4] at ho67
  have hreg68 : Reg R59 p17 (k2 k f) c64 := hreg66
  refine L_val (v := (.int .i64 k)) (w' := w58) rfl rfl rfl rfl ?_
  refine L_new hst63 (v := fun b => .slice (some ⟨b, 0, none⟩) 1 1) (ob := .cells #[(.int .i64 k)] 3 (0, 0)) rfl rfl rfl (by kernel_rfl) (fun b69 w70 hst71 => ?_)
  refine L_callG hst71 (v := (.bool true)) rfl rfl rfl (x_call (vs := #[v57, (.slice (some ⟨b69, 0, none⟩) 1 1)]) rfl rfl (by kernel_rfl) ent_12) (by have h_ := EqualI_spec (w := w70) (R := hp w70) (v1 := v57) (v2 := (.slice (some ⟨b69, 0, none⟩) 1 1)) (xs := [k]) (ys := [k]) (Le.refl _) (OwnL.freeze ho67 hst71.rle' (hst71.get (i := 2) rfl)) (OwnL.freeze (OwnL.lit (T := 3) (R := R59) (cs := [(.int .i64 k)]) (int_mk _ _) rfl (by decide)) hst71.rle' (hst71.get (i := 0) rfl)) (by simp); rw [show decide (([k] : List Int) = [k]) = true by simp] at h_; exact h_) (fun w72 hst73 => ?_)
  refine L_val (v := (.bool false)) (w' := w72) rfl rfl rfl rfl ?_
  refine L_val (v := (.bool false)) (w' := w72) rfl rfl rfl rfl ?_
  refine L_guard rfl rfl rfl rfl rfl ?_
  refine L_val (v := (ptr p17 0)) (w' := w72) rfl rfl rfl rfl ?_
  refine L_guard rfl rfl rfl rfl rfl ?_
  refine L_val (v := (.int .i64 k)) (w' := w72) rfl rfl rfl rfl ?_
  refine L_guard rfl rfl rfl rfl rfl ?_
  have hst74 := (hst73.front 1 rfl rfl)
  refine L_callS [c64] [one b69 (.cells #[(.int .i64 k)] 3 (0, 0)), co65] hst74 rfl rfl rfl (x_call (vs := #[(ptr p17 0), (.int .i64 k), (.slice none 0 0)]) rfl rfl (by kernel_rfl) ent_11) (Add_spec k (RdS.empty _ _) (by simp) (hst74.sats.take 1 rfl) hreg68) (fun v75 w76 R77 L78 hp79 hle80 hst81 => ?_)
  have hm82 := OwnL.mono ho67 hle80
  obtain ⟨c83, hv84, rfl, hreg85⟩ := hp79
  rw [k2_busy hk hf hf4] at hv84
  subst hv84
  have hreg86 : Reg R77 p17 (k2 k f) c83 := (by simpa only [RS.add_same (k1_busy hk hf hf4) (by decide), RS.add_same (k2_busy hk hf hf4) (by decide), RS.add_same (k3_stale hk hf hf4) (by decide), k3_same hk hf hf4] using hreg85)
  refine L_guard rfl rfl rfl rfl rfl ?_
  refine L_val (v := (.bool false)) (w' := w76) rfl rfl rfl (by kernel_rfl) ?_
  refine L_val (v := (.bool false)) (w' := w76) rfl rfl rfl rfl ?_
  refine L_val (v := (.bool false)) (w' := w76) rfl rfl rfl rfl ?_
  refine L_guard rfl rfl rfl rfl rfl ?_
  refine L_val (v := (ptr p17 0)) (w' := w76) rfl rfl rfl rfl ?_
  refine L_guard rfl rfl rfl rfl rfl ?_
  refine L_val (v := (.int .i64 k)) (w' := w76) rfl rfl rfl rfl ?_
  refine L_guard rfl rfl rfl rfl rfl ?_
  have hst87 := hst81
  refine L_callS [c83] [one b69 (.cells #[(.int .i64 k)] 3 (0, 0)), co65] hst87 rfl rfl rfl (x_call (vs := #[(ptr p17 0), (.int .i64 k)]) rfl rfl (by kernel_rfl) ent_21) (Remove_spec k (hst87.sats.take 1 rfl) hreg86) (fun v88 w89 R90 L91 hp92 hle93 hst94 => ?_)
  have hm95 := OwnL.mono hm82 hle93
  obtain ⟨c96, hv97, rfl, hreg98⟩ := hp92
  rw [k2_there hk hf hf4] at hv97
  subst hv97
  have hreg99 : Reg R90 p17 (k3 k f) c96 := hreg98
  refine L_guard rfl rfl rfl rfl rfl ?_
  refine L_val (v := (.bool false)) (w' := w89) rfl rfl rfl rfl ?_
  refine L_val (v := (.bool false)) (w' := w89) rfl rfl rfl rfl ?_
  refine L_val (v := (.bool false)) (w' := w89) rfl rfl rfl rfl ?_
  refine L_guard rfl rfl rfl rfl rfl ?_
  refine L_val (v := (ptr p17 0)) (w' := w89) rfl rfl rfl rfl ?_
  refine L_guard rfl rfl rfl rfl rfl ?_
  refine L_val (v := (.int .i64 k)) (w' := w89) rfl rfl rfl rfl ?_
  refine L_guard rfl rfl rfl rfl rfl ?_
  have hst100 := hst94
  refine L_callS [c96] [one b69 (.cells #[(.int .i64 k)] 3 (0, 0)), co65] hst100 rfl rfl rfl (x_call (vs := #[(ptr p17 0), (.int .i64 k)]) rfl rfl (by kernel_rfl) ent_21) (Remove_spec k (hst100.sats.take 1 rfl) hreg99) (fun v101 w102 R103 L104 hp105 hle106 hst107 => ?_)
  have hm108 := OwnL.mono hm95 hle106
  obtain ⟨c109, hv110, rfl, hreg111⟩ := hp105
  rw [k3_gone hk hf hf4] at hv110
  subst hv110
  have hreg112 : Reg R103 p17 (k3 k f) c109 := (by simpa only [RS.add_same (k1_busy hk hf hf4) (by decide), RS.add_same (k2_busy hk hf hf4) (by decide), RS.add_same (k3_stale hk hf hf4) (by decide), k3_same hk hf hf4] using hreg111)
  refine L_val (v := (.bool false)) (w' := w102) rfl rfl rfl rfl ?_
  refine L_val (v := (.bool false)) (w' := w102) rfl rfl rfl rfl ?_
  refine L_guard rfl rfl rfl rfl rfl ?_
  refine L_val (v := (ptr p17 0)) (w' := w102) rfl rfl rfl rfl ?_
  refine L_guard rfl rfl rfl rfl rfl ?_
  refine L_val (v := (.int .i64 k)) (w' := w102) rfl rfl rfl rfl ?_
  refine L_guard rfl rfl rfl rfl rfl ?_
  refine L_callG hst107 (v := (.bool false)) rfl rfl rfl (x_call (vs := #[(ptr p17 0), (.int .i64 k)]) rfl rfl (by kernel_rfl) ent_15) (by have h_ := Holds_reg (w := w102) k hreg112 hst107.rle' (hst107.get (i := 0) rfl); rw [k3_holds hk hf hf4] at h_; exact h_) (fun w113 hst114 => ?_)
  refine L_val (v := (.bool false)) (w' := w113) rfl rfl rfl rfl ?_
  refine L_nil ?_
  refine W_cond_false (by show Value.bool _ = _; exact congrArg Value.bool rfl) ?_
  refine W_skip ?_
  refine W_seq ?_
  refine W_region_lit ?_
  refine L_val (v := (.bool true)) (w' := w113) rfl rfl rfl rfl ?_
  refine L_val (v := (.bool true)) (w' := w113) rfl rfl rfl rfl ?_
  refine L_guard rfl rfl rfl rfl rfl ?_
  refine L_val (v := (ptr p17 0)) (w' := w113) rfl rfl rfl rfl ?_
  refine L_guard rfl rfl rfl rfl rfl ?_
  refine L_val (v := (.int .i64 k)) (w' := w113) rfl rfl rfl rfl ?_
  refine L_guard rfl rfl rfl rfl rfl ?_
  refine L_val (v := (.int .i64 f)) (w' := w113) rfl rfl rfl rfl ?_
  refine L_guard rfl rfl rfl rfl rfl ?_
  refine L_callG hst114 (v := (.agg #[(.int .i64 1), (.int .i64 f), (.int .i64 1)])) rfl rfl rfl (x_call (vs := #[(.int .i64 1), (.int .i64 f), (.int .i64 1)]) rfl rfl (by kernel_rfl) ent_24) (fact_spec 1 f 1 (Le.refl _)) (fun w115 hst116 => ?_)
  refine L_guard rfl rfl rfl rfl rfl ?_
  refine L_new hst116 (v := fun b => .slice (some ⟨b, 0, none⟩) 1 1) (ob := .cells #[(.int .i64 1), (.int .i64 f), (.int .i64 1)] 38 (0, 0)) rfl rfl rfl (by kernel_rfl) (fun b117 w118 hst119 => ?_)
  refine L_guard rfl rfl rfl rfl rfl ?_
  obtain ⟨R120, hst121, hle122, hc123⟩ := Step.frz hst119
  have hm124 := Reg.lift hreg112 hle122
  have hm125 := OwnL.mono hm108 hle122
  have hrd126 : RdS tyFact R120 (.slice (some ⟨b117, 0, none⟩) 1 1) [⟨1, f, 1⟩] := OwnL.freeze (R := R120) (OwnL.lit (T := 38) (cs := [(.int .i64 1), (.int .i64 f), (.int .i64 1)]) (Encs.cons (tyFact_mk _ _ _ _) (Encs.nil)) rfl (by decide)) (Le.refl _) hc123
  have hst127 := hst121
  refine L_callS [c109] [one b69 (.cells #[(.int .i64 k)] 3 (0, 0)), co65] hst127 rfl rfl rfl (x_call (vs := #[(ptr p17 0), (.int .i64 k), (.slice (some ⟨b117, 0, none⟩) 1 1)]) rfl rfl (by kernel_rfl) ent_11) (Add_spec k hrd126 (by simp) (hst127.sats.take 1 rfl) hm124) (fun v128 w129 R130 L131 hp132 hle133 hst134 => ?_)
  have hm135 := OwnL.mono hm125 hle133
  obtain ⟨c136, hv137, rfl, hreg138⟩ := hp132
  rw [k3_stale hk hf hf4] at hv137
  subst hv137
  have hreg139 : Reg R130 p17 (k3 k f) c136 := (by simpa only [RS.add_same (k1_busy hk hf hf4) (by decide), RS.add_same (k2_busy hk hf hf4) (by decide), RS.add_same (k3_stale hk hf hf4) (by decide), k3_same hk hf hf4] using hreg138)
  refine L_guard rfl rfl rfl rfl rfl ?_
  refine L_val (v := (.bool true)) (w' := w129) rfl rfl rfl (by kernel_rfl) ?_
  refine L_val (v := (.bool true)) (w' := w129) rfl rfl rfl rfl ?_
  refine L_val (v := (.bool true)) (w' := w129) rfl rfl rfl rfl ?_
  refine L_guard rfl rfl rfl rfl rfl ?_
  refine L_val (v := (ptr p17 0)) (w' := w129) rfl rfl rfl rfl ?_
  refine L_guard rfl rfl rfl rfl rfl ?_
  refine L_val (v := (.int .i64 k)) (w' := w129) rfl rfl rfl rfl ?_
  refine L_guard rfl rfl rfl rfl rfl ?_
  refine L_val (v := (.int .i64 f)) (w' := w129) rfl rfl rfl rfl ?_
  refine L_guard rfl rfl rfl rfl rfl ?_
  refine L_callG hst134 (v := (.agg #[(.int .i64 1), (.int .i64 f), (.int .i64 2)])) rfl rfl rfl (x_call (vs := #[(.int .i64 1), (.int .i64 f), (.int .i64 2)]) rfl rfl (by kernel_rfl) ent_24) (fact_spec 1 f 2 (Le.refl _)) (fun w140 hst141 => ?_)
  refine L_guard rfl rfl rfl rfl rfl ?_
  refine L_new hst141 (v := fun b => .slice (some ⟨b, 0, none⟩) 1 1) (ob := .cells #[(.int .i64 1), (.int .i64 f), (.int .i64 2)] 38 (0, 0)) rfl rfl rfl (by kernel_rfl) (fun b142 w143 hst144 => ?_)
  refine L_guard rfl rfl rfl rfl rfl ?_
  obtain ⟨R145, hst146, hle147, hc148⟩ := Step.frz hst144
  have hm149 := Reg.lift hreg139 hle147
  have hm150 := OwnL.mono hm135 hle147
  have hrd151 : RdS tyFact R145 (.slice (some ⟨b142, 0, none⟩) 1 1) [⟨1, f, 2⟩] := OwnL.freeze (R := R145) (OwnL.lit (T := 38) (cs := [(.int .i64 1), (.int .i64 f), (.int .i64 2)]) (Encs.cons (tyFact_mk _ _ _ _) (Encs.nil)) rfl (by decide)) (Le.refl _) hc148
  have hst152 := hst146
  refine L_callS [c136] [one b69 (.cells #[(.int .i64 k)] 3 (0, 0)), co65] hst152 rfl rfl rfl (x_call (vs := #[(ptr p17 0), (.int .i64 k), (.slice (some ⟨b142, 0, none⟩) 1 1)]) rfl rfl (by kernel_rfl) ent_11) (Add_spec k hrd151 (by simp) (hst152.sats.take 1 rfl) hm149) (fun v153 w154 R155 L156 hp157 hle158 hst159 => ?_)
  have hm160 := OwnL.mono hm150 hle158
  obtain ⟨c161, hv162, rfl, hreg163⟩ := hp157
  rw [k3_add hk hf hf4] at hv162
  subst hv162
  have hreg164 : Reg R155 p17 ((k3 k f).add k [⟨1, f, 2⟩]) c161 := hreg163
  refine L_guard rfl rfl rfl rfl rfl ?_
  refine L_val (v := (.bool true)) (w' := w154) rfl rfl rfl (by kernel_rfl) ?_
  refine L_val (v := (.bool true)) (w' := w154) rfl rfl rfl rfl ?_
  refine L_val (v := (.bool true)) (w' := w154) rfl rfl rfl rfl ?_
  refine L_guard rfl rfl rfl rfl rfl ?_
  refine L_val (v := (ptr p17 0)) (w' := w154) rfl rfl rfl rfl ?_
  refine L_guard rfl rfl rfl rfl rfl ?_
  refine L_val (v := (.int .i64 k)) (w' := w154) rfl rfl rfl rfl ?_
  refine L_guard rfl rfl rfl rfl rfl ?_
  refine L_callG hst159 (v := (.bool true)) rfl rfl rfl (x_call (vs := #[(ptr p17 0), (.int .i64 k)]) rfl rfl (by kernel_rfl) ent_15) (by have h_ := Holds_reg (w := w154) k hreg164 hst159.rle' (hst159.get (i := 0) rfl); rw [k5_holds hk hf hf4] at h_; exact h_) (fun w165 hst166 => ?_)
  refine L_val (v := (.bool true)) (w' := w165) rfl rfl rfl rfl ?_
  refine L_val (v := (.bool true)) (w' := w165) rfl rfl rfl rfl ?_
  refine L_nil ?_
  refine W_ret ?_
  refine ⟨_, _, res_run (rs := [.tmp 4]) (vs := [(.bool true)]) Try.results7 (.cons (.tmp rfl) .nil) rfl, ?_⟩
  exact ⟨_, _, [], rfl, hst166.keepN 0 rfl, rfl, rfl⟩

end Go.Fx.Ytlfabjfajcbdcaa
