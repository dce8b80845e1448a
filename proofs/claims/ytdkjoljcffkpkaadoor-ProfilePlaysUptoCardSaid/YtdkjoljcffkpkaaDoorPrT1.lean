/-
  Chapter 14: SortedFunc, printed by gent.py
-/
import Derived.Test.YtdkjoljcffkpkaaDoorPrT0
set_option linter.unusedSimpArgs false
set_option linter.unusedVariables false
namespace Go.Fx.YtdkjoljcffkpkaaDoor
open Go Go.Fx Go.Proofs
set_option maxRecDepth 20000

theorem ent_36 : Ent Tryd.prog 36 := fun _ _ => by kernel_rfl
theorem ent_52 : Ent Tryd.prog 52 := fun _ _ => by kernel_rfl
theorem ent_53 : Ent Tryd.prog 53 := fun _ _ => by kernel_rfl

theorem insertionSortP_nil {w : World} {R : Hp} {a : Option Addr} {cap : Nat} {fv : Value} (hR : Le R (hp w)) :
    Calls Tryd.prog 67 #[.slice a 0 cap, int 0, int 0, fv] w fun e w' => e = .returned (.tuple #[]) ∧ Grow w w' := by
 have hst := Step.ro hR
 refine calls_of_W (n := 53) Tryd.func67 rfl Tryd.ntmps67 (Nat.le_of_ble_eq_true rfl) ?_
 refine W_seq ?_
 refine W_region_lit ?_
 refine Lq (int 0) rfl rfl rfl rfl ?_
 refine Lq (int 1) rfl rfl rfl (by kernel_rfl) ?_
 refine Lq (int 1) rfl rfl rfl rfl ?_
 refine L_nil ?_
 refine W_block ?_
 refine W_loop_once ?_
 refine W_seq ?_
 refine W_seq ?_
 refine W_region_lit ?_
 refine Lq (int 1) rfl rfl rfl rfl ?_
 refine Lq (int 0) rfl rfl rfl rfl ?_
 refine Lq (.bool false) rfl rfl rfl (by kernel_rfl) ?_
 refine L_nil ?_
 refine W_cond_false (by show Value.bool _ = _; exact congrArg Value.bool rfl) ?_
 refine W_exit ?_
 refine ⟨_, _, res_run (rs := []) (vs := []) Tryd.results67 .nil rfl, ?_⟩
 exact ⟨rfl, hst.grow⟩

theorem pdqsortP_nil {w : World} {R : Hp} {a : Option Addr} {cap : Nat} {fv : Value} (hR : Le R (hp w)) (lim : Int) :
    Calls Tryd.prog 62 #[.slice a 0 cap, int 0, int 0, int lim, fv] w fun e w' => e = .returned (.tuple #[]) ∧ Grow w w' := by
 have hst := Step.ro hR
 refine calls_of_W (n := 148) Tryd.func62 rfl Tryd.ntmps62 (Nat.le_of_ble_eq_true rfl) ?_
 refine W_seq ?_
 refine W_region_lit ?_
 refine Lq (.bool true) rfl rfl rfl rfl ?_
 refine L_nil ?_
 refine W_seq ?_
 refine W_region_lit ?_
 refine Lq (.bool true) rfl rfl rfl rfl ?_
 refine L_nil ?_
 refine W_block ?_
 refine W_loop_once ?_
 refine W_block ?_
 refine W_seq ?_
 refine W_region_lit ?_
 refine Lq (int 0) rfl rfl rfl rfl ?_
 refine Lq (int 0) rfl rfl rfl rfl ?_
 refine Lq (int 0) rfl rfl rfl (by kernel_rfl) ?_
 refine Lq (int 0) rfl rfl rfl rfl ?_
 refine L_nil ?_
 refine W_seq ?_
 refine W_seq ?_
 refine W_region_lit ?_
 refine Lq (int 0) rfl rfl rfl rfl ?_
 refine Lq (.bool true) rfl rfl rfl (by kernel_rfl) ?_
 refine L_nil ?_
 refine W_cond_true (by show Value.bool _ = _; exact congrArg Value.bool rfl) ?_
 refine W_seq ?_
 refine W_region_lit ?_
 refine Lq (.slice a 0 cap) rfl rfl rfl rfl ?_
 refine Lq (int 0) rfl rfl rfl rfl ?_
 refine Lq (int 0) rfl rfl rfl rfl ?_
 refine Lq fv rfl rfl rfl rfl ?_
 refine L_callG hst (v := (.tuple #[])) rfl rfl rfl (x_call (vs := #[(.slice a 0 cap), (int 0), (int 0), fv]) rfl rfl (by kernel_rfl) ent_67) (insertionSortP_nil (Le.refl _)) (fun w1 hst2 => ?_)
 refine L_nil ?_
 refine W_ret ?_
 refine ⟨_, _, res_run (rs := []) (vs := []) Tryd.results62 .nil rfl, ?_⟩
 exact ⟨rfl, hst2.grow⟩

theorem SortFunc_nil {w : World} {R : Hp} {a : Option Addr} {cap : Nat} {fv : Value} (hR : Le R (hp w)) :
    Calls Tryd.prog 53 #[.slice a 0 cap, fv] w fun e w' => e = .returned (.tuple #[]) ∧ Grow w w' := by
 have hst := Step.ro hR
 refine calls_of_W (n := 14) Tryd.func53 rfl Tryd.ntmps53 (Nat.le_of_ble_eq_true rfl) ?_
 refine W_seq ?_
 refine W_region_lit ?_
 refine Lq (.slice a 0 cap) rfl rfl rfl rfl ?_
 refine Lq (int 0) rfl rfl rfl (x_len_slice rfl sl_76 rfl) ?_
 refine Lq (int 0) rfl rfl rfl rfl ?_
 refine L_nil ?_
 refine W_region_lit ?_
 refine Lq (.slice a 0 cap) rfl rfl rfl rfl ?_
 refine Lq (int 0) rfl rfl rfl rfl ?_
 refine Lq (int 0) rfl rfl rfl rfl ?_
 refine L_val (v := (.int .u64 0)) (w' := w) rfl rfl rfl (by kernel_rfl) ?_
 refine L_callG hst (v := (int (bl 0))) rfl rfl rfl (x_call (vs := #[(.int .u64 0)]) rfl rfl (by kernel_rfl) ent_63) (Len_G (n := 0) (by omega)) (fun w1 hst2 => ?_)
 refine Lq fv rfl rfl rfl rfl ?_
 refine L_callG hst2 (v := (.tuple #[])) rfl rfl rfl (x_call (vs := #[(.slice a 0 cap), (int 0), (int 0), (int (bl 0)), fv]) rfl rfl (by kernel_rfl) ent_62) (pdqsortP_nil (Le.refl _) (bl 0)) (fun w3 hst4 => ?_)
 refine L_nil ?_
 refine ⟨_, _, res_run (rs := []) (vs := []) Tryd.results53 .nil rfl, ?_⟩
 exact ⟨rfl, hst4.grow⟩

theorem SortedFunc_spec {w : World} {R cM : Hp} {q b : Nat} {m : List (Pl × Option Nat)} {vr : Option Nat → Value → Prop} (hs : Sats w R []) (h0 : Le (one q (.cells #[.map (some b)] 65 (0, 0))) R) (hM : MapC kk vr (some b) m cM) (hc : Le cM R) (hlen : m.length ≤ 12) :
    Calls Tryd.prog 34 #[.func (.func 54) #[] #[ptr q 0], .func (.func 36) #[] #[]] w (Comes' w R [] fun v' R' L' => ∃ c ys, L' = [c] ∧ ys.Perm (AL.keys m) ∧ SortedTo leP ys ys.length ∧ OwnL tyPl 43 R' v' ys c) := by
 have hst := Step.refl hs
 refine calls_of_W (n := 12) Tryd.func34 rfl Tryd.ntmps34 (Nat.le_of_ble_eq_true rfl) ?_
 refine W_seq ?_
 refine W_region_lit ?_
 refine Lq (.slice none 0 0) rfl rfl rfl rfl ?_
 refine L_nil ?_
 refine W_seq ?_
 refine W_region_lit ?_
 refine Lq (.func (.func 54) #[] #[(ptr q 0)]) rfl rfl rfl rfl ?_
 have hst1 := hst
 refine L_callS [] [] hst1 rfl rfl rfl (x_call (vs := #[(.func (.func 54) #[] #[(ptr q 0)])]) rfl rfl (by kernel_rfl) ent_52) (Collect_spec (N := m.length) (hst1.sats.take 0 rfl) ent54 (by omega) (fun R1 h1 => Keys1_gives (Le.trans h0 h1) hM (Le.trans hc h1))) (fun v2 w3 R4 L5 hp6 hle7 hst8 => ?_)
 obtain ⟨c9, ys10, rfl, hS11, ho12⟩ := hp6
 have hkl : ys10.length ≤ 12 := by rw [hS11.length_eq]; simpa [AL.keys] using hlen
 refine Lq v2 rfl rfl rfl rfl ?_
 refine L_nil ?_
 refine W_seq ?_
 refine W_region_lit ?_
 refine Lq v2 rfl rfl rfl rfl ?_
 refine Lq (.func (.func 36) #[] #[]) rfl rfl rfl rfl ?_
 obtain ⟨a13, cap14, e15, hc16⟩ := ho12.value
 subst e15
 rcases Nat.eq_zero_or_pos ys10.length with hz17 | hz17
 ·
  obtain rfl := List.eq_nil_of_length_eq_zero hz17
  refine L_callG hst8 (v := .tuple #[]) rfl rfl rfl (x_call (vs := #[.slice a13 0 cap14, .func (.func 36) #[] #[]]) rfl rfl (by kernel_rfl) ent_53) (SortFunc_nil (Le.refl _)) (fun w18 hst19 => ?_)
  refine L_nil ?_
  refine W_seq ?_
  refine W_region_lit ?_
  refine Lq (.slice a13 ([].length) cap14) rfl rfl rfl rfl ?_
  refine Lq (.slice a13 ([].length) cap14) rfl rfl rfl rfl ?_
  refine L_nil ?_
  refine W_ret ?_
  refine ⟨_, _, res_run (rs := [.tmp 4]) (vs := [(.slice a13 ([].length) cap14)]) Tryd.results34 (.cons (.tmp rfl) .nil) rfl, ?_⟩
  exact ⟨_, _, [c9], rfl, (hst19).keepN 1 rfl, _, [], rfl, hS11, (fun p q _ h => absurd h (Nat.not_lt_zero _)), ho12⟩
 ·
  obtain ⟨b20, cap21, N22, e23, hc24, hrow25, hback26⟩ := OwnL.row ho12 (by omega)
  obtain ⟨rfl, hl27, rfl⟩ := Value.slice.inj e23
  try rw [← hl27] at hback26
  have hst28 := hst8
  refine L_callS [c9] [] hst28 rfl rfl rfl (x_call (vs := #[(.slice (some ⟨b20, 0, none⟩) ys10.length cap14), (.func (.func 36) #[] #[])]) rfl rfl (by kernel_rfl) ent_53) (SortFunc_spec (xs := ys10) (hst28.sats.take 1 rfl) hkl hrow25 ent_36 (fun w1 x y _ => Text1_spec x y (Le.refl _))) (fun v29 w30 R31 L32 hp33 hle34 hst35 => ?_)
  obtain ⟨rfl, c36, ys37, rfl, hp38, hrow39, hsrt40⟩ := hp33
  refine L_nil ?_
  refine W_seq ?_
  refine W_region_lit ?_
  refine Lq (.slice (some ⟨b20, 0, none⟩) ys10.length cap14) rfl rfl rfl rfl ?_
  refine Lq (.slice (some ⟨b20, 0, none⟩) ys10.length cap14) rfl rfl rfl rfl ?_
  refine L_nil ?_
  refine W_ret ?_
  refine ⟨_, _, res_run (rs := [.tmp 4]) (vs := [(.slice (some ⟨b20, 0, none⟩) ys10.length cap14)]) Tryd.results34 (.cons (.tmp rfl) .nil) rfl, ?_⟩
  exact ⟨_, _, [c36], rfl, (hst35).keepN 1 rfl, _, ys37, rfl, hp38.trans hS11, hsrt40, hback26 _ _ _ hp38.length_eq hrow39⟩

end Go.Fx.YtdkjoljcffkpkaaDoor
