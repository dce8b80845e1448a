/-
  Sp17, Sq13, put together.
-/
import Derived.Test.YtjpdhfhiimbpgaaGreatDoorM3
import Derived.Test.YtjpdhfhiimbpgaaGreatDoorM4
set_option linter.unusedSimpArgs false
set_option linter.unusedVariables false
set_option linter.unusedSectionVars false
namespace Go.Fx.YtjpdhfhiimbpgaaGreatDoor
open Go Go.Fx Go.Proofs
set_option maxRecDepth 20000
def zT : TS := ⟨[], [], []⟩
theorem zthere (k : Int) : thereL zT.nodes k = false := thereL_not.2 (by show ¬ (0 ≤ k ∧ k < ((0 : Nat) : Int)); omega)
theorem zadd (k : Int) (t : Str) : zT.add k t = (0, 1, zT) := add_out (zthere k)
theorem zsplit (k : Int) : zT.split k = (0, 1, zT) := split_out (zthere k)
theorem zmerge (a b : Int) : zT.merge a b = (1, zT) := merge_no fun h => by rw [zthere] at h; exact absurd h.1 (by decide)
theorem zmake (c : Int) (xs : List Str) : zT.make c xs = (0, 1, zT) := make_arg (by show c < 0 ∨ ((0 : Nat) : Int) ≤ c ∨ _; omega)
theorem zfind (c : Int) (xs : List Str) : findL zT.nodes c xs = (0, false) := rfl
theorem zcanon (k : Int) : canon zT.nodes k = -1 := canon_out (by show ¬ (0 ≤ k ∧ k < ((0 : Nat) : Int)); omega)
theorem zcls (k : Int) : clsL zT.nodes k = -1 := clsL_out (zthere k)
theorem znames (k : Int) : namesL zT.nodes k = [] := namesL_out (zthere k)
theorem zroot (k : Int) : rootL zT.nodes zT.roots k = -1 := rootL_out (by show ¬ (0 ≤ k ∧ k < ((0 : Nat) : Int)); omega)
theorem zslot (k : Int) (t : Str) : slotL zT.nodes k t = (0, false) := slotL_out (zthere k)
theorem zwf : WF zT where
  ok := AL.Ok.nil
  can := fun k hk => by cases hk
  ali := fun k hk => by cases hk
  root := fun r hr => by cases hr
  next := fun e he => by cases he
  key := fun e he => by cases he
theorem zsmall : Small zT.nodes where
  len := Nat.zero_le _
  names := fun k hk => by cases hk
  ali := fun k hk => by cases hk
  can := fun k hk => by cases hk
theorem Tree.zero {w0 w : World} {R0 R : Hp} {L0 Lr : List Hp} {p : Nat} (h : Step w0 R0 L0 w R (treeB p (.slice none 0 0) (.slice none 0 0) none :: Lr)) : ∃ c, Step w0 R0 L0 w R (c :: Lr) ∧ Tree R p zT c :=
  Tree.close (s := zT) (h.nothing.nothing.nothing.front 3 rfl rfl) (OwnL.empty _ _ _) (OwnL.empty _ _ _) (.inl ⟨rfl, rfl, rfl⟩) zwf zsmall (Nat.zero_le _) (fun _ => rfl)
theorem zeroR {R : Hp} {p : Nat} (h : Le (treeB p (.slice none 0 0) (.slice none 0 0) none) R) : TreeR R p [] [] := ⟨_, _, _, h, RdS.nilv _ _, RdS.nilv _ _, zsmall, fun r hr => (by cases hr), Nat.zero_le _⟩
def txt (s : TS) : Str := ⟨(textT s).toArray⟩
end Go.Fx.YtjpdhfhiimbpgaaGreatDoor

set_option linter.unusedSimpArgs false
set_option linter.unusedVariables false
namespace Go.Fx.YtjpdhfhiimbpgaaGreatDoor
open Go Go.Fx Go.Proofs
set_option maxRecDepth 20000

theorem sl_66 : SL Tryz.prog 66 24 := Tryz.underlying66

theorem there_nil {w : World} {R : Hp} (k : Int) (hR : Le R (hp w)) :
    Calls Tryz.prog 51 #[.pointer none, int k] w fun e w' => e = .returned (.bool false) ∧ Grow w w' := by
 have hst := Step.ro hR
 refine calls_of_W (n := 20) Tryz.func51 rfl Tryz.ntmps51 (Nat.le_of_ble_eq_true rfl) ?_
 refine W_seq ?_
 refine W_region_lit ?_
 refine Lq (.bool false) rfl rfl rfl rfl ?_
 refine L_nil ?_
 refine W_seq ?_
 refine W_region_lit ?_
 refine Lq (.pointer none) rfl rfl rfl rfl ?_
 refine Lq (.bool false) rfl rfl rfl (by kernel_rfl) ?_
 refine Lq (.bool false) rfl rfl rfl rfl ?_
 refine L_unwanted rfl rfl rfl rfl rfl rfl rfl ?_
 refine L_unwanted rfl rfl rfl rfl rfl rfl rfl ?_
 refine Lq (.bool false) rfl rfl rfl rfl ?_
 refine Lq (.bool false) rfl rfl rfl rfl ?_
 refine L_unwanted rfl rfl rfl rfl rfl rfl rfl ?_
 refine L_unwanted rfl rfl rfl rfl rfl rfl rfl ?_
 refine L_unwanted rfl rfl rfl rfl rfl rfl rfl ?_
 refine L_unwanted rfl rfl rfl rfl rfl rfl rfl ?_
 refine L_unwanted rfl rfl rfl rfl rfl rfl rfl ?_
 refine L_unwanted rfl rfl rfl rfl rfl rfl rfl ?_
 refine L_unwanted rfl rfl rfl rfl rfl rfl rfl ?_
 refine Lq (.bool false) rfl rfl rfl rfl ?_
 refine Lq (.bool false) rfl rfl rfl rfl ?_
 refine L_nil ?_
 refine W_ret ?_
 refine ⟨_, _, res_run (rs := [.tmp 4]) (vs := [(.bool false)]) Tryz.results51 (.cons (.tmp rfl) .nil) rfl, ?_⟩
 exact ⟨rfl, hst.grow⟩

theorem Canon_nil {w : World} {R : Hp} (k : Int) (hR : Le R (hp w)) :
    Calls Tryz.prog 21 #[.pointer none, int k] w fun e w' => e = .returned (int (-1)) ∧ Grow w w' := by
 have hst := Step.ro hR
 refine calls_of_W (n := 24) Tryz.func21 rfl Tryz.ntmps21 (Nat.le_of_ble_eq_true rfl) ?_
 refine W_seq ?_
 refine W_region_lit ?_
 refine Lq (int 0) rfl rfl rfl rfl ?_
 refine L_nil ?_
 refine W_seq ?_
 refine W_seq ?_
 refine W_region_lit ?_
 refine Lq (.pointer none) rfl rfl rfl rfl ?_
 refine Lq (int k) rfl rfl rfl rfl ?_
 refine L_callG hst (v := (.bool false)) rfl rfl rfl (x_call (vs := #[(.pointer none), (int k)]) rfl rfl (by kernel_rfl) ent_51) (there_nil k (Le.refl _)) (fun w1 hst2 => ?_)
 refine Lq (.bool true) rfl rfl rfl rfl ?_
 refine L_nil ?_
 refine W_cond_true (by show Value.bool _ = _; exact congrArg Value.bool rfl) ?_
 refine W_seq ?_
 refine W_region_lit ?_
 refine Lq (int (-1)) rfl rfl rfl rfl ?_
 refine L_nil ?_
 refine W_ret ?_
 refine ⟨_, _, res_run (rs := [.tmp 4]) (vs := [(int (-1))]) Tryz.results21 (.cons (.tmp rfl) .nil) rfl, ?_⟩
 exact ⟨rfl, hst2.grow⟩

theorem Class_nil {w : World} {R : Hp} (k : Int) (hR : Le R (hp w)) :
    Calls Tryz.prog 22 #[.pointer none, int k] w fun e w' => e = .returned (int (-1)) ∧ Grow w w' := by
 have hst := Step.ro hR
 refine calls_of_W (n := 17) Tryz.func22 rfl Tryz.ntmps22 (Nat.le_of_ble_eq_true rfl) ?_
 refine W_seq ?_
 refine W_region_lit ?_
 refine Lq (int 0) rfl rfl rfl rfl ?_
 refine L_nil ?_
 refine W_seq ?_
 refine W_seq ?_
 refine W_region_lit ?_
 refine Lq (.pointer none) rfl rfl rfl rfl ?_
 refine Lq (int k) rfl rfl rfl rfl ?_
 refine L_callG hst (v := (.bool false)) rfl rfl rfl (x_call (vs := #[(.pointer none), (int k)]) rfl rfl (by kernel_rfl) ent_51) (there_nil k (Le.refl _)) (fun w1 hst2 => ?_)
 refine Lq (.bool true) rfl rfl rfl rfl ?_
 refine L_nil ?_
 refine W_cond_true (by show Value.bool _ = _; exact congrArg Value.bool rfl) ?_
 refine W_seq ?_
 refine W_region_lit ?_
 refine Lq (int (-1)) rfl rfl rfl rfl ?_
 refine L_nil ?_
 refine W_ret ?_
 refine ⟨_, _, res_run (rs := [.tmp 4]) (vs := [(int (-1))]) Tryz.results22 (.cons (.tmp rfl) .nil) rfl, ?_⟩
 exact ⟨rfl, hst2.grow⟩

theorem Count_nil {w : World} {R : Hp}  (hR : Le R (hp w)) :
    Calls Tryz.prog 19 #[.pointer none] w fun e w' => e = .returned (int 0) ∧ Grow w w' := by
 have hst := Step.ro hR
 refine calls_of_W (n := 10) Tryz.func19 rfl Tryz.ntmps19 (Nat.le_of_ble_eq_true rfl) ?_
 refine W_seq ?_
 refine W_region_lit ?_
 refine Lq (int 0) rfl rfl rfl rfl ?_
 refine L_nil ?_
 refine W_seq ?_
 refine W_seq ?_
 refine W_region_lit ?_
 refine Lq (.pointer none) rfl rfl rfl rfl ?_
 refine Lq (.bool true) rfl rfl rfl (by kernel_rfl) ?_
 refine L_nil ?_
 refine W_cond_true (by show Value.bool _ = _; exact congrArg Value.bool rfl) ?_
 refine W_seq ?_
 refine W_region_lit ?_
 refine Lq (int 0) rfl rfl rfl rfl ?_
 refine L_nil ?_
 refine W_ret ?_
 refine ⟨_, _, res_run (rs := [.tmp 2]) (vs := [(int 0)]) Tryz.results19 (.cons (.tmp rfl) .nil) rfl, ?_⟩
 exact ⟨rfl, hst.grow⟩

theorem Names_nil {w : World} {R : Hp} (k : Int) (hR : Le R (hp w)) :
    Calls Tryz.prog 24 #[.pointer none, int k] w fun e w' => e = .returned (.slice none 0 0) ∧ Grow w w' := by
 have hst := Step.ro hR
 refine calls_of_W (n := 18) Tryz.func24 rfl Tryz.ntmps24 (Nat.le_of_ble_eq_true rfl) ?_
 refine W_seq ?_
 refine W_region_lit ?_
 refine Lq (.slice none 0 0) rfl rfl rfl rfl ?_
 refine L_nil ?_
 refine W_seq ?_
 refine W_seq ?_
 refine W_region_lit ?_
 refine Lq (.pointer none) rfl rfl rfl rfl ?_
 refine Lq (int k) rfl rfl rfl rfl ?_
 refine L_callG hst (v := (.bool false)) rfl rfl rfl (x_call (vs := #[(.pointer none), (int k)]) rfl rfl (by kernel_rfl) ent_51) (there_nil k (Le.refl _)) (fun w1 hst2 => ?_)
 refine Lq (.bool true) rfl rfl rfl rfl ?_
 refine L_nil ?_
 refine W_cond_true (by show Value.bool _ = _; exact congrArg Value.bool rfl) ?_
 refine W_seq ?_
 refine W_region_lit ?_
 refine Lq (.slice none 0 0) rfl rfl rfl rfl ?_
 refine L_nil ?_
 refine W_ret ?_
 refine ⟨_, _, res_run (rs := [.tmp 4]) (vs := [(.slice none 0 0)]) Tryz.results24 (.cons (.tmp rfl) .nil) rfl, ?_⟩
 exact ⟨rfl, hst2.grow⟩

theorem Root_nil {w : World} {R : Hp} (k : Int) (hR : Le R (hp w)) :
    Calls Tryz.prog 26 #[.pointer none, int k] w fun e w' => e = .returned (int (-1)) ∧ Grow w w' := by
 have hst := Step.ro hR
 refine calls_of_W (n := 29) Tryz.func26 rfl Tryz.ntmps26 (Nat.le_of_ble_eq_true rfl) ?_
 refine W_seq ?_
 refine W_region_lit ?_
 refine Lq (int 0) rfl rfl rfl rfl ?_
 refine L_nil ?_
 refine W_seq ?_
 refine W_seq ?_
 refine W_region_lit ?_
 refine Lq (.pointer none) rfl rfl rfl rfl ?_
 refine Lq (.bool true) rfl rfl rfl (by kernel_rfl) ?_
 refine Lq (.bool true) rfl rfl rfl rfl ?_
 refine L_unwanted rfl rfl rfl rfl rfl rfl rfl ?_
 refine L_unwanted rfl rfl rfl rfl rfl rfl rfl ?_
 refine Lq (.bool true) rfl rfl rfl rfl ?_
 refine Lq (.bool true) rfl rfl rfl rfl ?_
 refine L_unwanted rfl rfl rfl rfl rfl rfl rfl ?_
 refine L_unwanted rfl rfl rfl rfl rfl rfl rfl ?_
 refine L_unwanted rfl rfl rfl rfl rfl rfl rfl ?_
 refine L_unwanted rfl rfl rfl rfl rfl rfl rfl ?_
 refine L_unwanted rfl rfl rfl rfl rfl rfl rfl ?_
 refine L_unwanted rfl rfl rfl rfl rfl rfl rfl ?_
 refine L_unwanted rfl rfl rfl rfl rfl rfl rfl ?_
 refine Lq (.bool true) rfl rfl rfl rfl ?_
 refine L_nil ?_
 refine W_cond_true (by show Value.bool _ = _; exact congrArg Value.bool rfl) ?_
 refine W_seq ?_
 refine W_region_lit ?_
 refine Lq (int (-1)) rfl rfl rfl rfl ?_
 refine L_nil ?_
 refine W_ret ?_
 refine ⟨_, _, res_run (rs := [.tmp 4]) (vs := [(int (-1))]) Tryz.results26 (.cons (.tmp rfl) .nil) rfl, ?_⟩
 exact ⟨rfl, hst.grow⟩

theorem Slot_nil {w : World} {R : Hp} (k : Int) (t : Str) (hR : Le R (hp w)) :
    Calls Tryz.prog 30 #[.pointer none, int k, .string t] w fun e w' => e = .returned (.tuple #[int 0, .bool false]) ∧ Grow w w' := by
 have hst := Step.ro hR
 refine calls_of_W (n := 27) Tryz.func30 rfl Tryz.ntmps30 (Nat.le_of_ble_eq_true rfl) ?_
 refine W_seq ?_
 refine W_region_lit ?_
 refine Lq (int 0) rfl rfl rfl rfl ?_
 refine Lq (.bool false) rfl rfl rfl rfl ?_
 refine L_nil ?_
 refine W_seq ?_
 refine W_seq ?_
 refine W_region_lit ?_
 refine Lq (.pointer none) rfl rfl rfl rfl ?_
 refine Lq (int k) rfl rfl rfl rfl ?_
 refine L_callG hst (v := (.bool false)) rfl rfl rfl (x_call (vs := #[(.pointer none), (int k)]) rfl rfl (by kernel_rfl) ent_51) (there_nil k (Le.refl _)) (fun w1 hst2 => ?_)
 refine Lq (.bool true) rfl rfl rfl rfl ?_
 refine L_nil ?_
 refine W_cond_true (by show Value.bool _ = _; exact congrArg Value.bool rfl) ?_
 refine W_seq ?_
 refine W_region_lit ?_
 refine Lq (int 0) rfl rfl rfl rfl ?_
 refine Lq (.bool false) rfl rfl rfl rfl ?_
 refine L_nil ?_
 refine W_ret ?_
 refine ⟨_, _, res_run (rs := [.tmp 6, .tmp 7]) (vs := [(int 0), (.bool false)]) Tryz.results30 (.cons (.tmp rfl) (.cons (.tmp rfl) .nil)) rfl, ?_⟩
 exact ⟨rfl, hst2.grow⟩

theorem Find_nil {w : World} {R : Hp} (k : Int) (hR : Le R (hp w)) :
    Calls Tryz.prog 25 #[.pointer none, int k, .slice none 0 0] w fun e w' => e = .returned (.tuple #[int 0, .bool false]) ∧ Grow w w' := by
 have hst := Step.ro hR
 refine calls_of_W (n := 21) Tryz.func25 rfl Tryz.ntmps25 (Nat.le_of_ble_eq_true rfl) ?_
 refine W_seq ?_
 refine W_region_lit ?_
 refine L_new hst (v := fun b => ptr b 0) (ob := .cells #[(int k)] 3 (0, 0)) rfl rfl rfl (by kernel_rfl) (fun b1 w2 hst3 => ?_)
 refine L_new hst3 (v := fun b => ptr b 0) (ob := .cells #[(.slice none 0 0)] 42 (0, 0)) rfl rfl rfl (by kernel_rfl) (fun b4 w5 hst6 => ?_)
 refine Lq (int 0) rfl rfl rfl rfl ?_
 refine Lq (.bool false) rfl rfl rfl rfl ?_
 refine L_nil ?_
 refine W_seq ?_
 refine W_seq ?_
 refine W_region_lit ?_
 refine Lq (.pointer none) rfl rfl rfl rfl ?_
 refine Lq (.bool true) rfl rfl rfl (by kernel_rfl) ?_
 refine L_nil ?_
 refine W_cond_true (by show Value.bool _ = _; exact congrArg Value.bool rfl) ?_
 refine W_seq ?_
 refine W_region_lit ?_
 refine Lq (int 0) rfl rfl rfl rfl ?_
 refine Lq (.bool false) rfl rfl rfl rfl ?_
 refine L_nil ?_
 refine W_ret ?_
 refine ⟨_, _, res_run (rs := [.tmp 6, .tmp 7]) (vs := [(int 0), (.bool false)]) Tryz.results25 (.cons (.tmp rfl) (.cons (.tmp rfl) .nil)) rfl, ?_⟩
 exact ⟨rfl, hst6.grow⟩

theorem Make_nil {w : World} {R : Hp} (k : Int) (hR : Le R (hp w)) :
    Calls Tryz.prog 29 #[.pointer none, int k, .slice none 0 0] w fun e w' => e = .returned (.tuple #[int 0, int 1]) ∧ Grow w w' := by
 have hst := Step.ro hR
 refine calls_of_W (n := 78) Tryz.func29 rfl Tryz.ntmps29 (Nat.le_of_ble_eq_true rfl) ?_
 refine W_seq ?_
 refine W_region_lit ?_
 refine Lq (int 0) rfl rfl rfl rfl ?_
 refine Lq (int 0) rfl rfl rfl rfl ?_
 refine L_nil ?_
 refine W_seq ?_
 refine W_seq ?_
 refine W_region_lit ?_
 refine Lq (.pointer none) rfl rfl rfl rfl ?_
 refine Lq (.bool true) rfl rfl rfl (by kernel_rfl) ?_
 refine Lq (.bool true) rfl rfl rfl rfl ?_
 refine L_unwanted rfl rfl rfl rfl rfl rfl rfl ?_
 refine L_unwanted rfl rfl rfl rfl rfl rfl rfl ?_
 refine Lq (.bool true) rfl rfl rfl rfl ?_
 refine Lq (.bool true) rfl rfl rfl rfl ?_
 refine L_unwanted rfl rfl rfl rfl rfl rfl rfl ?_
 refine L_unwanted rfl rfl rfl rfl rfl rfl rfl ?_
 refine L_unwanted rfl rfl rfl rfl rfl rfl rfl ?_
 refine L_unwanted rfl rfl rfl rfl rfl rfl rfl ?_
 refine L_unwanted rfl rfl rfl rfl rfl rfl rfl ?_
 refine L_unwanted rfl rfl rfl rfl rfl rfl rfl ?_
 refine L_unwanted rfl rfl rfl rfl rfl rfl rfl ?_
 refine Lq (.bool true) rfl rfl rfl rfl ?_
 refine Lq (.bool true) rfl rfl rfl rfl ?_
 refine L_unwanted rfl rfl rfl rfl rfl rfl rfl ?_
 refine L_unwanted rfl rfl rfl rfl rfl rfl rfl ?_
 refine L_unwanted rfl rfl rfl rfl rfl rfl rfl ?_
 refine Lq (.bool true) rfl rfl rfl rfl ?_
 refine L_nil ?_
 refine W_cond_true (by show Value.bool _ = _; exact congrArg Value.bool rfl) ?_
 refine W_seq ?_
 refine W_region_lit ?_
 refine Lq (int 0) rfl rfl rfl rfl ?_
 refine Lq (int 1) rfl rfl rfl rfl ?_
 refine L_nil ?_
 refine W_ret ?_
 refine ⟨_, _, res_run (rs := [.tmp 6, .tmp 7]) (vs := [(int 0), (int 1)]) Tryz.results29 (.cons (.tmp rfl) (.cons (.tmp rfl) .nil)) rfl, ?_⟩
 exact ⟨rfl, hst.grow⟩

theorem Add_nil {w : World} {R : Hp} (k : Int) (t : Str) (hR : Le R (hp w)) :
    Calls Tryz.prog 28 #[.pointer none, int k, .string t] w fun e w' => e = .returned (.tuple #[int 0, int 1]) ∧ Grow w w' := by
 have hst := Step.ro hR
 refine calls_of_W (n := 81) Tryz.func28 rfl Tryz.ntmps28 (Nat.le_of_ble_eq_true rfl) ?_
 refine W_seq ?_
 refine W_region_lit ?_
 refine Lq (int 0) rfl rfl rfl rfl ?_
 refine Lq (int 0) rfl rfl rfl rfl ?_
 refine L_nil ?_
 refine W_seq ?_
 refine W_seq ?_
 refine W_region_lit ?_
 refine Lq (.pointer none) rfl rfl rfl rfl ?_
 refine Lq (int k) rfl rfl rfl rfl ?_
 refine L_callG hst (v := (.bool false)) rfl rfl rfl (x_call (vs := #[(.pointer none), (int k)]) rfl rfl (by kernel_rfl) ent_51) (there_nil k (Le.refl _)) (fun w1 hst2 => ?_)
 refine Lq (.bool true) rfl rfl rfl rfl ?_
 refine L_nil ?_
 refine W_cond_true (by show Value.bool _ = _; exact congrArg Value.bool rfl) ?_
 refine W_seq ?_
 refine W_region_lit ?_
 refine Lq (int 0) rfl rfl rfl rfl ?_
 refine Lq (int 1) rfl rfl rfl rfl ?_
 refine L_nil ?_
 refine W_ret ?_
 refine ⟨_, _, res_run (rs := [.tmp 6, .tmp 7]) (vs := [(int 0), (int 1)]) Tryz.results28 (.cons (.tmp rfl) (.cons (.tmp rfl) .nil)) rfl, ?_⟩
 exact ⟨rfl, hst2.grow⟩

theorem Split_nil {w : World} {R : Hp} (k : Int) (hR : Le R (hp w)) :
    Calls Tryz.prog 38 #[.pointer none, int k] w fun e w' => e = .returned (.tuple #[int 0, int 1]) ∧ Grow w w' := by
 have hst := Step.ro hR
 refine calls_of_W (n := 90) Tryz.func38 rfl Tryz.ntmps38 (Nat.le_of_ble_eq_true rfl) ?_
 refine W_seq ?_
 refine W_region_lit ?_
 refine Lq (int 0) rfl rfl rfl rfl ?_
 refine Lq (int 0) rfl rfl rfl rfl ?_
 refine L_nil ?_
 refine W_seq ?_
 refine W_block ?_
 refine W_seq ?_
 refine W_region_lit ?_
 refine Lq (.pointer none) rfl rfl rfl rfl ?_
 refine Lq (int k) rfl rfl rfl rfl ?_
 refine L_callG hst (v := (.bool false)) rfl rfl rfl (x_call (vs := #[(.pointer none), (int k)]) rfl rfl (by kernel_rfl) ent_51) (there_nil k (Le.refl _)) (fun w1 hst2 => ?_)
 refine Lq (.bool true) rfl rfl rfl rfl ?_
 refine Lq (.bool true) rfl rfl rfl rfl ?_
 refine L_nil ?_
 refine W_cond_true (by show Value.bool _ = _; exact congrArg Value.bool rfl) ?_
 refine W_seq ?_
 refine W_region_lit ?_
 refine Lq (int 0) rfl rfl rfl rfl ?_
 refine Lq (int 1) rfl rfl rfl rfl ?_
 refine L_nil ?_
 refine W_ret ?_
 refine ⟨_, _, res_run (rs := [.tmp 4, .tmp 5]) (vs := [(int 0), (int 1)]) Tryz.results38 (.cons (.tmp rfl) (.cons (.tmp rfl) .nil)) rfl, ?_⟩
 exact ⟨rfl, hst2.grow⟩

theorem Merge_nil {w : World} {R : Hp} (a b : Int) (hR : Le R (hp w)) :
    Calls Tryz.prog 27 #[.pointer none, int a, int b] w fun e w' => e = .returned (int 1) ∧ Grow w w' := by
 have hst := Step.ro hR
 refine calls_of_W (n := 54) Tryz.func27 rfl Tryz.ntmps27 (Nat.le_of_ble_eq_true rfl) ?_
 refine W_seq ?_
 refine W_region_lit ?_
 refine Lq (int 0) rfl rfl rfl rfl ?_
 refine L_nil ?_
 refine W_seq ?_
 refine W_seq ?_
 refine W_region_draw [] (fun w => Le R (hp w)) hmix (by decide +kernel) (fun _ _ h => h) ?_
 have hst2 := hst.draws (w.drawn + 1)
 generalize draws w (w.drawn + 1) = w1 at hst2 ⊢
 refine LP (.pointer none) 0 rfl rfl rfl (fun u4 => rfl) hst2.rle' ?_
 refine LP (int a) 1 rfl rfl rfl (fun u7 => rfl) hst2.rle' ?_
 refine LA_all [2] (by decide +kernel) (by simp) ?_
 intro i_ hi_
 simp only [List.mem_cons, List.not_mem_nil, or_false] at hi_
 subst hi_
 refine One_call (i := 2) rfl rfl rfl (Want.plain rfl) (x_call (vs := #[(.pointer none), (int a)]) rfl rfl (by kernel_rfl) ent_51) (there_nil a (Le.refl _)) ?_
 rintro e14 w12 ⟨rfl, hw15⟩
 have hst13 := hst2.grown hw15
 refine ⟨_, rfl, (fun _ => hst13.rle'), ?_⟩
 refine LP (.bool true) 3 rfl rfl rfl (fun u17 => rfl) hst13.rle' ?_
 refine LP (.bool true) 4 rfl rfl rfl (fun u20 => rfl) hst13.rle' ?_
 refine LV 5 rfl rfl rfl hst13.rle' ?_ (hw := (Want.of rfl rfl rfl rfl rfl))
 refine LV 6 rfl rfl rfl hst13.rle' ?_ (hw := (Want.of rfl rfl rfl rfl rfl))
 refine LV 7 rfl rfl rfl hst13.rle' ?_ (hw := (Want.of rfl rfl rfl rfl rfl))
 refine LV 8 rfl rfl rfl hst13.rle' ?_ (hw := (Want.of rfl rfl rfl rfl rfl))
 refine LP (.bool true) 9 rfl rfl rfl (fun u27 => rfl) hst13.rle' ?_
 refine LP (.bool true) 10 rfl rfl rfl (fun u30 => rfl) hst13.rle' ?_
 refine LV 11 rfl rfl rfl hst13.rle' ?_ (hw := (Want.of rfl rfl rfl rfl rfl))
 refine LV 12 rfl rfl rfl hst13.rle' ?_ (hw := (Want.of rfl rfl rfl rfl rfl))
 refine LV 13 rfl rfl rfl hst13.rle' ?_ (hw := (Want.of rfl rfl rfl rfl rfl))
 refine LV 14 rfl rfl rfl hst13.rle' ?_ (hw := (Want.of rfl rfl rfl rfl rfl))
 refine LV 15 rfl rfl rfl hst13.rle' ?_ (hw := (Want.of rfl rfl rfl rfl rfl))
 refine LV 16 rfl rfl rfl hst13.rle' ?_ (hw := (Want.of rfl rfl rfl rfl rfl))
 refine LV 17 rfl rfl rfl hst13.rle' ?_ (hw := (Want.of rfl rfl rfl rfl rfl))
 refine LV 18 rfl rfl rfl hst13.rle' ?_ (hw := (Want.of rfl rfl rfl rfl rfl))
 refine LV 19 rfl rfl rfl hst13.rle' ?_ (hw := (Want.of rfl rfl rfl rfl rfl))
 refine LV 20 rfl rfl rfl hst13.rle' ?_ (hw := (Want.of rfl rfl rfl rfl rfl))
 refine LV 21 rfl rfl rfl hst13.rle' ?_ (hw := (Want.of rfl rfl rfl rfl rfl))
 refine LV 22 rfl rfl rfl hst13.rle' ?_ (hw := (Want.of rfl rfl rfl rfl rfl))
 refine LV 23 rfl rfl rfl hst13.rle' ?_ (hw := (Want.of rfl rfl rfl rfl rfl))
 refine LV 24 rfl rfl rfl hst13.rle' ?_ (hw := (Want.of rfl rfl rfl rfl rfl))
 refine LV 25 rfl rfl rfl hst13.rle' ?_ (hw := (Want.of rfl rfl rfl rfl rfl))
 refine LV 26 rfl rfl rfl hst13.rle' ?_ (hw := (Want.of rfl rfl rfl rfl rfl))
 refine LP (.bool true) 27 rfl rfl rfl (fun u49 => rfl) hst13.rle' ?_
 refine LA_done (by decide +kernel) ?_
 refine W_cond_true (by show Value.bool _ = _; exact congrArg Value.bool rfl) ?_
 refine W_seq ?_
 refine W_region_lit ?_
 refine Lq (int 1) rfl rfl rfl rfl ?_
 refine L_nil ?_
 refine W_ret ?_
 refine ⟨_, _, res_run (rs := [.tmp 6]) (vs := [(int 1)]) Tryz.results27 (.cons (.tmp rfl) .nil) rfl, ?_⟩
 exact ⟨rfl, hst13.grow⟩

theorem Text_nil {w : World} {R : Hp}  (hR : Le R (hp w)) :
    Calls Tryz.prog 14 #[.pointer none] w fun e w' => e = .returned (.string eStr) ∧ Grow w w' := by
 have hst := Step.ro hR
 refine calls_of_W (n := 86) Tryz.func14 rfl Tryz.ntmps14 (Nat.le_of_ble_eq_true rfl) ?_
 refine W_seq ?_
 refine W_region_lit ?_
 refine Lq (.string ⟨#[]⟩) rfl rfl rfl rfl ?_
 refine L_nil ?_
 refine W_seq ?_
 refine W_seq ?_
 refine W_region_lit ?_
 refine Lq (.pointer none) rfl rfl rfl rfl ?_
 refine Lq (.bool true) rfl rfl rfl (by kernel_rfl) ?_
 refine Lq (.bool true) rfl rfl rfl rfl ?_
 refine L_unwanted rfl rfl rfl rfl rfl rfl rfl ?_
 refine L_unwanted rfl rfl rfl rfl rfl rfl rfl ?_
 refine L_unwanted rfl rfl rfl rfl rfl rfl rfl ?_
 refine L_unwanted rfl rfl rfl rfl rfl rfl rfl ?_
 refine L_unwanted rfl rfl rfl rfl rfl rfl rfl ?_
 refine Lq (.bool true) rfl rfl rfl rfl ?_
 refine L_nil ?_
 refine W_cond_true (by show Value.bool _ = _; exact congrArg Value.bool rfl) ?_
 refine W_seq ?_
 refine W_region_lit ?_
 refine Lq (.string ⟨#[]⟩) rfl rfl rfl rfl ?_
 refine L_nil ?_
 refine W_ret ?_
 refine ⟨_, _, res_run (rs := [.tmp 2]) (vs := [(.string ⟨#[]⟩)]) Tryz.results14 (.cons (.tmp rfl) .nil) rfl, ?_⟩
 exact ⟨rfl, hst.grow⟩

theorem there_zero {w : World} {R : Hp} {p : Nat} (k : Int) (hz : Le (treeB p (.slice none 0 0) (.slice none 0 0) none) R) (hR : Le R (hp w)) :
    Calls Tryz.prog 51 #[ptr p 0, int k] w fun e w' => e = .returned (.bool false) ∧ Grow w w' := by
  refine (there_spec k (zeroR hz) hR).mono ?_
  rintro e w' ⟨rfl, g⟩
  exact ⟨by rw [show thereL [] k = false from zthere k], g⟩

theorem Canon_zero {w : World} {R : Hp} {p : Nat} (k : Int) (hz : Le (treeB p (.slice none 0 0) (.slice none 0 0) none) R) (hR : Le R (hp w)) :
    Calls Tryz.prog 21 #[ptr p 0, int k] w fun e w' => e = .returned (int (-1)) ∧ Grow w w' := by
  refine (Canon_spec k (zeroR hz) hR).mono ?_
  rintro e w' ⟨rfl, g⟩
  exact ⟨by rw [show canon [] k = -1 from zcanon k], g⟩

theorem Class_zero {w : World} {R : Hp} {p : Nat} (k : Int) (hz : Le (treeB p (.slice none 0 0) (.slice none 0 0) none) R) (hR : Le R (hp w)) :
    Calls Tryz.prog 22 #[ptr p 0, int k] w fun e w' => e = .returned (int (-1)) ∧ Grow w w' := by
  refine (Class_spec k (zeroR hz) hR).mono ?_
  rintro e w' ⟨rfl, g⟩
  exact ⟨by rw [show clsL [] k = -1 from zcls k], g⟩

theorem Count_zero {w : World} {R : Hp} {p : Nat}  (hz : Le (treeB p (.slice none 0 0) (.slice none 0 0) none) R) (hR : Le R (hp w)) :
    Calls Tryz.prog 19 #[ptr p 0] w fun e w' => e = .returned (int 0) ∧ Grow w w' := by
  exact Count_spec (zeroR hz) hR

theorem Names_zero {w : World} {R : Hp} {p : Nat} (k : Int) (hz : Le (treeB p (.slice none 0 0) (.slice none 0 0) none) R) (hR : Le R (hp w)) :
    Calls Tryz.prog 24 #[ptr p 0, int k] w fun e w' => e = .returned (.slice none 0 0) ∧ Grow w w' := by
 have hst := Step.ro hR
 refine calls_of_W (n := 18) Tryz.func24 rfl Tryz.ntmps24 (Nat.le_of_ble_eq_true rfl) ?_
 refine W_seq ?_
 refine W_region_lit ?_
 refine Lq (.slice none 0 0) rfl rfl rfl rfl ?_
 refine L_nil ?_
 refine W_seq ?_
 refine W_seq ?_
 refine W_region_lit ?_
 refine Lq (ptr p 0) rfl rfl rfl rfl ?_
 refine Lq (int k) rfl rfl rfl rfl ?_
 refine L_callG hst (v := (.bool false)) rfl rfl rfl (x_call (vs := #[(ptr p 0), (int k)]) rfl rfl (by kernel_rfl) ent_51) (there_zero k (Le.trans hz hst.rle') (Le.refl _)) (fun w1 hst2 => ?_)
 refine Lq (.bool true) rfl rfl rfl rfl ?_
 refine L_nil ?_
 refine W_cond_true (by show Value.bool _ = _; exact congrArg Value.bool rfl) ?_
 refine W_seq ?_
 refine W_region_lit ?_
 refine Lq (.slice none 0 0) rfl rfl rfl rfl ?_
 refine L_nil ?_
 refine W_ret ?_
 refine ⟨_, _, res_run (rs := [.tmp 4]) (vs := [(.slice none 0 0)]) Tryz.results24 (.cons (.tmp rfl) .nil) rfl, ?_⟩
 exact ⟨rfl, hst2.grow⟩

theorem Root_zero {w : World} {R : Hp} {p : Nat} (k : Int) (hz : Le (treeB p (.slice none 0 0) (.slice none 0 0) none) R) (hR : Le R (hp w)) :
    Calls Tryz.prog 26 #[ptr p 0, int k] w fun e w' => e = .returned (int (-1)) ∧ Grow w w' := by
  refine (Root_spec k (zeroR hz) hR).mono ?_
  rintro e w' ⟨rfl, g⟩
  exact ⟨by rw [show rootL [] [] k = -1 from zroot k], g⟩

theorem Slot_zero {w : World} {R : Hp} {p : Nat} (k : Int) (t : Str) (hz : Le (treeB p (.slice none 0 0) (.slice none 0 0) none) R) (hR : Le R (hp w)) :
    Calls Tryz.prog 30 #[ptr p 0, int k, .string t] w fun e w' => e = .returned (.tuple #[int 0, .bool false]) ∧ Grow w w' := by
  refine (Slot_spec k t (zeroR hz) hR).mono ?_
  rintro e w' ⟨rfl, g⟩
  exact ⟨by rw [show slotL [] k t = (0, false) from zslot k t], g⟩

theorem Find_zero {w : World} {R : Hp} {p : Nat} (k : Int) (hz : Le (treeB p (.slice none 0 0) (.slice none 0 0) none) R) (hR : Le R (hp w)) :
    Calls Tryz.prog 25 #[ptr p 0, int k, .slice none 0 0] w fun e w' => e = .returned (.tuple #[int 0, .bool false]) ∧ Grow w w' := by
  exact Find_spec k [] (RdS.nilv _ R) (by decide) (zeroR hz) hR

theorem Make_zero {w : World} {R : Hp} {p : Nat}  (hz : Le (treeB p (.slice none 0 0) (.slice none 0 0) none) R) (hR : Le R (hp w)) :
    Calls Tryz.prog 29 #[ptr p 0, int 0, .slice none 0 0] w fun e w' => e = .returned (.tuple #[int 0, int 1]) ∧ Grow w w' := by
 have hst := Step.ro hR
 refine calls_of_W (n := 78) Tryz.func29 rfl Tryz.ntmps29 (Nat.le_of_ble_eq_true rfl) ?_
 refine W_seq ?_
 refine W_region_lit ?_
 refine Lq (int 0) rfl rfl rfl rfl ?_
 refine Lq (int 0) rfl rfl rfl rfl ?_
 refine L_nil ?_
 refine W_seq ?_
 refine W_seq ?_
 refine W_region_lit ?_
 refine Lq (ptr p 0) rfl rfl rfl rfl ?_
 refine Lq (.bool false) rfl rfl rfl (by kernel_rfl) ?_
 refine Lq (.bool false) rfl rfl rfl rfl ?_
 refine L_guard rfl rfl rfl rfl rfl ?_
 refine Lq (int 0) rfl rfl rfl rfl ?_
 refine L_guard rfl rfl rfl rfl rfl ?_
 refine Lq (.bool false) rfl rfl rfl (by kernel_rfl) ?_
 refine Lq (.bool false) rfl rfl rfl rfl ?_
 refine Lq (.bool false) rfl rfl rfl rfl ?_
 refine L_guard rfl rfl rfl rfl rfl ?_
 refine Lq (int 0) rfl rfl rfl rfl ?_
 refine L_guard rfl rfl rfl rfl rfl ?_
 refine Lq (ptr p 0) rfl rfl rfl rfl ?_
 refine L_guard rfl rfl rfl rfl rfl ?_
 refine Lq (ptr p 0) rfl rfl rfl rfl ?_
 refine L_guard rfl rfl rfl rfl rfl ?_
 refine Lq (ptr p 1) rfl rfl rfl (by kernel_rfl) ?_
 refine L_guard rfl rfl rfl rfl rfl ?_
 refine Lq (.slice none 0 0) rfl rfl rfl (x_load rfl rfl (run_loadVar_one ti_62 (hst.rle' _ _ (hz _ _ (one_self _ _))) rfl)) ?_
 refine L_guard rfl rfl rfl rfl rfl ?_
 refine Lq (int 0) rfl rfl rfl (x_len_slice rfl sl_62 rfl) ?_
 refine L_guard rfl rfl rfl rfl rfl ?_
 refine Lq (.bool true) rfl rfl rfl (by kernel_rfl) ?_
 refine Lq (.bool true) rfl rfl rfl rfl ?_
 refine Lq (.bool true) rfl rfl rfl rfl ?_
 refine L_unwanted rfl rfl rfl rfl rfl rfl rfl ?_
 refine L_unwanted rfl rfl rfl rfl rfl rfl rfl ?_
 refine L_unwanted rfl rfl rfl rfl rfl rfl rfl ?_
 refine Lq (.bool true) rfl rfl rfl rfl ?_
 refine L_nil ?_
 refine W_cond_true (by show Value.bool _ = _; exact congrArg Value.bool rfl) ?_
 refine W_seq ?_
 refine W_region_lit ?_
 refine Lq (int 0) rfl rfl rfl rfl ?_
 refine Lq (int 1) rfl rfl rfl rfl ?_
 refine L_nil ?_
 refine W_ret ?_
 refine ⟨_, _, res_run (rs := [.tmp 6, .tmp 7]) (vs := [(int 0), (int 1)]) Tryz.results29 (.cons (.tmp rfl) (.cons (.tmp rfl) .nil)) rfl, ?_⟩
 exact ⟨rfl, hst.grow⟩

theorem Add_zero {w : World} {R : Hp} {p : Nat} (k : Int) (t : Str) (hz : Le (treeB p (.slice none 0 0) (.slice none 0 0) none) R) (hR : Le R (hp w)) :
    Calls Tryz.prog 28 #[ptr p 0, int k, .string t] w fun e w' => e = .returned (.tuple #[int 0, int 1]) ∧ Grow w w' := by
 have hst := Step.ro hR
 refine calls_of_W (n := 81) Tryz.func28 rfl Tryz.ntmps28 (Nat.le_of_ble_eq_true rfl) ?_
 refine W_seq ?_
 refine W_region_lit ?_
 refine Lq (int 0) rfl rfl rfl rfl ?_
 refine Lq (int 0) rfl rfl rfl rfl ?_
 refine L_nil ?_
 refine W_seq ?_
 refine W_seq ?_
 refine W_region_lit ?_
 refine Lq (ptr p 0) rfl rfl rfl rfl ?_
 refine Lq (int k) rfl rfl rfl rfl ?_
 refine L_callG hst (v := (.bool false)) rfl rfl rfl (x_call (vs := #[(ptr p 0), (int k)]) rfl rfl (by kernel_rfl) ent_51) (there_zero k (Le.trans hz hst.rle') (Le.refl _)) (fun w1 hst2 => ?_)
 refine Lq (.bool true) rfl rfl rfl rfl ?_
 refine L_nil ?_
 refine W_cond_true (by show Value.bool _ = _; exact congrArg Value.bool rfl) ?_
 refine W_seq ?_
 refine W_region_lit ?_
 refine Lq (int 0) rfl rfl rfl rfl ?_
 refine Lq (int 1) rfl rfl rfl rfl ?_
 refine L_nil ?_
 refine W_ret ?_
 refine ⟨_, _, res_run (rs := [.tmp 6, .tmp 7]) (vs := [(int 0), (int 1)]) Tryz.results28 (.cons (.tmp rfl) (.cons (.tmp rfl) .nil)) rfl, ?_⟩
 exact ⟨rfl, hst2.grow⟩

theorem Split_zero {w : World} {R : Hp} {p : Nat} (k : Int) (hz : Le (treeB p (.slice none 0 0) (.slice none 0 0) none) R) (hR : Le R (hp w)) :
    Calls Tryz.prog 38 #[ptr p 0, int k] w fun e w' => e = .returned (.tuple #[int 0, int 1]) ∧ Grow w w' := by
 have hst := Step.ro hR
 refine calls_of_W (n := 90) Tryz.func38 rfl Tryz.ntmps38 (Nat.le_of_ble_eq_true rfl) ?_
 refine W_seq ?_
 refine W_region_lit ?_
 refine Lq (int 0) rfl rfl rfl rfl ?_
 refine Lq (int 0) rfl rfl rfl rfl ?_
 refine L_nil ?_
 refine W_seq ?_
 refine W_block ?_
 refine W_seq ?_
 refine W_region_lit ?_
 refine Lq (ptr p 0) rfl rfl rfl rfl ?_
 refine Lq (int k) rfl rfl rfl rfl ?_
 refine L_callG hst (v := (.bool false)) rfl rfl rfl (x_call (vs := #[(ptr p 0), (int k)]) rfl rfl (by kernel_rfl) ent_51) (there_zero k (Le.trans hz hst.rle') (Le.refl _)) (fun w1 hst2 => ?_)
 refine Lq (.bool true) rfl rfl rfl rfl ?_
 refine Lq (.bool true) rfl rfl rfl rfl ?_
 refine L_nil ?_
 refine W_cond_true (by show Value.bool _ = _; exact congrArg Value.bool rfl) ?_
 refine W_seq ?_
 refine W_region_lit ?_
 refine Lq (int 0) rfl rfl rfl rfl ?_
 refine Lq (int 1) rfl rfl rfl rfl ?_
 refine L_nil ?_
 refine W_ret ?_
 refine ⟨_, _, res_run (rs := [.tmp 4, .tmp 5]) (vs := [(int 0), (int 1)]) Tryz.results38 (.cons (.tmp rfl) (.cons (.tmp rfl) .nil)) rfl, ?_⟩
 exact ⟨rfl, hst2.grow⟩

theorem Merge_zero {w : World} {R : Hp} {p : Nat} (a b : Int) (hz : Le (treeB p (.slice none 0 0) (.slice none 0 0) none) R) (hR : Le R (hp w)) :
    Calls Tryz.prog 27 #[ptr p 0, int a, int b] w fun e w' => e = .returned (int 1) ∧ Grow w w' := by
 have hst := Step.ro hR
 refine calls_of_W (n := 54) Tryz.func27 rfl Tryz.ntmps27 (Nat.le_of_ble_eq_true rfl) ?_
 refine W_seq ?_
 refine W_region_lit ?_
 refine Lq (int 0) rfl rfl rfl rfl ?_
 refine L_nil ?_
 refine W_seq ?_
 refine W_seq ?_
 refine W_region_draw [] (fun w => Le R (hp w)) hmix (by decide +kernel) (fun _ _ h => h) ?_
 have hst2 := hst.draws (w.drawn + 1)
 generalize draws w (w.drawn + 1) = w1 at hst2 ⊢
 refine LP (ptr p 0) 0 rfl rfl rfl (fun u4 => rfl) hst2.rle' ?_
 refine LP (int a) 1 rfl rfl rfl (fun u7 => rfl) hst2.rle' ?_
 refine LA_all [2] (by decide +kernel) (by simp) ?_
 intro i_ hi_
 simp only [List.mem_cons, List.not_mem_nil, or_false] at hi_
 subst hi_
 refine One_call (i := 2) rfl rfl rfl (Want.plain rfl) (x_call (vs := #[(ptr p 0), (int a)]) rfl rfl (by kernel_rfl) ent_51) (there_zero a (Le.trans hz hst2.rle') (Le.refl _)) ?_
 rintro e14 w12 ⟨rfl, hw15⟩
 have hst13 := hst2.grown hw15
 refine ⟨_, rfl, (fun _ => hst13.rle'), ?_⟩
 refine LP (.bool true) 3 rfl rfl rfl (fun u17 => rfl) hst13.rle' ?_
 refine LP (.bool true) 4 rfl rfl rfl (fun u20 => rfl) hst13.rle' ?_
 refine LV 5 rfl rfl rfl hst13.rle' ?_ (hw := (Want.of rfl rfl rfl rfl rfl))
 refine LV 6 rfl rfl rfl hst13.rle' ?_ (hw := (Want.of rfl rfl rfl rfl rfl))
 refine LV 7 rfl rfl rfl hst13.rle' ?_ (hw := (Want.of rfl rfl rfl rfl rfl))
 refine LV 8 rfl rfl rfl hst13.rle' ?_ (hw := (Want.of rfl rfl rfl rfl rfl))
 refine LP (.bool true) 9 rfl rfl rfl (fun u27 => rfl) hst13.rle' ?_
 refine LP (.bool true) 10 rfl rfl rfl (fun u30 => rfl) hst13.rle' ?_
 refine LV 11 rfl rfl rfl hst13.rle' ?_ (hw := (Want.of rfl rfl rfl rfl rfl))
 refine LV 12 rfl rfl rfl hst13.rle' ?_ (hw := (Want.of rfl rfl rfl rfl rfl))
 refine LV 13 rfl rfl rfl hst13.rle' ?_ (hw := (Want.of rfl rfl rfl rfl rfl))
 refine LV 14 rfl rfl rfl hst13.rle' ?_ (hw := (Want.of rfl rfl rfl rfl rfl))
 refine LV 15 rfl rfl rfl hst13.rle' ?_ (hw := (Want.of rfl rfl rfl rfl rfl))
 refine LV 16 rfl rfl rfl hst13.rle' ?_ (hw := (Want.of rfl rfl rfl rfl rfl))
 refine LV 17 rfl rfl rfl hst13.rle' ?_ (hw := (Want.of rfl rfl rfl rfl rfl))
 refine LV 18 rfl rfl rfl hst13.rle' ?_ (hw := (Want.of rfl rfl rfl rfl rfl))
 refine LV 19 rfl rfl rfl hst13.rle' ?_ (hw := (Want.of rfl rfl rfl rfl rfl))
 refine LV 20 rfl rfl rfl hst13.rle' ?_ (hw := (Want.of rfl rfl rfl rfl rfl))
 refine LV 21 rfl rfl rfl hst13.rle' ?_ (hw := (Want.of rfl rfl rfl rfl rfl))
 refine LV 22 rfl rfl rfl hst13.rle' ?_ (hw := (Want.of rfl rfl rfl rfl rfl))
 refine LV 23 rfl rfl rfl hst13.rle' ?_ (hw := (Want.of rfl rfl rfl rfl rfl))
 refine LV 24 rfl rfl rfl hst13.rle' ?_ (hw := (Want.of rfl rfl rfl rfl rfl))
 refine LV 25 rfl rfl rfl hst13.rle' ?_ (hw := (Want.of rfl rfl rfl rfl rfl))
 refine LV 26 rfl rfl rfl hst13.rle' ?_ (hw := (Want.of rfl rfl rfl rfl rfl))
 refine LP (.bool true) 27 rfl rfl rfl (fun u49 => rfl) hst13.rle' ?_
 refine LA_done (by decide +kernel) ?_
 refine W_cond_true (by show Value.bool _ = _; exact congrArg Value.bool rfl) ?_
 refine W_seq ?_
 refine W_region_lit ?_
 refine Lq (int 1) rfl rfl rfl rfl ?_
 refine L_nil ?_
 refine W_ret ?_
 refine ⟨_, _, res_run (rs := [.tmp 6]) (vs := [(int 1)]) Tryz.results27 (.cons (.tmp rfl) .nil) rfl, ?_⟩
 exact ⟨rfl, hst13.grow⟩

theorem Text_zero {w : World} {R : Hp} {p : Nat}  (hz : Le (treeB p (.slice none 0 0) (.slice none 0 0) none) R) (hR : Le R (hp w)) :
    Calls Tryz.prog 14 #[ptr p 0] w fun e w' => e = .returned (.string eStr) ∧ Grow w w' := by
 have hst := Step.ro hR
 refine calls_of_W (n := 86) Tryz.func14 rfl Tryz.ntmps14 (Nat.le_of_ble_eq_true rfl) ?_
 refine W_seq ?_
 refine W_region_lit ?_
 refine Lq (.string ⟨#[]⟩) rfl rfl rfl rfl ?_
 refine L_nil ?_
 refine W_seq ?_
 refine W_seq ?_
 refine W_region_lit ?_
 refine Lq (ptr p 0) rfl rfl rfl rfl ?_
 refine Lq (.bool false) rfl rfl rfl (by kernel_rfl) ?_
 refine Lq (.bool false) rfl rfl rfl rfl ?_
 refine L_guard rfl rfl rfl rfl rfl ?_
 refine Lq (ptr p 0) rfl rfl rfl rfl ?_
 refine L_guard rfl rfl rfl rfl rfl ?_
 refine Lq (ptr p 0) rfl rfl rfl rfl ?_
 refine L_guard rfl rfl rfl rfl rfl ?_
 refine Lq (ptr p 2) rfl rfl rfl (by kernel_rfl) ?_
 refine L_guard rfl rfl rfl rfl rfl ?_
 refine Lq (.map none) rfl rfl rfl (x_load rfl rfl (run_loadVar_one ti_63 (hst.rle' _ _ (hz _ _ (one_self _ _))) rfl)) ?_
 refine L_guard rfl rfl rfl rfl rfl ?_
 refine Lq (.bool true) rfl rfl rfl (by kernel_rfl) ?_
 refine Lq (.bool true) rfl rfl rfl rfl ?_
 refine L_nil ?_
 refine W_cond_true (by show Value.bool _ = _; exact congrArg Value.bool rfl) ?_
 refine W_seq ?_
 refine W_region_lit ?_
 refine Lq (.string ⟨#[]⟩) rfl rfl rfl rfl ?_
 refine L_nil ?_
 refine W_ret ?_
 refine ⟨_, _, res_run (rs := [.tmp 2]) (vs := [(.string ⟨#[]⟩)]) Tryz.results14 (.cons (.tmp rfl) .nil) rfl, ?_⟩
 exact ⟨rfl, hst.grow⟩

set_option maxHeartbeats 2000000 in
theorem Nil_spec {w : World} {R : Hp} {v : Value} (n : Int) (acts : List Ac) (k : Int) (hs : Sats w R []) (hv : RdS tyAc R v acts) :
    Calls Tryz.prog 9 #[int n, v, int k] w (Comes' w R [] fun v' R' L' => v' = .bool true ∧ L' = []) := by
 have hst := Step.refl hs
 have hes : eStr.size = 0 := rfl
 refine calls_of_W (n := 151) Tryz.func9 rfl Tryz.ntmps9 (Nat.le_of_ble_eq_true rfl) ?_
 refine W_seq ?_
 refine W_region_lit ?_
 refine Lq (.bool false) rfl rfl rfl rfl ?_
 refine L_nil ?_
 refine W_seq ?_
 refine W_region_lit ?_
 refine L_callG hst (v := (.bool true)) rfl rfl rfl (x_call (vs := #[]) rfl rfl (by kernel_rfl) ent_10) sanity_spec (fun w1 hst2 => ?_)
 refine Lq (.bool true) rfl rfl rfl rfl ?_
 refine L_nil ?_
 refine W_seq ?_
 refine W_region_lit ?_
 refine Lq (.pointer none) rfl rfl rfl rfl ?_
 refine L_nil ?_
 refine W_seq ?_
 refine W_seq ?_
 refine W_region_lit ?_
 refine Lq (.pointer none) rfl rfl rfl rfl ?_
 refine Lq (.agg #[(.slice none 0 0), (.slice none 0 0), (.map none)]) rfl rfl rfl (by kernel_rfl) ?_
 refine L_new hst2 (v := fun b => ptr b 0) (ob := .cells #[(.slice none 0 0), (.slice none 0 0), (.map none)] 65 (0, 0)) rfl rfl rfl (by kernel_rfl) (fun b3 w4 hst5 => ?_)
 refine L_new hst5 (v := fun b => .slice (some ⟨b, 0, none⟩) 2 2) (ob := .cells #[(.pointer none), (ptr b3 0)] 24 (0, 0)) rfl rfl rfl (by kernel_rfl) (fun b6 w7 hst8 => ?_)
 refine Lq (int 2) rfl rfl rfl (x_len_slice rfl sl_66 rfl) ?_
 refine Lq (int 0) rfl rfl rfl rfl ?_
 refine L_nil ?_
 refine W_block ?_
 refine W_loop_unr 2 ?_
 show W _ _ _ _ _ _ _
 refine W_seq ?_
 refine W_region_lit ?_
 refine Lq (.bool true) rfl rfl rfl (by kernel_rfl) ?_
 refine L_nil ?_
 refine W_seq ?_
 refine W_cond_true (by show Value.bool _ = _; exact congrArg Value.bool rfl) ?_
 refine W_skip ?_
 refine W_seq ?_
 refine W_block ?_
 refine W_seq ?_
 refine W_region_lit ?_
 refine Lq (ptr b6 0) rfl rfl rfl (x_indexAddr' (k := 0) (len := 2) rfl sl_66 ti_24 rfl rfl (by decide)) ?_
 refine Lq (.pointer none) rfl rfl rfl (x_load rfl rfl (run_loadVar_one ti_24 (hst8.b 0) rfl)) ?_
 refine Lq (.pointer none) rfl rfl rfl rfl ?_
 refine L_nil ?_
 refine W_seq ?_
 refine W_region_lit ?_
 refine Lq (.pointer none) rfl rfl rfl rfl ?_
 refine Lq (int k) rfl rfl rfl rfl ?_
 refine L_callG hst8 (v := (.tuple #[(int 0), (int 1)])) rfl rfl rfl (x_call (vs := #[(.pointer none), (int k), (.string ⟨#[120]⟩)]) rfl rfl (by kernel_rfl) ent_28) (Add_nil k ⟨#[120]⟩ (Le.refl _)) (fun w9 hst10 => ?_)
 refine Lq (.tuple #[(int 0), (int 1)]) rfl rfl rfl rfl ?_
 refine Lq (int 0) rfl rfl rfl (by kernel_rfl) ?_
 refine Lq (int 1) rfl rfl rfl (by kernel_rfl) ?_
 refine Lq (int 0) rfl rfl rfl rfl ?_
 refine Lq (int 1) rfl rfl rfl rfl ?_
 refine L_nil ?_
 refine W_seq ?_
 refine W_region_lit ?_
 refine Lq (.pointer none) rfl rfl rfl rfl ?_
 refine Lq (int k) rfl rfl rfl rfl ?_
 refine L_callG hst10 (v := (.tuple #[(int 0), (int 1)])) rfl rfl rfl (x_call (vs := #[(.pointer none), (int k)]) rfl rfl (by kernel_rfl) ent_38) (Split_nil k (Le.refl _)) (fun w11 hst12 => ?_)
 refine Lq (.tuple #[(int 0), (int 1)]) rfl rfl rfl rfl ?_
 refine Lq (int 0) rfl rfl rfl (by kernel_rfl) ?_
 refine Lq (int 1) rfl rfl rfl (by kernel_rfl) ?_
 refine Lq (int 0) rfl rfl rfl rfl ?_
 refine Lq (int 1) rfl rfl rfl rfl ?_
 refine L_nil ?_
 refine W_seq ?_
 refine W_region_lit ?_
 refine Lq (.pointer none) rfl rfl rfl rfl ?_
 refine Lq (int k) rfl rfl rfl rfl ?_
 refine L_callG hst12 (v := (.tuple #[(int 0), (.bool false)])) rfl rfl rfl (x_call (vs := #[(.pointer none), (int k), (.string ⟨#[120]⟩)]) rfl rfl (by kernel_rfl) ent_30) (Slot_nil k ⟨#[120]⟩ (Le.refl _)) (fun w13 hst14 => ?_)
 refine Lq (.tuple #[(int 0), (.bool false)]) rfl rfl rfl rfl ?_
 refine Lq (int 0) rfl rfl rfl (by kernel_rfl) ?_
 refine Lq (.bool false) rfl rfl rfl (by kernel_rfl) ?_
 refine Lq (int 0) rfl rfl rfl rfl ?_
 refine Lq (.bool false) rfl rfl rfl rfl ?_
 refine L_nil ?_
 refine W_seq ?_
 refine W_region_lit ?_
 refine Lq (.pointer none) rfl rfl rfl rfl ?_
 refine L_callG hst14 (v := (.tuple #[(int 0), (.bool false)])) rfl rfl rfl (x_call (vs := #[(.pointer none), (int 0), (.slice none 0 0)]) rfl rfl (by kernel_rfl) ent_25) (Find_nil 0 (Le.refl _)) (fun w15 hst16 => ?_)
 refine Lq (.tuple #[(int 0), (.bool false)]) rfl rfl rfl rfl ?_
 refine Lq (int 0) rfl rfl rfl (by kernel_rfl) ?_
 refine Lq (.bool false) rfl rfl rfl (by kernel_rfl) ?_
 refine Lq (int 0) rfl rfl rfl rfl ?_
 refine Lq (.bool false) rfl rfl rfl rfl ?_
 refine L_nil ?_
 refine W_seq ?_
 refine W_region_lit ?_
 refine Lq (.pointer none) rfl rfl rfl rfl ?_
 refine L_callG hst16 (v := (.tuple #[(int 0), (int 1)])) rfl rfl rfl (x_call (vs := #[(.pointer none), (int 0), (.slice none 0 0)]) rfl rfl (by kernel_rfl) ent_29) (Make_nil 0 (Le.refl _)) (fun w17 hst18 => ?_)
 refine Lq (.tuple #[(int 0), (int 1)]) rfl rfl rfl rfl ?_
 refine Lq (int 0) rfl rfl rfl (by kernel_rfl) ?_
 refine Lq (int 1) rfl rfl rfl (by kernel_rfl) ?_
 refine Lq (int 0) rfl rfl rfl rfl ?_
 refine Lq (int 1) rfl rfl rfl rfl ?_
 refine L_nil ?_
 refine W_seq ?_
 refine W_region_lit ?_
 refine Lq (int 1) rfl rfl rfl rfl ?_
 refine Lq (.bool false) rfl rfl rfl (by kernel_rfl) ?_
 refine Lq (.bool false) rfl rfl rfl rfl ?_
 refine L_guard rfl rfl rfl rfl rfl ?_
 refine Lq (int 1) rfl rfl rfl rfl ?_
 refine L_guard rfl rfl rfl rfl rfl ?_
 refine Lq (.bool false) rfl rfl rfl (by kernel_rfl) ?_
 refine Lq (.bool false) rfl rfl rfl rfl ?_
 refine Lq (.bool false) rfl rfl rfl rfl ?_
 refine L_guard rfl rfl rfl rfl rfl ?_
 refine Lq (int 1) rfl rfl rfl rfl ?_
 refine L_guard rfl rfl rfl rfl rfl ?_
 refine Lq (.bool false) rfl rfl rfl (by kernel_rfl) ?_
 refine Lq (.bool false) rfl rfl rfl rfl ?_
 refine Lq (.bool false) rfl rfl rfl rfl ?_
 refine L_guard rfl rfl rfl rfl rfl ?_
 refine Lq (.pointer none) rfl rfl rfl rfl ?_
 refine L_guard rfl rfl rfl rfl rfl ?_
 refine Lq (int k) rfl rfl rfl rfl ?_
 refine L_guard rfl rfl rfl rfl rfl ?_
 refine Lq (int k) rfl rfl rfl rfl ?_
 refine L_guard rfl rfl rfl rfl rfl ?_
 refine L_callG hst18 (v := (int 1)) rfl rfl rfl (x_call (vs := #[(.pointer none), (int k), (int k)]) rfl rfl (by kernel_rfl) ent_27) (Merge_nil k k (Le.refl _)) (fun w19 hst20 => ?_)
 refine L_guard rfl rfl rfl rfl rfl ?_
 refine Lq (.bool false) rfl rfl rfl (by kernel_rfl) ?_
 refine Lq (.bool false) rfl rfl rfl rfl ?_
 refine Lq (.bool false) rfl rfl rfl rfl ?_
 refine L_guard rfl rfl rfl rfl rfl ?_
 refine Lq (.bool false) rfl rfl rfl rfl ?_
 refine Lq (.bool false) rfl rfl rfl rfl ?_
 refine Lq (.bool false) rfl rfl rfl rfl ?_
 refine L_guard rfl rfl rfl rfl rfl ?_
 refine Lq (.bool false) rfl rfl rfl rfl ?_
 refine Lq (.bool false) rfl rfl rfl rfl ?_
 refine Lq (.bool false) rfl rfl rfl rfl ?_
 refine L_guard rfl rfl rfl rfl rfl ?_
 refine Lq (.pointer none) rfl rfl rfl rfl ?_
 refine L_guard rfl rfl rfl rfl rfl ?_
 refine L_callG hst20 (v := (int (-1))) rfl rfl rfl (x_call (vs := #[(.pointer none), (int 0)]) rfl rfl (by kernel_rfl) ent_26) (Root_nil 0 (Le.refl _)) (fun w21 hst22 => ?_)
 refine L_guard rfl rfl rfl rfl rfl ?_
 refine Lq (.bool false) rfl rfl rfl (by kernel_rfl) ?_
 refine Lq (.bool false) rfl rfl rfl rfl ?_
 refine Lq (.bool false) rfl rfl rfl rfl ?_
 refine L_guard rfl rfl rfl rfl rfl ?_
 refine Lq (.pointer none) rfl rfl rfl rfl ?_
 refine L_guard rfl rfl rfl rfl rfl ?_
 refine Lq (int k) rfl rfl rfl rfl ?_
 refine L_guard rfl rfl rfl rfl rfl ?_
 refine L_callG hst22 (v := (int (-1))) rfl rfl rfl (x_call (vs := #[(.pointer none), (int k)]) rfl rfl (by kernel_rfl) ent_22) (Class_nil k (Le.refl _)) (fun w23 hst24 => ?_)
 refine L_guard rfl rfl rfl rfl rfl ?_
 refine Lq (.bool false) rfl rfl rfl (by kernel_rfl) ?_
 refine Lq (.bool false) rfl rfl rfl rfl ?_
 refine Lq (.bool false) rfl rfl rfl rfl ?_
 refine L_guard rfl rfl rfl rfl rfl ?_
 refine Lq (.pointer none) rfl rfl rfl rfl ?_
 refine L_guard rfl rfl rfl rfl rfl ?_
 refine Lq (int k) rfl rfl rfl rfl ?_
 refine L_guard rfl rfl rfl rfl rfl ?_
 refine L_callG hst24 (v := (int (-1))) rfl rfl rfl (x_call (vs := #[(.pointer none), (int k)]) rfl rfl (by kernel_rfl) ent_21) (Canon_nil k (Le.refl _)) (fun w25 hst26 => ?_)
 refine L_guard rfl rfl rfl rfl rfl ?_
 refine Lq (.bool false) rfl rfl rfl (by kernel_rfl) ?_
 refine Lq (.bool false) rfl rfl rfl rfl ?_
 refine Lq (.bool false) rfl rfl rfl rfl ?_
 refine L_guard rfl rfl rfl rfl rfl ?_
 refine Lq (.pointer none) rfl rfl rfl rfl ?_
 refine L_guard rfl rfl rfl rfl rfl ?_
 refine Lq (int k) rfl rfl rfl rfl ?_
 refine L_guard rfl rfl rfl rfl rfl ?_
 refine L_callG hst26 (v := (.slice none 0 0)) rfl rfl rfl (x_call (vs := #[(.pointer none), (int k)]) rfl rfl (by kernel_rfl) ent_24) (Names_nil k (Le.refl _)) (fun w27 hst28 => ?_)
 refine L_guard rfl rfl rfl rfl rfl ?_
 refine Lq (int 0) rfl rfl rfl (x_len_slice rfl sl_42 rfl) ?_
 refine L_guard rfl rfl rfl rfl rfl ?_
 refine Lq (.pointer none) rfl rfl rfl rfl ?_
 refine L_guard rfl rfl rfl rfl rfl ?_
 refine L_callG hst28 (v := (int 0)) rfl rfl rfl (x_call (vs := #[(.pointer none)]) rfl rfl (by kernel_rfl) ent_19) (Count_nil  (Le.refl _)) (fun w29 hst30 => ?_)
 refine L_guard rfl rfl rfl rfl rfl ?_
 refine Lq (int 0) rfl rfl rfl (by kernel_rfl) ?_
 refine L_guard rfl rfl rfl rfl rfl ?_
 refine Lq (.pointer none) rfl rfl rfl rfl ?_
 refine L_guard rfl rfl rfl rfl rfl ?_
 refine L_callG hst30 (v := (.string eStr)) rfl rfl rfl (x_call (vs := #[(.pointer none)]) rfl rfl (by kernel_rfl) ent_14) (Text_nil  (Le.refl _)) (fun w31 hst32 => ?_)
 refine L_guard rfl rfl rfl rfl rfl ?_
 refine Lq (int (eStr.size : Int)) rfl rfl rfl (x_len_string rfl (by kernel_rfl) rfl) ?_
 refine L_guard rfl rfl rfl rfl rfl ?_
 refine Lq (int ((0 + eStr.size : Nat) : Int)) rfl rfl rfl (x_add_nat rfl rfl rfl (by omega)) ?_
 refine L_guard rfl rfl rfl rfl rfl ?_
 refine Lq (.bool (((0 + eStr.size : Nat) : Int) != 0)) rfl rfl rfl (by kernel_rfl) ?_
 refine Lq (.bool (((0 + eStr.size : Nat) : Int) != 0)) rfl rfl rfl rfl ?_
 refine L_nil ?_
 have c33 : (((0 + eStr.size : Nat) : Int) != 0) = false := (bneF (by have h_ : eStr.size = 0 := rfl; omega))
 have q34 : ((0 + eStr.size : Nat) : Int) = 0 := by simpa using c33
 refine W_cond_false (by show Value.bool _ = _; exact congrArg Value.bool c33) ?_
 refine W_skip ?_
 refine W_region_lit ?_
 refine Lq (int 1) rfl rfl rfl (by kernel_rfl) ?_
 refine Lq (int 1) rfl rfl rfl rfl ?_
 refine L_nil ?_
 show W _ _ _ _ _ _ _
 refine W_seq ?_
 refine W_region_lit ?_
 refine Lq (.bool true) rfl rfl rfl (by kernel_rfl) ?_
 refine L_nil ?_
 refine W_seq ?_
 refine W_cond_true (by show Value.bool _ = _; exact congrArg Value.bool rfl) ?_
 refine W_skip ?_
 refine W_seq ?_
 refine W_block ?_
 refine W_seq ?_
 refine W_region_lit ?_
 refine Lq (ptr b6 1) rfl rfl rfl (x_indexAddr' (k := 1) (len := 2) rfl sl_66 ti_24 rfl rfl (by decide)) ?_
 refine Lq (ptr b3 0) rfl rfl rfl (x_load rfl rfl (run_loadVar_one ti_24 (hst32.b 0) rfl)) ?_
 refine Lq (ptr b3 0) rfl rfl rfl rfl ?_
 refine L_nil ?_
 refine W_seq ?_
 refine W_region_lit ?_
 refine Lq (ptr b3 0) rfl rfl rfl rfl ?_
 refine Lq (int k) rfl rfl rfl rfl ?_
 refine L_callG hst32 (v := (.tuple #[(int 0), (int 1)])) rfl rfl rfl (x_call (vs := #[(ptr b3 0), (int k), (.string ⟨#[120]⟩)]) rfl rfl (by kernel_rfl) ent_28) (Add_zero k ⟨#[120]⟩ (hst32.g 1) (Le.refl _)) (fun w35 hst36 => ?_)
 refine Lq (.tuple #[(int 0), (int 1)]) rfl rfl rfl rfl ?_
 refine Lq (int 0) rfl rfl rfl (by kernel_rfl) ?_
 refine Lq (int 1) rfl rfl rfl (by kernel_rfl) ?_
 refine Lq (int 0) rfl rfl rfl rfl ?_
 refine Lq (int 1) rfl rfl rfl rfl ?_
 refine L_nil ?_
 refine W_seq ?_
 refine W_region_lit ?_
 refine Lq (ptr b3 0) rfl rfl rfl rfl ?_
 refine Lq (int k) rfl rfl rfl rfl ?_
 refine L_callG hst36 (v := (.tuple #[(int 0), (int 1)])) rfl rfl rfl (x_call (vs := #[(ptr b3 0), (int k)]) rfl rfl (by kernel_rfl) ent_38) (Split_zero k (hst36.g 1) (Le.refl _)) (fun w37 hst38 => ?_)
 refine Lq (.tuple #[(int 0), (int 1)]) rfl rfl rfl rfl ?_
 refine Lq (int 0) rfl rfl rfl (by kernel_rfl) ?_
 refine Lq (int 1) rfl rfl rfl (by kernel_rfl) ?_
 refine Lq (int 0) rfl rfl rfl rfl ?_
 refine Lq (int 1) rfl rfl rfl rfl ?_
 refine L_nil ?_
 refine W_seq ?_
 refine W_region_lit ?_
 refine Lq (ptr b3 0) rfl rfl rfl rfl ?_
 refine Lq (int k) rfl rfl rfl rfl ?_
 refine L_callG hst38 (v := (.tuple #[(int 0), (.bool false)])) rfl rfl rfl (x_call (vs := #[(ptr b3 0), (int k), (.string ⟨#[120]⟩)]) rfl rfl (by kernel_rfl) ent_30) (Slot_zero k ⟨#[120]⟩ (hst38.g 1) (Le.refl _)) (fun w39 hst40 => ?_)
 refine Lq (.tuple #[(int 0), (.bool false)]) rfl rfl rfl rfl ?_
 refine Lq (int 0) rfl rfl rfl (by kernel_rfl) ?_
 refine Lq (.bool false) rfl rfl rfl (by kernel_rfl) ?_
 refine Lq (int 0) rfl rfl rfl rfl ?_
 refine Lq (.bool false) rfl rfl rfl rfl ?_
 refine L_nil ?_
 refine W_seq ?_
 refine W_region_lit ?_
 refine Lq (ptr b3 0) rfl rfl rfl rfl ?_
 refine L_callG hst40 (v := (.tuple #[(int 0), (.bool false)])) rfl rfl rfl (x_call (vs := #[(ptr b3 0), (int 0), (.slice none 0 0)]) rfl rfl (by kernel_rfl) ent_25) (Find_zero 0 (hst40.g 1) (Le.refl _)) (fun w41 hst42 => ?_)
 refine Lq (.tuple #[(int 0), (.bool false)]) rfl rfl rfl rfl ?_
 refine Lq (int 0) rfl rfl rfl (by kernel_rfl) ?_
 refine Lq (.bool false) rfl rfl rfl (by kernel_rfl) ?_
 refine Lq (int 0) rfl rfl rfl rfl ?_
 refine Lq (.bool false) rfl rfl rfl rfl ?_
 refine L_nil ?_
 refine W_seq ?_
 refine W_region_lit ?_
 refine Lq (ptr b3 0) rfl rfl rfl rfl ?_
 refine L_callG hst42 (v := (.tuple #[(int 0), (int 1)])) rfl rfl rfl (x_call (vs := #[(ptr b3 0), (int 0), (.slice none 0 0)]) rfl rfl (by kernel_rfl) ent_29) (Make_zero  (hst42.g 1) (Le.refl _)) (fun w43 hst44 => ?_)
 refine Lq (.tuple #[(int 0), (int 1)]) rfl rfl rfl rfl ?_
 refine Lq (int 0) rfl rfl rfl (by kernel_rfl) ?_
 refine Lq (int 1) rfl rfl rfl (by kernel_rfl) ?_
 refine Lq (int 0) rfl rfl rfl rfl ?_
 refine Lq (int 1) rfl rfl rfl rfl ?_
 refine L_nil ?_
 refine W_seq ?_
 refine W_region_lit ?_
 refine Lq (int 1) rfl rfl rfl rfl ?_
 refine Lq (.bool false) rfl rfl rfl (by kernel_rfl) ?_
 refine Lq (.bool false) rfl rfl rfl rfl ?_
 refine L_guard rfl rfl rfl rfl rfl ?_
 refine Lq (int 1) rfl rfl rfl rfl ?_
 refine L_guard rfl rfl rfl rfl rfl ?_
 refine Lq (.bool false) rfl rfl rfl (by kernel_rfl) ?_
 refine Lq (.bool false) rfl rfl rfl rfl ?_
 refine Lq (.bool false) rfl rfl rfl rfl ?_
 refine L_guard rfl rfl rfl rfl rfl ?_
 refine Lq (int 1) rfl rfl rfl rfl ?_
 refine L_guard rfl rfl rfl rfl rfl ?_
 refine Lq (.bool false) rfl rfl rfl (by kernel_rfl) ?_
 refine Lq (.bool false) rfl rfl rfl rfl ?_
 refine Lq (.bool false) rfl rfl rfl rfl ?_
 refine L_guard rfl rfl rfl rfl rfl ?_
 refine Lq (ptr b3 0) rfl rfl rfl rfl ?_
 refine L_guard rfl rfl rfl rfl rfl ?_
 refine Lq (int k) rfl rfl rfl rfl ?_
 refine L_guard rfl rfl rfl rfl rfl ?_
 refine Lq (int k) rfl rfl rfl rfl ?_
 refine L_guard rfl rfl rfl rfl rfl ?_
 refine L_callG hst44 (v := (int 1)) rfl rfl rfl (x_call (vs := #[(ptr b3 0), (int k), (int k)]) rfl rfl (by kernel_rfl) ent_27) (Merge_zero k k (hst44.g 1) (Le.refl _)) (fun w45 hst46 => ?_)
 refine L_guard rfl rfl rfl rfl rfl ?_
 refine Lq (.bool false) rfl rfl rfl (by kernel_rfl) ?_
 refine Lq (.bool false) rfl rfl rfl rfl ?_
 refine Lq (.bool false) rfl rfl rfl rfl ?_
 refine L_guard rfl rfl rfl rfl rfl ?_
 refine Lq (.bool false) rfl rfl rfl rfl ?_
 refine Lq (.bool false) rfl rfl rfl rfl ?_
 refine Lq (.bool false) rfl rfl rfl rfl ?_
 refine L_guard rfl rfl rfl rfl rfl ?_
 refine Lq (.bool false) rfl rfl rfl rfl ?_
 refine Lq (.bool false) rfl rfl rfl rfl ?_
 refine Lq (.bool false) rfl rfl rfl rfl ?_
 refine L_guard rfl rfl rfl rfl rfl ?_
 refine Lq (ptr b3 0) rfl rfl rfl rfl ?_
 refine L_guard rfl rfl rfl rfl rfl ?_
 refine L_callG hst46 (v := (int (-1))) rfl rfl rfl (x_call (vs := #[(ptr b3 0), (int 0)]) rfl rfl (by kernel_rfl) ent_26) (Root_zero 0 (hst46.g 1) (Le.refl _)) (fun w47 hst48 => ?_)
 refine L_guard rfl rfl rfl rfl rfl ?_
 refine Lq (.bool false) rfl rfl rfl (by kernel_rfl) ?_
 refine Lq (.bool false) rfl rfl rfl rfl ?_
 refine Lq (.bool false) rfl rfl rfl rfl ?_
 refine L_guard rfl rfl rfl rfl rfl ?_
 refine Lq (ptr b3 0) rfl rfl rfl rfl ?_
 refine L_guard rfl rfl rfl rfl rfl ?_
 refine Lq (int k) rfl rfl rfl rfl ?_
 refine L_guard rfl rfl rfl rfl rfl ?_
 refine L_callG hst48 (v := (int (-1))) rfl rfl rfl (x_call (vs := #[(ptr b3 0), (int k)]) rfl rfl (by kernel_rfl) ent_22) (Class_zero k (hst48.g 1) (Le.refl _)) (fun w49 hst50 => ?_)
 refine L_guard rfl rfl rfl rfl rfl ?_
 refine Lq (.bool false) rfl rfl rfl (by kernel_rfl) ?_
 refine Lq (.bool false) rfl rfl rfl rfl ?_
 refine Lq (.bool false) rfl rfl rfl rfl ?_
 refine L_guard rfl rfl rfl rfl rfl ?_
 refine Lq (ptr b3 0) rfl rfl rfl rfl ?_
 refine L_guard rfl rfl rfl rfl rfl ?_
 refine Lq (int k) rfl rfl rfl rfl ?_
 refine L_guard rfl rfl rfl rfl rfl ?_
 refine L_callG hst50 (v := (int (-1))) rfl rfl rfl (x_call (vs := #[(ptr b3 0), (int k)]) rfl rfl (by kernel_rfl) ent_21) (Canon_zero k (hst50.g 1) (Le.refl _)) (fun w51 hst52 => ?_)
 refine L_guard rfl rfl rfl rfl rfl ?_
 refine Lq (.bool false) rfl rfl rfl (by kernel_rfl) ?_
 refine Lq (.bool false) rfl rfl rfl rfl ?_
 refine Lq (.bool false) rfl rfl rfl rfl ?_
 refine L_guard rfl rfl rfl rfl rfl ?_
 refine Lq (ptr b3 0) rfl rfl rfl rfl ?_
 refine L_guard rfl rfl rfl rfl rfl ?_
 refine Lq (int k) rfl rfl rfl rfl ?_
 refine L_guard rfl rfl rfl rfl rfl ?_
 refine L_callG hst52 (v := (.slice none 0 0)) rfl rfl rfl (x_call (vs := #[(ptr b3 0), (int k)]) rfl rfl (by kernel_rfl) ent_24) (Names_zero k (hst52.g 1) (Le.refl _)) (fun w53 hst54 => ?_)
 refine L_guard rfl rfl rfl rfl rfl ?_
 refine Lq (int 0) rfl rfl rfl (x_len_slice rfl sl_42 rfl) ?_
 refine L_guard rfl rfl rfl rfl rfl ?_
 refine Lq (ptr b3 0) rfl rfl rfl rfl ?_
 refine L_guard rfl rfl rfl rfl rfl ?_
 refine L_callG hst54 (v := (int 0)) rfl rfl rfl (x_call (vs := #[(ptr b3 0)]) rfl rfl (by kernel_rfl) ent_19) (Count_zero  (hst54.g 1) (Le.refl _)) (fun w55 hst56 => ?_)
 refine L_guard rfl rfl rfl rfl rfl ?_
 refine Lq (int 0) rfl rfl rfl (by kernel_rfl) ?_
 refine L_guard rfl rfl rfl rfl rfl ?_
 refine Lq (ptr b3 0) rfl rfl rfl rfl ?_
 refine L_guard rfl rfl rfl rfl rfl ?_
 refine L_callG hst56 (v := (.string eStr)) rfl rfl rfl (x_call (vs := #[(ptr b3 0)]) rfl rfl (by kernel_rfl) ent_14) (Text_zero  (hst56.g 1) (Le.refl _)) (fun w57 hst58 => ?_)
 refine L_guard rfl rfl rfl rfl rfl ?_
 refine Lq (int (eStr.size : Int)) rfl rfl rfl (x_len_string rfl (by kernel_rfl) rfl) ?_
 refine L_guard rfl rfl rfl rfl rfl ?_
 refine Lq (int ((0 + eStr.size : Nat) : Int)) rfl rfl rfl (x_add_nat rfl rfl rfl (by omega)) ?_
 refine L_guard rfl rfl rfl rfl rfl ?_
 refine Lq (.bool (((0 + eStr.size : Nat) : Int) != 0)) rfl rfl rfl (by kernel_rfl) ?_
 refine Lq (.bool (((0 + eStr.size : Nat) : Int) != 0)) rfl rfl rfl rfl ?_
 refine L_nil ?_
 refine W_cond_false (by show Value.bool _ = _; exact congrArg Value.bool c33) ?_
 refine W_skip ?_
 refine W_region_lit ?_
 refine Lq (int 2) rfl rfl rfl (by kernel_rfl) ?_
 refine Lq (int 2) rfl rfl rfl rfl ?_
 refine L_nil ?_
 show W _ _ _ _ _ _ _
 refine W_seq ?_
 refine W_region_lit ?_
 refine Lq (.bool false) rfl rfl rfl (by kernel_rfl) ?_
 refine L_nil ?_
 refine W_seq ?_
 refine W_cond_false (by show Value.bool _ = _; exact congrArg Value.bool rfl) ?_
 refine W_exit ?_
 refine W_seq ?_
 refine W_region_lit ?_
 refine Lq (int n) rfl rfl rfl rfl ?_
 refine Lq v rfl rfl rfl rfl ?_
 obtain ⟨a59, cap60, e61, hc62⟩ := hv.shape
 subst e61
 have hst63 := hst58
 refine L_callS [] [one b6 (.cells #[(.pointer none), (ptr b3 0)] 24 (0, 0)), one b3 (.cells #[(.slice none 0 0), (.slice none 0 0), (.map none)] 65 (0, 0))] hst63 rfl rfl rfl (x_call (vs := #[(int n), (.slice a59 acts.length cap60)]) rfl rfl (by kernel_rfl) ent_20) (played_spec (v := (.slice a59 acts.length cap60)) n acts (hst63.sats.take 0 rfl) (RdS.mono hv (Le.refl _))) (fun v64 w65 R66 L67 hp68 hle69 hst70 => ?_)
 obtain ⟨p71, c72, rfl, rfl, htr73⟩ := hp68
 have hwf := played_wf n acts
 have hcore := played_core n acts
 have hbd := played_bd n acts
 have hpos := played_pos n acts
 obtain ⟨s, hs_⟩ : ∃ s_, s_ = (played n acts) := ⟨_, rfl⟩
 rw [← hs_] at htr73 hwf hcore hbd hpos
 have hnl := hbd.len
 refine Lq (ptr p71 0) rfl rfl rfl rfl ?_
 refine L_nil ?_
 refine W_seq ?_
 refine W_seq ?_
 refine W_region_lit ?_
 refine Lq (ptr p71 0) rfl rfl rfl rfl ?_
 refine Lq (.bool false) rfl rfl rfl (by kernel_rfl) ?_
 refine L_nil ?_
 refine W_cond_false (by show Value.bool _ = _; exact congrArg Value.bool rfl) ?_
 refine W_skip ?_
 refine W_seq ?_
 refine W_region_lit ?_
 refine Lq (ptr p71 0) rfl rfl rfl rfl ?_
 refine L_callG hst70 (v := (.string (txt s))) rfl rfl rfl (x_call (vs := #[(ptr p71 0)]) rfl rfl (by kernel_rfl) ent_14) (Text_spec (Tree.viewM htr73 (hst70.g 0) hst70.rle' (List.ne_nil_of_length_pos hpos) (hbd.nice (by decide) hcore.roots3))) (fun w74 hst75 => ?_)
 refine Lq (.string (txt s)) rfl rfl rfl rfl ?_
 refine L_nil ?_
 refine W_seq ?_
 refine W_seq ?_
 refine W_region_lit ?_
 refine Lq (int 0) rfl rfl rfl rfl ?_
 refine L_nil ?_
 refine W_block ?_
 refine W_loop (I := fun σ w_ m_ => ∃ (σ0 : Fr) (R_ : Hp) (k_ : Nat) (cT : Hp), σ = upd (upd (upd (upd (upd (upd (upd (upd (upd (upd (upd (upd (upd (upd (upd (upd (upd (upd (upd (upd (upd (upd (upd (upd (upd (upd (upd (upd (upd (upd (upd (upd (upd (upd (upd (upd (upd (upd (upd (upd (upd (upd (upd (upd (upd (upd (upd (upd (upd (upd (upd (upd (upd (upd (upd (upd (upd (upd (upd (upd (upd (upd (upd (upd (upd (upd (upd (upd (upd (upd (upd (upd (upd (upd (upd (upd (upd (upd (upd (upd (upd (upd (upd (upd (upd (upd (upd (upd (upd (upd (upd (upd (upd (upd (upd (upd (upd (upd (upd (upd (upd (upd (upd (upd (upd (upd (upd (upd (upd (upd (upd (upd (upd (upd (upd σ0 0 (int n)) 1 (.slice a59 acts.length cap60)) 2 (int k)) 6 (.bool false)) 7 (.bool true)) 8 (.pointer none)) 10 (ptr b3 0)) 12 (int 1)) 14 (int 1)) 16 (.bool false)) 18 (.bool false)) 20 (int 1)) 21 (ptr p71 0)) 22 (.string (txt s))) 23 (int (k_ : Int))) 26 (.bool true)) 27 (.pointer none)) 28 (.agg #[(.slice none 0 0), (.slice none 0 0), (.map none)])) 29 (ptr b3 0)) 30 (.slice (some ⟨b6, 0, none⟩) 2 2)) 31 (int 2)) 32 (int 2)) 33 (.bool false)) 34 (ptr b6 1)) 35 (ptr b3 0)) 36 (.tuple #[(int 0), (int 1)])) 37 (ptr b3 0)) 38 (int k)) 39 (.tuple #[(int 0), (int 1)])) 40 (int 0)) 41 (int 1)) 42 (.tuple #[(int 0), (int 1)])) 43 (ptr b3 0)) 44 (int k)) 45 (.tuple #[(int 0), (int 1)])) 46 (int 0)) 47 (int 1)) 48 (.tuple #[(int 0), (.bool false)])) 49 (ptr b3 0)) 50 (int k)) 51 (.tuple #[(int 0), (.bool false)])) 52 (int 0)) 53 (.bool false)) 54 (.tuple #[(int 0), (.bool false)])) 55 (ptr b3 0)) 56 (.tuple #[(int 0), (.bool false)])) 57 (int 0)) 58 (.bool false)) 59 (.tuple #[(int 0), (int 1)])) 60 (ptr b3 0)) 61 (.tuple #[(int 0), (int 1)])) 62 (int 0)) 63 (int 1)) 64 (int 1)) 65 (.bool false)) 66 (.bool false)) 67 (int 1)) 68 (.bool false)) 69 (.bool false)) 70 (.bool false)) 71 (int 1)) 72 (.bool false)) 73 (.bool false)) 74 (.bool false)) 75 (ptr b3 0)) 76 (int k)) 77 (int k)) 78 (int 1)) 79 (.bool false)) 80 (.bool false)) 81 (.bool false)) 82 (.bool false)) 83 (.bool false)) 84 (.bool false)) 85 (.bool false)) 86 (.bool false)) 87 (.bool false)) 88 (ptr b3 0)) 89 (int (-1))) 90 (.bool false)) 91 (.bool false)) 92 (.bool false)) 93 (ptr b3 0)) 94 (int k)) 95 (int (-1))) 96 (.bool false)) 97 (.bool false)) 98 (.bool false)) 99 (ptr b3 0)) 100 (int k)) 101 (int (-1))) 102 (.bool false)) 103 (.bool false)) 104 (.bool false)) 105 (ptr b3 0)) 106 (int k)) 107 (.slice none 0 0)) 108 (int 0)) 109 (ptr b3 0)) 110 (int 0)) 111 (int 0)) 112 (ptr b3 0)) 113 (.string eStr)) 114 (int (eStr.size : Int))) 115 (int ((0 + eStr.size : Nat) : Int))) 116 (.bool (((0 + eStr.size : Nat) : Int) != 0))) 117 (.bool (((0 + eStr.size : Nat) : Int) != 0))) 118 (int 2)) 119 (int n)) 120 (.slice a59 acts.length cap60)) 121 (ptr p71 0)) 122 (ptr p71 0)) 123 (.bool false)) 124 (ptr p71 0)) 125 (.string (txt s)) ∧ mks (σ0 0) = [] ∧ Step w R [] w_ R_ [cT] ∧ Le R66 R_ ∧ Tree R_ p71 s cT ∧ k_ ≤ s.nodes.length ∧ m_ = s.nodes.length - k_) (m := s.nodes.length - 0) ?_ ?_
 ·
  exact ⟨_, _, 0, c72, (upd_of (upd_of (upd_of (upd_of (upd_of (upd_of (upd_of (upd_of (upd_of (upd_of (upd_of (upd_of (upd_of (upd_of (upd_of (upd_of (upd_of (upd_of (upd_of (upd_of (upd_of (upd_of (upd_of (upd_of (upd_of (upd_of (upd_of (upd_of (upd_of (upd_of (upd_of (upd_of (upd_of (upd_of (upd_of (upd_of (upd_of (upd_of (upd_of (upd_of (upd_of (upd_of (upd_of (upd_of (upd_of (upd_of (upd_of (upd_of (upd_of (upd_of (upd_of (upd_of (upd_of (upd_of (upd_of (upd_of (upd_of (upd_of (upd_of (upd_of (upd_of (upd_of (upd_of (upd_of (upd_of (upd_of (upd_of (upd_of (upd_of (upd_of (upd_of (upd_of (upd_of (upd_of (upd_of (upd_of (upd_of (upd_of (upd_of (upd_of (upd_of (upd_of (upd_of (upd_of (upd_of (upd_of (upd_of (upd_of (upd_of (upd_of (upd_of (upd_of (upd_of (upd_of (upd_of (upd_of (upd_of (upd_of (upd_of (upd_of (upd_of (upd_of (upd_of (upd_of (upd_of (upd_of (upd_of (upd_of (upd_of (upd_of (upd_of (upd_of (upd_of (upd_of (upd_of rfl rfl) rfl) rfl) rfl) rfl) rfl) rfl) rfl) rfl) rfl) rfl) rfl) rfl) rfl) rfl) rfl) rfl) rfl) rfl) rfl) rfl) rfl) rfl) rfl) rfl) rfl) rfl) rfl) rfl) rfl) rfl) rfl) rfl) rfl) rfl) rfl) rfl) rfl) rfl) rfl) rfl) rfl) rfl) rfl) rfl) rfl) rfl) rfl) rfl) rfl) rfl) rfl) rfl) rfl) rfl) rfl) rfl) rfl) rfl) rfl) rfl) rfl) rfl) rfl) rfl) rfl) rfl) rfl) rfl) rfl) rfl) rfl) rfl) rfl) rfl) rfl) rfl) rfl) rfl) rfl) rfl) rfl) rfl) rfl) rfl) rfl) rfl) rfl) rfl) rfl) rfl) rfl) rfl) rfl) rfl) rfl) rfl) rfl) rfl) rfl) rfl) rfl) rfl) rfl) rfl) rfl) rfl) rfl) rfl) rfl) rfl) rfl) rfl) rfl) rfl), rfl, (hst75.keepN 1 rfl), Le.refl _, htr73, (by omega), rfl⟩
 ·
  rintro m86 σ_ w78 ⟨s82, R83, k_84, cT85, rfl, hmk76, hst77, hle79, hi80, hf81, rfl⟩
  refine W_seq ?_
  refine W_seq ?_
  refine W_region_lit ?_
  refine Lq (int (k_84 : Int)) rfl rfl rfl rfl ?_
  refine Lq (ptr p71 0) rfl rfl rfl rfl ?_
  refine L_callG hst77 (v := (int (s.nodes.length : Int))) rfl rfl rfl (x_call (vs := #[(ptr p71 0)]) rfl rfl (by kernel_rfl) ent_19) (Count_spec (Tree.view hi80 (hst77.g 0) hst77.rle') (Le.refl _)) (fun w87 hst88 => ?_)
  refine Lq (.bool (decide ((k_84 : Int) < (s.nodes.length : Int)))) rfl rfl rfl (by kernel_rfl) ?_
  refine L_nil ?_
  rcases Bool.eq_false_or_eq_true (decide ((k_84 : Int) < (s.nodes.length : Int))) with c89 | c89
  ·
   have q90 := of_decide_eq_true c89
   refine W_cond_true (by show Value.bool _ = _; exact congrArg Value.bool c89) ?_
   refine W_skip ?_
   refine W_seq ?_
   refine W_block ?_
   refine W_seq ?_
   refine W_region_lit ?_
   refine Lq (ptr p71 0) rfl rfl rfl rfl ?_
   refine Lq (int (k_84 : Int)) rfl rfl rfl rfl ?_
   have hst91 := hst88
   refine L_callS [] [cT85] hst91 rfl rfl rfl (x_call (vs := #[(ptr p71 0), (int (k_84 : Int))]) rfl rfl (by kernel_rfl) ent_24) (Names_spec (k_84 : Int) (hst91.sats.take 0 rfl) (Tree.view hi80 (hst88.g 0) hst88.rle')) (fun v92 w93 R94 L95 hp96 hle97 hst98 => ?_)
   have hm99 := Tree.lift hi80 hle97
   obtain ⟨c100, rfl, ho101⟩ := hp96
   have hnb102 := namesL_bd hbd.names (k_84 : Int)
   refine Lq v92 rfl rfl rfl rfl ?_
   refine L_nil ?_
   refine W_seq ?_
   refine W_region_lit ?_
   refine Lq v92 rfl rfl rfl rfl ?_
   obtain ⟨a103, cap104, e105, hc106⟩ := ho101.value
   subst e105
   refine Lq (int (((namesL s.nodes (k_84 : Int)).length : Nat) : Int)) rfl rfl rfl (x_len_slice rfl sl_42 rfl) ?_
   refine Lq (int 0) rfl rfl rfl rfl ?_
   refine L_nil ?_
   refine W_block ?_
   refine W_loop (I := fun σ w_ m_ => ∃ (σ0 : Fr) (R_ : Hp) (j_ : Nat) (xs_ : List Str) (cT : Hp) (cN : Hp), σ = upd (upd (upd (upd (upd (upd (upd (upd (upd (upd (upd (upd (upd (upd (upd (upd (upd (upd (upd (upd (upd (upd (upd (upd (upd (upd (upd (upd (upd (upd (upd (upd (upd (upd (upd (upd (upd (upd (upd (upd (upd (upd (upd (upd (upd (upd (upd (upd (upd (upd (upd (upd (upd (upd (upd (upd (upd (upd (upd (upd (upd (upd (upd (upd (upd (upd (upd (upd (upd (upd (upd (upd (upd (upd (upd (upd (upd (upd (upd (upd (upd (upd (upd (upd (upd (upd (upd (upd (upd (upd (upd (upd (upd (upd (upd (upd (upd (upd (upd (upd (upd (upd (upd (upd (upd (upd (upd (upd (upd (upd (upd (upd (upd (upd (upd (upd (upd (upd (upd (upd (upd (upd (upd (upd (upd (upd σ0 0 (int n)) 1 (.slice a59 acts.length cap60)) 2 (int k)) 6 (.bool false)) 7 (.bool true)) 8 (.pointer none)) 10 (ptr b3 0)) 12 (int 1)) 14 (int 1)) 16 (.bool false)) 18 (.bool false)) 20 (int 1)) 21 (ptr p71 0)) 22 (.string (txt s))) 23 (int (k_84 : Int))) 24 (.slice a103 ((namesL s.nodes (k_84 : Int)).length) cap104)) 26 (.bool true)) 27 (.pointer none)) 28 (.agg #[(.slice none 0 0), (.slice none 0 0), (.map none)])) 29 (ptr b3 0)) 30 (.slice (some ⟨b6, 0, none⟩) 2 2)) 31 (int 2)) 32 (int 2)) 33 (.bool false)) 34 (ptr b6 1)) 35 (ptr b3 0)) 36 (.tuple #[(int 0), (int 1)])) 37 (ptr b3 0)) 38 (int k)) 39 (.tuple #[(int 0), (int 1)])) 40 (int 0)) 41 (int 1)) 42 (.tuple #[(int 0), (int 1)])) 43 (ptr b3 0)) 44 (int k)) 45 (.tuple #[(int 0), (int 1)])) 46 (int 0)) 47 (int 1)) 48 (.tuple #[(int 0), (.bool false)])) 49 (ptr b3 0)) 50 (int k)) 51 (.tuple #[(int 0), (.bool false)])) 52 (int 0)) 53 (.bool false)) 54 (.tuple #[(int 0), (.bool false)])) 55 (ptr b3 0)) 56 (.tuple #[(int 0), (.bool false)])) 57 (int 0)) 58 (.bool false)) 59 (.tuple #[(int 0), (int 1)])) 60 (ptr b3 0)) 61 (.tuple #[(int 0), (int 1)])) 62 (int 0)) 63 (int 1)) 64 (int 1)) 65 (.bool false)) 66 (.bool false)) 67 (int 1)) 68 (.bool false)) 69 (.bool false)) 70 (.bool false)) 71 (int 1)) 72 (.bool false)) 73 (.bool false)) 74 (.bool false)) 75 (ptr b3 0)) 76 (int k)) 77 (int k)) 78 (int 1)) 79 (.bool false)) 80 (.bool false)) 81 (.bool false)) 82 (.bool false)) 83 (.bool false)) 84 (.bool false)) 85 (.bool false)) 86 (.bool false)) 87 (.bool false)) 88 (ptr b3 0)) 89 (int (-1))) 90 (.bool false)) 91 (.bool false)) 92 (.bool false)) 93 (ptr b3 0)) 94 (int k)) 95 (int (-1))) 96 (.bool false)) 97 (.bool false)) 98 (.bool false)) 99 (ptr b3 0)) 100 (int k)) 101 (int (-1))) 102 (.bool false)) 103 (.bool false)) 104 (.bool false)) 105 (ptr b3 0)) 106 (int k)) 107 (.slice none 0 0)) 108 (int 0)) 109 (ptr b3 0)) 110 (int 0)) 111 (int 0)) 112 (ptr b3 0)) 113 (.string eStr)) 114 (int (eStr.size : Int))) 115 (int ((0 + eStr.size : Nat) : Int))) 116 (.bool (((0 + eStr.size : Nat) : Int) != 0))) 117 (.bool (((0 + eStr.size : Nat) : Int) != 0))) 118 (int 2)) 119 (int n)) 120 (.slice a59 acts.length cap60)) 121 (ptr p71 0)) 122 (ptr p71 0)) 123 (.bool false)) 124 (ptr p71 0)) 125 (.string (txt s))) 126 (int (k_84 : Int))) 127 (ptr p71 0)) 128 (int (s.nodes.length : Int))) 129 (.bool (decide ((k_84 : Int) < (s.nodes.length : Int))))) 132 (ptr p71 0)) 133 (int (k_84 : Int))) 134 (.slice a103 ((namesL s.nodes (k_84 : Int)).length) cap104)) 135 (.slice a103 ((namesL s.nodes (k_84 : Int)).length) cap104)) 136 (int (((namesL s.nodes (k_84 : Int)).length : Nat) : Int))) 137 (int (j_ : Int)) ∧ mks (σ0 0) = [] ∧ Step w R [] w_ R_ [cT, cN] ∧ Le R94 R_ ∧ Tree R_ p71 s cT ∧ OwnL Ty.str 9 R_ (.slice a103 ((namesL s.nodes (k_84 : Int)).length) cap104) xs_ cN ∧ j_ ≤ (namesL s.nodes (k_84 : Int)).length ∧ (xs_).length = (namesL s.nodes (k_84 : Int)).length ∧ m_ = (namesL s.nodes (k_84 : Int)).length - j_) (m := (namesL s.nodes (k_84 : Int)).length - 0) ?_ ?_
   ·
    exact ⟨_, _, 0, (namesL s.nodes (k_84 : Int)), cT85, c100, (upd_of (upd_of (upd_of (upd_of (upd_of (upd_of (upd_of (upd_of (upd_of (upd_of (upd_of (upd_of (upd_of (upd_of (upd_of (upd_of (upd_of (upd_of (upd_of (upd_of (upd_of (upd_of (upd_of (upd_of (upd_of (upd_of (upd_of (upd_of (upd_of (upd_of (upd_of (upd_of (upd_of (upd_of (upd_of (upd_of (upd_of (upd_of (upd_of (upd_of (upd_of (upd_of (upd_of (upd_of (upd_of (upd_of (upd_of (upd_of (upd_of (upd_of (upd_of (upd_of (upd_of (upd_of (upd_of (upd_of (upd_of (upd_of (upd_of (upd_of (upd_of (upd_of (upd_of (upd_of (upd_of (upd_of (upd_of (upd_of (upd_of (upd_of (upd_of (upd_of (upd_of (upd_of (upd_of (upd_of (upd_of (upd_of (upd_of (upd_of (upd_of (upd_of (upd_of (upd_of (upd_of (upd_of (upd_of (upd_of (upd_of (upd_of (upd_of (upd_of (upd_of (upd_of (upd_of (upd_of (upd_of (upd_of (upd_of (upd_of (upd_of (upd_of (upd_of (upd_of (upd_of (upd_of (upd_of (upd_of (upd_of (upd_of (upd_of (upd_of (upd_of (upd_of (upd_of (upd_of (upd_of (upd_of (upd_of (upd_of (upd_of (upd_of (upd_of (upd_of (upd_of (upd_of rfl rfl) rfl) rfl) rfl) rfl) rfl) rfl) rfl) rfl) rfl) rfl) rfl) rfl) rfl) rfl) rfl) rfl) rfl) rfl) rfl) rfl) rfl) rfl) rfl) rfl) rfl) rfl) rfl) rfl) rfl) rfl) rfl) rfl) rfl) rfl) rfl) rfl) rfl) rfl) rfl) rfl) rfl) rfl) rfl) rfl) rfl) rfl) rfl) rfl) rfl) rfl) rfl) rfl) rfl) rfl) rfl) rfl) rfl) rfl) rfl) rfl) rfl) rfl) rfl) rfl) rfl) rfl) rfl) rfl) rfl) rfl) rfl) rfl) rfl) rfl) rfl) rfl) rfl) rfl) rfl) rfl) rfl) rfl) rfl) rfl) rfl) rfl) rfl) rfl) rfl) rfl) rfl) rfl) rfl) rfl) rfl) rfl) rfl) rfl) rfl) rfl) rfl) rfl) rfl) rfl) rfl) rfl) rfl) rfl) rfl) rfl) rfl) rfl) rfl) rfl) rfl) rfl) rfl) rfl) rfl) rfl) rfl) rfl) rfl) rfl) rfl), hmk76, (hst98.front 1 rfl rfl), Le.refl _, hm99, ho101, (by omega), rfl, rfl⟩
   ·
    rintro m121 σ_ w109 ⟨s115, R116, j_117, xs_118, cT119, cN120, rfl, hmk107, hst108, hle110, hi111, hi112, hf113, hf114, rfl⟩
    refine W_seq ?_
    refine W_region_lit ?_
    refine Lq (.bool (decide ((j_117 : Int) < (((namesL s.nodes (k_84 : Int)).length : Nat) : Int)))) rfl rfl rfl (by kernel_rfl) ?_
    refine L_nil ?_
    refine W_seq ?_
    rcases Bool.eq_false_or_eq_true (decide ((j_117 : Int) < (((namesL s.nodes (k_84 : Int)).length : Nat) : Int))) with c122 | c122
    ·
     have q123 := of_decide_eq_true c122
     refine W_cond_true (by show Value.bool _ = _; exact congrArg Value.bool c122) ?_
     refine W_skip ?_
     refine W_seq ?_
     refine W_block ?_
     refine W_seq ?_
     refine W_region_lit ?_
     refine Lq (int (j_117 : Int)) rfl rfl rfl rfl ?_
     refine Lq (int (j_117 : Int)) rfl rfl rfl rfl ?_
     refine L_nil ?_
     refine W_region_lit ?_
     refine Lq (.slice a103 ((namesL s.nodes (k_84 : Int)).length) cap104) rfl rfl rfl rfl ?_
     refine Lq (int (j_117 : Int)) rfl rfl rfl rfl ?_
     obtain ⟨b124, cap125, N126, e127, hc128, hrow129, hback130⟩ := OwnL.row hi112 (by omega)
     obtain ⟨rfl, hl131, rfl⟩ := Value.slice.inj e127
     try rw [← hl131] at hback130
     obtain ⟨cl132, cs133, hr134, hcb135, hsg136⟩ := Row.at hrow129 j_117 (by omega)
     have hx137 : cl132 = [.string (xs_118[j_117]'(by omega))] := hr134
     subst hx137
     refine Lq (ptr b124 (0 + j_117 * 1)) rfl rfl rfl (x_indexAddr' rfl sl_42 ti_9 rfl rfl (by omega)) ?_
     obtain ⟨c138, w139, hr140, hrow141, hst142⟩ := Row.store (P := Tryz.prog) (v := (.string ⟨#[99, 104, 97, 110, 103, 101, 100]⟩)) (y := (⟨#[99, 104, 97, 110, 103, 101, 100]⟩ : Str)) hrow129 (hst108.front 1 rfl rfl) ti_9 j_117 (by omega) rfl
     refine L_skip rfl rfl (x_store rfl rfl rfl hr140) ?_
     refine L_nil ?_
     refine W_region_lit ?_
     refine Lq (int ((j_117 + 1 : Nat) : Int)) rfl rfl rfl (x_add_nat rfl rfl rfl (by omega)) ?_
     refine Lq (int ((j_117 + 1 : Nat) : Int)) rfl rfl rfl rfl ?_
     refine L_nil ?_
     refine ⟨(namesL s.nodes (k_84 : Int)).length - (j_117 + 1), by first | omega | (simp only [List.length_append, List.length_cons, List.length_nil]; omega), ?_⟩
     exact ⟨_, _, (j_117 + 1), (xs_118.set j_117 (⟨#[99, 104, 97, 110, 103, 101, 100]⟩ : Str)), cT119, c138, (upd_of (upd_of (upd_of (upd_of (upd_of (upd_of (upd_of (upd_of (upd_of (upd_of (upd_of (upd_of (upd_of (upd_of (upd_of (upd_of (upd_of (upd_of (upd_of (upd_of (upd_of (upd_of (upd_of (upd_of (upd_of (upd_of (upd_of (upd_of (upd_of (upd_of (upd_of (upd_of (upd_of (upd_of (upd_of (upd_of (upd_of (upd_of (upd_of (upd_of (upd_of (upd_of (upd_of (upd_of (upd_of (upd_of (upd_of (upd_of (upd_of (upd_of (upd_of (upd_of (upd_of (upd_of (upd_of (upd_of (upd_of (upd_of (upd_of (upd_of (upd_of (upd_of (upd_of (upd_of (upd_of (upd_of (upd_of (upd_of (upd_of (upd_of (upd_of (upd_of (upd_of (upd_of (upd_of (upd_of (upd_of (upd_of (upd_of (upd_of (upd_of (upd_of (upd_of (upd_of (upd_of (upd_of (upd_of (upd_of (upd_of (upd_of (upd_of (upd_of (upd_of (upd_of (upd_of (upd_of (upd_of (upd_of (upd_of (upd_of (upd_of (upd_of (upd_of (upd_of (upd_of (upd_of (upd_of (upd_of (upd_of (upd_of (upd_of (upd_of (upd_of (upd_of (upd_of (upd_of (upd_of (upd_of (upd_of (upd_of (upd_of (upd_of (upd_of (upd_of (upd_of (upd_of rfl rfl) rfl) rfl) rfl) rfl) rfl) rfl) rfl) rfl) rfl) rfl) rfl) rfl) rfl) rfl) rfl) rfl) rfl) rfl) rfl) rfl) rfl) rfl) rfl) rfl) rfl) rfl) rfl) rfl) rfl) rfl) rfl) rfl) rfl) rfl) rfl) rfl) rfl) rfl) rfl) rfl) rfl) rfl) rfl) rfl) rfl) rfl) rfl) rfl) rfl) rfl) rfl) rfl) rfl) rfl) rfl) rfl) rfl) rfl) rfl) rfl) rfl) rfl) rfl) rfl) rfl) rfl) rfl) rfl) rfl) rfl) rfl) rfl) rfl) rfl) rfl) rfl) rfl) rfl) rfl) rfl) rfl) rfl) rfl) rfl) rfl) rfl) rfl) rfl) rfl) rfl) rfl) rfl) rfl) rfl) rfl) rfl) rfl) rfl) rfl) rfl) rfl) rfl) rfl) rfl) rfl) rfl) rfl) rfl) rfl) rfl) rfl) rfl) rfl) rfl) rfl) rfl) rfl) rfl) rfl) rfl) rfl) rfl) rfl) rfl) rfl), hmk107, (hst142.front 1 rfl rfl), hle110, hi111, (hback130 R116 (xs_118.set j_117 (⟨#[99, 104, 97, 110, 103, 101, 100]⟩ : Str)) c138 (by first | rfl | (simp only [List.length_set]; done) | (simp only [List.length_set]; omega) | omega) hrow141), (by omega), (by first | omega | (simp only [List.length_set]; omega)), rfl⟩
    ·
     have q143 := of_decide_eq_false c122
     refine W_cond_false (by show Value.bool _ = _; exact congrArg Value.bool c122) ?_
     refine W_exit ?_
     refine W_region_lit ?_
     refine Lq (int (k_84 : Int)) rfl rfl rfl rfl ?_
     refine Lq (int ((k_84 + 1 : Nat) : Int)) rfl rfl rfl (x_add_nat rfl rfl rfl (by omega)) ?_
     refine Lq (int ((k_84 + 1 : Nat) : Int)) rfl rfl rfl rfl ?_
     refine L_nil ?_
     refine ⟨s.nodes.length - (k_84 + 1), by first | omega | (simp only [List.length_append, List.length_cons, List.length_nil]; omega), ?_⟩
     exact ⟨_, _, (k_84 + 1), cT119, (upd_of (upd_of (upd_of (upd_of (upd_of (upd_of (upd_of (upd_of (upd_of (upd_of (upd_of (upd_of (upd_of (upd_of (upd_of (upd_of (upd_of (upd_of (upd_of (upd_of (upd_of (upd_of (upd_of (upd_of (upd_of (upd_of (upd_of (upd_of (upd_of (upd_of (upd_of (upd_of (upd_of (upd_of (upd_of (upd_of (upd_of (upd_of (upd_of (upd_of (upd_of (upd_of (upd_of (upd_of (upd_of (upd_of (upd_of (upd_of (upd_of (upd_of (upd_of (upd_of (upd_of (upd_of (upd_of (upd_of (upd_of (upd_of (upd_of (upd_of (upd_of (upd_of (upd_of (upd_of (upd_of (upd_of (upd_of (upd_of (upd_of (upd_of (upd_of (upd_of (upd_of (upd_of (upd_of (upd_of (upd_of (upd_of (upd_of (upd_of (upd_of (upd_of (upd_of (upd_of (upd_of (upd_of (upd_of (upd_of (upd_of (upd_of (upd_of (upd_of (upd_of (upd_of (upd_of (upd_of (upd_of (upd_of (upd_of (upd_of (upd_of (upd_of (upd_of (upd_of (upd_of (upd_of (upd_of (upd_of (upd_of (upd_of (upd_of (upd_of (upd_of (upd_of (upd_of rfl rfl) rfl) rfl) rfl) rfl) rfl) rfl) rfl) rfl) rfl) rfl) rfl) rfl) rfl) rfl) rfl) rfl) rfl) rfl) rfl) rfl) rfl) rfl) rfl) rfl) rfl) rfl) rfl) rfl) rfl) rfl) rfl) rfl) rfl) rfl) rfl) rfl) rfl) rfl) rfl) rfl) rfl) rfl) rfl) rfl) rfl) rfl) rfl) rfl) rfl) rfl) rfl) rfl) rfl) rfl) rfl) rfl) rfl) rfl) rfl) rfl) rfl) rfl) rfl) rfl) rfl) rfl) rfl) rfl) rfl) rfl) rfl) rfl) rfl) rfl) rfl) rfl) rfl) rfl) rfl) rfl) rfl) rfl) rfl) rfl) rfl) rfl) rfl) rfl) rfl) rfl) rfl) rfl) rfl) rfl) rfl) rfl) rfl) rfl) rfl) rfl) rfl) rfl) rfl) rfl) rfl) rfl) rfl) rfl) rfl) rfl) rfl) rfl) rfl) rfl), hmk107, (hst108.keepN 1 rfl), (Le.trans hle79 (Le.trans hle97 hle110)), hi111, (by omega), rfl⟩
  ·
   have q144 := of_decide_eq_false c89
   refine W_cond_false (by show Value.bool _ = _; exact congrArg Value.bool c89) ?_
   refine W_exit ?_
   refine W_seq ?_
   refine W_region_lit ?_
   refine Lq (.bool true) rfl rfl rfl rfl ?_
   refine Lq (.bool true) rfl rfl rfl rfl ?_
   refine L_guard rfl rfl rfl rfl rfl ?_
   refine Lq (ptr p71 0) rfl rfl rfl rfl ?_
   refine L_guard rfl rfl rfl rfl rfl ?_
   refine L_callG hst88 (v := (.string (txt s))) rfl rfl rfl (x_call (vs := #[(ptr p71 0)]) rfl rfl (by kernel_rfl) ent_14) (Text_spec (Tree.viewM hi80 (hst88.g 0) hst88.rle' (List.ne_nil_of_length_pos hpos) (hbd.nice (by decide) hcore.roots3))) (fun w145 hst146 => ?_)
   refine L_guard rfl rfl rfl rfl rfl ?_
   refine Lq (.string (txt s)) rfl rfl rfl rfl ?_
   refine L_guard rfl rfl rfl rfl rfl ?_
   refine Lq (.bool (decide ((txt s) = (txt s)))) rfl rfl rfl (x_eqlD rfl rfl rfl) ?_
   refine Lq (.bool (decide ((txt s) = (txt s)))) rfl rfl rfl rfl ?_
   refine Lq (.bool (decide ((txt s) = (txt s)))) rfl rfl rfl rfl ?_
   refine L_nil ?_
   refine W_ret ?_
   refine ⟨_, _, res_run (rs := [.tmp 6]) (vs := [(.bool (decide ((txt s) = (txt s))))]) Tryz.results9 (.cons (.tmp rfl) .nil) hmk76, ?_⟩
   exact ⟨_, _, _, rfl, (hst146).keepN 0 rfl, congrArg Value.bool (by first | exact bneF (by assumption) | exact bneF rfl | exact decide_eq_false (by assumption) | exact decide_eq_true (by assumption) | exact beqT (by assumption) | exact beqT rfl | assumption | exact decide_eq_true rfl), rfl⟩

end Go.Fx.YtjpdhfhiimbpgaaGreatDoor
