/-
  Chapter 14: the course of sanity.
-/
import Derived.Test.YtdkjoljcffkpkaaDoorPrT2
import Derived.Test.YtdkjoljcffkpkaaDoorFx23
set_option linter.unusedSimpArgs false
set_option linter.unusedVariables false
set_option linter.unusedSectionVars false
namespace Go.Fx.YtdkjoljcffkpkaaDoor
open Go Go.Fx Go.Proofs
set_option maxRecDepth 20000

theorem PS.newOk {a b c d : Int} (ha : 1 ≤ a ∧ a ≤ 1000) (hb : 1 ≤ b ∧ b ≤ 1000000) (hc : b + 1 ≤ c ∧ c ≤ 1000000) (hd : 1 ≤ d ∧ d ≤ 1000000) : PS.Ok ⟨a, b, c, d, [], [], 0⟩ :=
  ⟨ha, hb, hc, hd, AL.Ok.nil, fun k r h => by simp [AL.get] at h, Nat.le_refl _, fun d h => by cases h⟩
theorem PS.cold' {s : PS} : True := trivial

abbrev kA : Pl := (1, 2)
def z0 : PS := ⟨2, 1, 3, 2, [], [], 0⟩
def z1 : PS := (z0.back kA).1
def z2 : PS := (z1.back kA).1
def z3 : PS := (z2.back kA).1
def z4 : PS := (z3.back kA).1
def z5 : PS := (z4.back kA).1
def z6 : PS := (z5.back kA).1
def z7 : PS := (z6.left kA 5).1
def z8 : PS := (z7.left kA 5).1
def z9 : PS := z8.failed kA 30
def z10 : PS := (z9.back kA).1
def z11 : PS := (z10.back kA).1
def z12 : PS := z11.failed kA 30
theorem z0_back : z0.back (1, 2) = (z1, false) := Prod.ext rfl (by kernel_rfl)
theorem z1_back : z1.back (1, 2) = (z2, true) := Prod.ext rfl (by kernel_rfl)
theorem z2_back : z2.back (1, 2) = (z3, false) := Prod.ext rfl (by kernel_rfl)
theorem z3_back : z3.back (1, 2) = (z4, false) := Prod.ext rfl (by kernel_rfl)
theorem z4_back : z4.back (1, 2) = (z5, false) := Prod.ext rfl (by kernel_rfl)
theorem z5_back : z5.back (1, 2) = (z6, true) := Prod.ext rfl (by kernel_rfl)
theorem z6_left : z6.left (1, 2) 5 = (z7, false) := Prod.ext rfl (by kernel_rfl)
theorem z7_left : z7.left (1, 2) 5 = (z8, true) := Prod.ext rfl (by kernel_rfl)
theorem z9_back : z9.back (1, 2) = (z10, false) := Prod.ext rfl (by kernel_rfl)
theorem z10_back : z10.back (1, 2) = (z11, true) := Prod.ext rfl (by kernel_rfl)
theorem z2_tier : z2.tier (1, 2) = 1 := by kernel_rfl
theorem z6_tier : z6.tier (1, 2) = 2 := by kernel_rfl
theorem z8_tier : z8.tier (1, 2) = 1 := by kernel_rfl
theorem z9_tier : z9.tier (1, 2) = 0 := by kernel_rfl
theorem z12_tier : z12.tier (1, 2) = -1 := by kernel_rfl
theorem z_n {z : PS} (h : Nat.ble z.n 1000000000 = true) : z.n ≤ 1000000000 := Nat.le_of_ble_eq_true h
def zD : List Dec := [⟨(1, 2), 1, ⟨#[119, 97, 114, 109, 32, 49]⟩⟩, ⟨(1, 2), 2, ⟨#[104, 111, 116, 32, 51]⟩⟩, ⟨(1, 2), 1, ⟨#[101, 120, 105, 116, 32, 53, 32, 108, 101, 102, 116, 32, 50, 32, 116, 105, 109, 101, 115]⟩⟩,
  ⟨(1, 2), 0, ⟨#[101, 114, 114, 111, 114, 32, 51, 48]⟩⟩, ⟨(1, 2), 1, ⟨#[119, 97, 114, 109, 32, 49]⟩⟩, ⟨(1, 2), -1, ⟨#[101, 114, 114, 111, 114, 32, 51, 48, 44, 32, 103, 105, 118, 101, 110, 32, 117, 112]⟩⟩]
theorem z12_decs : z12.decs = zD := by kernel_rfl
theorem zD_len : zD.length = 6 := rfl
theorem z12_keys : AL.keys z12.recs = [(1, 2)] := by kernel_rfl
def zT : ByteArray := ⟨#[49, 32, 50, 32, 45, 49, 32, 56, 32, 48, 32, 51, 10]⟩
theorem z12_text : (⟨(textL z12 [(1, 2)]).toArray⟩ : ByteArray) = zT := by kernel_rfl
theorem zText_spec {w : World} {R c : Hp} {p : Nat} (hprof : Prof R p z12 c) (hpc : Le c (hp w)) (hT : Tab (hp w)) : Calls Tryd.prog 14 #[ptr p 0] w fun e w' => e = .returned (.string zT) ∧ Grow w w' := by
  have hl : z12.recs.length = 1 := by kernel_rfl
  refine (Text_spec hprof hpc hT (z_n (by kernel_rfl)) (by omega) ?_).mono ?_
  · intro k hk
    rw [z12_keys, List.mem_singleton] at hk
    subst hk
    exact ⟨by constructor <;> decide, by constructor <;> decide⟩
  · rintro e w' ⟨ys, hp, _, rfl, hg⟩
    rw [z12_keys] at hp
    have := List.perm_singleton.1 hp
    subst this
    exact ⟨by rw [z12_text], hg⟩
end Go.Fx.YtdkjoljcffkpkaaDoor
