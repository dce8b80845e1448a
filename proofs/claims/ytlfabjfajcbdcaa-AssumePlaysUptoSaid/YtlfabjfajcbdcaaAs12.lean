/-
  Chapter 27: the registry of AssumeRemoved, reckoned.
-/
import Derived.Test.YtlfabjfajcbdcaaAs11
set_option linter.unusedSimpArgs false
set_option linter.unusedVariables false
set_option linter.unusedSectionVars false
namespace Go.Fx.Ytlfabjfajcbdcaa
open Go Go.Fx Go.Proofs
set_option maxRecDepth 20000

section
variable (k f : Int)
def k0 : RS := RS.new 4 0
def k1 : RS := k0.add k [⟨1, f, 1⟩]
def k2 : RS := (k1 k f).bump 1 f
def k3 : RS := (k2 k f).remove k
def k4 : RS := k3 k f
end

section
variable {k f : Int} (hk : 0 ≤ k) (hf : 0 ≤ f) (hf4 : f < 4)
include hk hf hf4
theorem f4 : f = 0 ∨ f = 1 ∨ f = 2 ∨ f = 3 := by omega
theorem k0_add : k0.addE k [⟨1, f, 1⟩] = 0 := by
  refine RS.addE_ok (by omega) ?_ rfl ?_
  · rcases f4 hk hf hf4 with rfl | rfl | rfl | rfl <;> decide
  · rcases f4 hk hf hf4 with rfl | rfl | rfl | rfl <;> decide
theorem k1_eq : k1 k f = ⟨k0.vers, [(k, [⟨1, f, 1⟩])], 0⟩ := by
  unfold k1
  rw [RS.add_ok (k0_add hk hf hf4)]
  rfl
theorem k1_busy : (k1 k f).addE k [] = 41 := by
  rw [k1_eq hk hf hf4]
  exact RS.addE_busy (by omega) rfl (by simp [AL.get])
theorem k1_mods : (k1 k f).modules = [k] := by
  rw [k1_eq hk hf hf4]
  simp [RS.modules, AL.keys]
theorem k1_ver : ver (k1 k f).vers (1, f) = 1 := by
  rw [k1_eq hk hf hf4]
  show ver k0.vers (1, f) = 1
  rcases f4 hk hf hf4 with rfl | rfl | rfl | rfl <;> decide
theorem k1_bump : (k1 k f).bumpL 1 f = [k] := by
  have h : ¬ ver (k1 k f).vers (1, f) < 0 := by rw [k1_ver hk hf hf4]; decide
  rw [(RS.bump_some h).2, k1_mods hk hf hf4, k1_eq hk hf hf4]
  have hb : RS.brk ⟨k0.vers, [(k, [⟨1, f, 1⟩])], 0⟩ 1 f k = true := by
    simp only [RS.brk, holds, AL.get, if_true, Option.getD_some, Option.isSome_some, Bool.true_and]
    rcases f4 hk hf hf4 with rfl | rfl | rfl | rfl <;> decide
  simp [hb]
theorem k2_eq : k2 k f = ⟨AL.set k0.vers (1, f) 2, [(k, [⟨1, f, 1⟩])], 1⟩ := by
  have h : ¬ ver (k1 k f).vers (1, f) < 0 := by rw [k1_ver hk hf hf4]; decide
  unfold k2
  rw [(RS.bump_some h).1, k1_eq hk hf hf4]
  rcases f4 hk hf hf4 with rfl | rfl | rfl | rfl <;> rfl
theorem k2_busy : (k2 k f).addE k [] = 41 := by
  rw [k2_eq hk hf hf4]
  exact RS.addE_busy (by omega) rfl (by simp [AL.get])
theorem k2_there : (AL.get (k2 k f).mods k).isSome = true := by
  rw [k2_eq hk hf hf4]
  simp [AL.get]
theorem k3_eq : k3 k f = ⟨AL.set k0.vers (1, f) 2, [], 1⟩ := by
  unfold k3
  rw [k2_eq hk hf hf4]
  simp [RS.remove, AL.del]
theorem k3_gone : (AL.get (k3 k f).mods k).isSome = false := by
  rw [k3_eq hk hf hf4]
  rfl
theorem k3_same : (k3 k f).remove k = k3 k f := by
  rw [k3_eq hk hf hf4]
  rfl
theorem k3_holds : holds (k3 k f).vers (k3 k f).mods k = false := by
  rw [k3_eq hk hf hf4]
  rfl
theorem k3_stale : (k3 k f).addE k [⟨1, f, 1⟩] = 40 := by
  rw [k3_eq hk hf hf4]
  refine RS.addE_stale (by omega) ?_ rfl ?_
  · rcases f4 hk hf hf4 with rfl | rfl | rfl | rfl <;> decide
  · rcases f4 hk hf hf4 with rfl | rfl | rfl | rfl <;> decide
theorem k3_add : (k3 k f).addE k [⟨1, f, 2⟩] = 0 := by
  rw [k3_eq hk hf hf4]
  refine RS.addE_ok (by omega) ?_ rfl ?_
  · rcases f4 hk hf hf4 with rfl | rfl | rfl | rfl <;> decide
  · rcases f4 hk hf hf4 with rfl | rfl | rfl | rfl <;> decide
theorem k5_holds : holds ((k3 k f).add k [⟨1, f, 2⟩]).vers ((k3 k f).add k [⟨1, f, 2⟩]).mods k = true := by
  rw [RS.add_ok (k3_add hk hf hf4), k3_eq hk hf hf4]
  simp only [holds, AL.set, AL.get, if_true, Option.getD_some, Option.isSome_some, Bool.true_and]
  rcases f4 hk hf hf4 with rfl | rfl | rfl | rfl <;> decide
end

theorem conv8 (k : Int) (h1 : 0 ≤ k) (h2 : k < 9) (w : World) : (convert 5 3 (.int .u8 k)).run Try.prog w = .ok (int k) w := by
  have h : (convert 5 3 (.int .u8 k)).run Try.prog w = .ok (.int .i64 (IntKind.i64.wrap k)) w := by kernel_rfl
  rw [h, wrap_id (by constructor <;> omega)]
theorem x_conv8 {w : World} {ρ : Operand → Value} {o : Oper} {x : Operand} {k : Int} (ho : o.op = .convert 5 3 x) (hx : ρ x = .int .u8 k) (h1 : 0 ≤ k) (h2 : k < 9) : (execOp ρ o).run Try.prog w = .ok (.value (int k)) w := by
  unfold execOp
  simp [ho, hx, conv8 k h1 h2]
theorem x_rem8 {P : Program} {w : World} {ρ : Operand → Value} {o : Oper} {x y : Operand} {t yt : TypeId} {a b r : Int} (ho : o.op = .binOp .rem t x y yt) (hx : ρ x = .int .u8 a) (hy : ρ y = .int .u8 b) (h : b ≠ 0) (hr : a.tmod b = r) :
    (execOp ρ o).run P w = .ok (.value (.int .u8 r)) w := by
  subst hr
  unfold execOp
  simp only [ho, hx, hy, eqGuard, binOp, Op.intDiv, Sem.run_bind, Sem.run_pure, Result.andThen_ok, if_true]
  simp [h]

end Go.Fx.Ytlfabjfajcbdcaa
