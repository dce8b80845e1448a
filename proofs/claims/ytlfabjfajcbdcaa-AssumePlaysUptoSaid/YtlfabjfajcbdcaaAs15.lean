/-
  Chapter 27: what the laws themselves want: keys of two ints, bytes, the modules of a registry that is one piece.
-/
import Derived.Test.YtlfabjfajcbdcaaAs12
import Derived.Test.YtlfabjfajcbdcaaAs14
import Derived.ChangeKeysEq
set_option linter.unusedSimpArgs false
set_option linter.unusedVariables false
set_option linter.unusedSectionVars false
namespace Go.Fx.Ytlfabjfajcbdcaa
open Go Go.Fx Go.Proofs
set_option maxRecDepth 20000

theorem law23 {β : Type} : KeyLaw (β := β) Try.prog 23 kk := by
  refine kk_law (d := .array 2 3) Try.underlying23 (fun a b => rfl) (fun b x y w => by kernel_rfl) fun x y x' y' w => ?_
  have hi : ∃ i, Try.prog.info? 3 = some i := by
    cases e : Try.prog.info? 3 with
    | none => exact absurd e (by
        have : (Try.prog.info? 3).isSome = true := by kernel_rfl
        intro h; rw [h] at this; cases this)
    | some i => exact ⟨i, rfl⟩
  obtain ⟨i, hi⟩ := hi
  unfold Op.equal Op.maxDepth
  rw [show (10000 : Nat) = 9999 + 1 from rfl, run_equalIn_array w 9999 _ _ Try.underlying23 hi, show Try.prog.cellsOf 3 = 1 by kernel_rfl]
  have h3 := Try.isAgg3
  have hq : ∀ a b w, (Op.equalIn 9999 3 (.int .i64 a) (.int .i64 b)).run Try.prog w = .ok (a == b) w := fun a b w => run_equalIn_int w 9998 3 .i64 .i64 a b Try.underlying3
  have e : List.range 2 = [0, 1] := rfl
  rw [e]
  by_cases h1 : x = x' <;> by_cases h2 : y = y' <;> simp [Op.eqItems, part, h3, hq, h1, h2, go_sem]

theorem Modules_reg {w : World} {R c : Hp} {p : Nat} {s : RS} (h : Reg R p s c) (hc : Le c (hp w)) (hne : s.vers ≠ []) (hlen : s.mods.length ≤ 1099511627776) :
    Calls Try.prog 13 #[ptr p 0] w (Comes' w (hp w) [] fun v' R' L' => ∃ c, L' = [c] ∧ OwnL Ty.int 3 R' v' s.modules c) := by
  obtain ⟨bv, bm, cV, cM, rfl, h1, h2, hm, hM, hok, hbm⟩ := h
  cases bm with
  | none => exact absurd (hbm rfl) hne
  | some bm => exact Modules_spec (R := hp w) (Step.ro (Le.refl _)).sats ((tri_1 _ _ _).trans hc) hM ((tri_3 h1 h2).trans hc) hlen

theorem x_quo8 {P : Program} {w : World} {ρ : Operand → Value} {o : Oper} {x y : Operand} {t yt : TypeId} {a b r : Int} (ho : o.op = .binOp .quo t x y yt) (hx : ρ x = .int .u8 a) (hy : ρ y = .int .u8 b) (h : b ≠ 0) (hr : IntKind.u8.wrap (a.tdiv b) = r) :
    (execOp ρ o).run P w = .ok (.value (.int .u8 r)) w := by
  subst hr
  unfold execOp
  simp only [ho, hx, hy, eqGuard, binOp, Op.intDiv, Sem.run_bind, Sem.run_pure, Result.andThen_ok, if_true]
  simp [h]
theorem conv8' (k : Int) (h1 : 0 ≤ k) (h2 : k < 256) (w : World) : (convert 5 3 (.int .u8 k)).run Try.prog w = .ok (int k) w := by
  have h : (convert 5 3 (.int .u8 k)).run Try.prog w = .ok (.int .i64 (IntKind.i64.wrap k)) w := by kernel_rfl
  rw [h, wrap_id (by constructor <;> omega)]
theorem x_conv8' {w : World} {ρ : Operand → Value} {o : Oper} {x : Operand} {k : Int} (ho : o.op = .convert 5 3 x) (hx : ρ x = .int .u8 k) (h1 : 0 ≤ k) (h2 : k < 256) : (execOp ρ o).run Try.prog w = .ok (.value (int k)) w := by
  unfold execOp
  simp [ho, hx, conv8' k h1 h2]

theorem want2_eq {k w r : Int} (h : (k < 0 ∧ r = 1) ∨ (¬ k < 0 ∧ k = 5 ∧ w ≠ 1 ∧ r = 41) ∨ (¬ k < 0 ∧ k = 5 ∧ w = 1 ∧ r = 1) ∨ (¬ k < 0 ∧ k ≠ 5 ∧ r = w)) : want2 k w = r := by
  unfold want2
  rcases h with ⟨h1, h2⟩ | ⟨h1, h2, h3, h4⟩ | ⟨h1, h2, h3, h4⟩ | ⟨h1, h2, h3⟩
  · rw [if_neg (by omega), if_pos h1, h2]
  · rw [if_pos ⟨h2, by rw [if_neg h1]; exact h3⟩, h4]
  · rw [if_neg (by rw [if_neg h1]; exact fun h => h.2 h3), if_neg h1, h3, h4]
  · rw [if_neg (by omega), if_neg h1, h3]
theorem e1_ne : e1.vers ≠ [] := by
  intro h
  have : e1.vers = e0.vers := by unfold e1 RS.add; split <;> rfl
  rw [this] at h
  exact absurd h (by decide)
theorem RS.bump_ne {s : RS} (h : s.vers ≠ []) (kind n : Int) : (s.bump kind n).vers ≠ [] := by
  unfold RS.bump
  split
  · exact h
  · simp only
    cases e : s.vers with
    | nil => exact absurd e h
    | cons p m =>
      obtain ⟨a, b⟩ := p
      simp only [AL.set]
      split <;> simp
theorem RS.add_ne {s : RS} (h : s.vers ≠ []) (k : Int) (xs : List Fact) : (s.add k xs).vers ≠ [] := by
  unfold RS.add
  split <;> exact h
theorem RS.bump_cnt (s : RS) (kind n : Int) : (s.bump kind n).cnt ≤ s.cnt + 1 := by
  unfold RS.bump
  split
  · omega
  · exact Nat.le_refl _
theorem e1_cnt : e1.cnt = 0 := by unfold e1 RS.add; split <;> rfl
end Go.Fx.Ytlfabjfajcbdcaa
