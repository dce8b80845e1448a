/-
  Chapter 14: the plain law of ProfileWarms; small numbers.
-/
import Derived.Test.YtdkjoljcffkpkaaDoorPrV
set_option linter.unusedSimpArgs false
set_option linter.unusedVariables false
set_option linter.unusedSectionVars false
namespace Go.Fx.YtdkjoljcffkpkaaDoor
open Go Go.Fx Go.Proofs
set_option maxRecDepth 20000

theorem x_conv8 {w : World} {ρ : Operand → Value} {o : Oper} {x : Operand} {n : Nat} (ho : o.op = .convert 5 3 x) (hx : ρ x = .int .u8 (n : Int)) (hn : n ≤ 65535) : (execOp ρ o).run Tryd.prog w = .ok (.value (int (n : Int))) w := by
  have h : (convert 5 3 (.int .u8 (n : Int))).run Tryd.prog w = .ok (.int .i64 (IntKind.i64.wrap n)) w := by kernel_rfl
  have h2 : IntKind.i64.wrap (n : Int) = n := wrap_id (by constructor <;> omega)
  unfold execOp
  simp [ho, hx, h, h2]
theorem x_conv16 {w : World} {ρ : Operand → Value} {o : Oper} {x : Operand} {n : Nat} (ho : o.op = .convert 52 3 x) (hx : ρ x = .int .u16 (n : Int)) (hn : n ≤ 65535) : (execOp ρ o).run Tryd.prog w = .ok (.value (int (n : Int))) w := by
  have h : (convert 52 3 (.int .u16 (n : Int))).run Tryd.prog w = .ok (.int .i64 (IntKind.i64.wrap n)) w := by kernel_rfl
  have h2 : IntKind.i64.wrap (n : Int) = n := wrap_id (by constructor <;> omega)
  unfold execOp
  simp [ho, hx, h, h2]

theorem x_remK {P : Program} {w : World} {ρ : Operand → Value} {o : Oper} {x y : Operand} {t yt : TypeId} {k : IntKind} {a b : Nat} (ho : o.op = .binOp .rem t x y yt) (hx : ρ x = .int k (a : Int)) (hy : ρ y = .int k (b : Int)) (h : b ≠ 0) : (execOp ρ o).run P w = .ok (.value (.int k ((a % b : Nat) : Int))) w := by
  have h' : (b : Int) ≠ 0 := by omega
  have e : ((a : Int)).tmod (b : Int) = ((a % b : Nat) : Int) := rfl
  unfold execOp
  simp only [ho, hx, hy, eqGuard, binOp, Op.intDiv, Sem.run_bind, Sem.run_pure, Result.andThen_ok, if_true, e]
  simp [h]
abbrev kW : Pl := (7, 9)
/-- The tier behind k calls. -/
def tierW (m w h k : Nat) : Int := if h ≤ k / m then 2 else if w ≤ k / m then 1 else 0
structure WInv (m w h k : Nat) (s : PS) : Prop where
  sample : s.sample = m
  warm : s.warm = w
  hot : s.hot = h
  rc : s.rc kW = ⟨tierW m w h k, k, (k / m : Nat), 0, []⟩
  n : s.n = k
theorem WInv.start {m w h : Nat} (hm : 1 ≤ m) (hw : 1 ≤ w) (hh : w + 1 ≤ h) : WInv m w h 0 ⟨m, w, h, 1, [], [], 0⟩ := by
  refine ⟨rfl, rfl, rfl, ?_, rfl⟩
  simp only [PS.rc, AL.get, Option.getD_none, rec0, tierW, Nat.zero_div]
  rw [if_neg (by omega), if_neg (by omega)]
  rfl
theorem rc_put {s : PS} {k : Pl} {r : Rec} : (s.put k r).rc k = r := by simp [PS.rc, PS.put, AL.get_set]
theorem rc_decide {s : PS} {k : Pl} {r : Rec} {t : Int} {b : ByteArray} : (s.decide k r t b).rc k = { r with tier := t } := by simp [PS.rc, PS.decide, AL.get_set]
theorem tierW_0 (m w h k : Nat) : ¬ tierW m w h k < 0 := by
  unfold tierW
  split
  · decide
  · split <;> decide
/-- One call more. -/
theorem WInv.step {m w h k : Nat} {s : PS} (i : WInv m w h k s) (hm : 1 ≤ m) (hw : 1 ≤ w) (hh : w + 1 ≤ h) (hk : k + 1 ≤ 2000) :
    WInv m w h (k + 1) (s.back kW).1 ∧ (s.back kW).2 = decide ((k + 1) % m = 0 ∧ ((k + 1) / m = w ∨ (k + 1) / m = h)) := by
  obtain ⟨h1, h2, h3, h4', h5⟩ := i
  obtain ⟨r, h4⟩ : ∃ r, s.rc kW = r := ⟨_, rfl⟩
  have r1 : r.tier = tierW m w h k := by rw [← h4, h4']
  have r2 : r.calls = (k : Int) := by rw [← h4, h4']
  have r3 : r.count = ((k / m : Nat) : Int) := by rw [← h4, h4']
  have r4 : r.failures = 0 := by rw [← h4, h4']
  have r5 : r.exits = [] := by rw [← h4, h4']
  clear h4'
  have hd : (k + 1) / m = k / m + if m ∣ k + 1 then 1 else 0 := Nat.succ_div
  have hneg : ¬ r.tier < 0 := by rw [r1]; exact tierW_0 m w h k
  have hle : k / m ≤ k := Nat.div_le_self _ _
  by_cases hr : (k + 1) % m = 0
  · have hdv : m ∣ k + 1 := Nat.dvd_of_mod_eq_zero hr
    rw [if_pos hdv] at hd
    have hmod : Int.tmod (r.calls + 1) s.sample = 0 := by
      rw [h1, r2]
      show (((k + 1 : Nat) : Int)).tmod (m : Int) = 0
      rw [show (((k + 1 : Nat) : Int)).tmod (m : Int) = (((k + 1) % m : Nat) : Int) from rfl, hr]
      rfl
    have hmin : min (r.count + 1) 1000000 = (((k + 1) / m : Nat) : Int) := by
      have hsm : ((k / m : Nat) : Int) + 1 ≤ 1000000 := by omega
      rw [r3, hd, Int.min_eq_left hsm]
      exact (Int.natCast_succ _).symm
    by_cases hw' : k / m + 1 = w
    · have ht : r.tier = 0 := by rw [r1]; unfold tierW; rw [if_neg (by omega), if_neg (by omega)]
      have he := back_warm (s := s) h4 hneg hmod ht (by rw [h2, hmin]; omega)
      rw [he]
      refine ⟨⟨h1, h2, h3, ?_, ?_⟩, ?_⟩
      · rw [rc_decide, hmin]
        have ht' : tierW m w h (k + 1) = 1 := by unfold tierW; rw [if_neg (by omega), if_pos (by omega)]
        rw [ht', r2, r4, r5]
        rfl
      · simp [PS.decide, h5]
      · simp [hr]; omega
    · by_cases hh' : k / m + 1 = h
      · have ht : r.tier = 1 := by rw [r1]; unfold tierW; rw [if_neg (by omega), if_pos (by omega)]
        have he := back_hot (s := s) h4 hneg hmod ht (by rw [h3, hmin]; omega)
        rw [he]
        refine ⟨⟨h1, h2, h3, ?_, ?_⟩, ?_⟩
        · rw [rc_decide, hmin]
          have ht' : tierW m w h (k + 1) = 2 := by unfold tierW; rw [if_pos (by omega)]
          rw [ht', r2, r4, r5]
          rfl
        · simp [PS.decide, h5]
        · simp [hr]; omega
      · have ht : tierW m w h (k + 1) = tierW m w h k := by
          unfold tierW
          by_cases a1 : h ≤ k / m
          · rw [if_pos a1, if_pos (by omega)]
          · rw [if_neg a1, if_neg (by omega)]
            by_cases a2 : w ≤ k / m
            · rw [if_pos a2, if_pos (by omega)]
            · rw [if_neg a2, if_neg (by omega)]
        have he := back_no (s := s) h4 hneg hmod
          (by
            rw [h2, hmin]
            rintro ⟨e1, e2⟩
            have e1' : tierW m w h k = 0 := by rw [← r1]; exact e1
            unfold tierW at e1'
            split at e1'
            · cases e1'
            · split at e1'
              · cases e1'
              · omega)
          (by
            rw [h3, hmin]
            rintro ⟨e1, e2⟩
            have e1' : tierW m w h k = 1 := by rw [← r1]; exact e1
            unfold tierW at e1'
            split at e1'
            · cases e1'
            · omega)
        rw [he]
        refine ⟨⟨h1, h2, h3, ?_, ?_⟩, ?_⟩
        · rw [rc_put, hmin, ht, r1, r2, r4, r5]
          rfl
        · simp [PS.put, h5]
        · simp [hr]; omega
  · have hdv : ¬ m ∣ k + 1 := fun e => hr (Nat.mod_eq_zero_of_dvd e)
    rw [if_neg hdv] at hd
    have hmod : Int.tmod (r.calls + 1) s.sample ≠ 0 := by
      rw [h1, r2]
      show (((k + 1 : Nat) : Int)).tmod (m : Int) ≠ 0
      rw [show (((k + 1 : Nat) : Int)).tmod (m : Int) = (((k + 1) % m : Nat) : Int) from rfl]
      omega
    have he := back_skip (s := s) h4 hneg hmod
    rw [he]
    have ht : tierW m w h (k + 1) = tierW m w h k := by unfold tierW; rw [hd, Nat.add_zero]
    refine ⟨⟨h1, h2, h3, ?_, ?_⟩, ?_⟩
    · rw [rc_put, ht, hd, r1, r2, r3, r4, r5]
      rfl
    · simp [PS.put, h5]
    · simp [hr]
theorem eq_iff_div {m w k : Nat} (hm : 1 ≤ m) : (k = m * w) ↔ (k % m = 0 ∧ k / m = w) := by
  constructor
  · rintro rfl
    exact ⟨Nat.mul_mod_right _ _, Nat.mul_div_cancel_left _ (by omega)⟩
  · rintro ⟨h1, rfl⟩
    exact (Nat.mul_div_cancel' (Nat.dvd_of_mod_eq_zero h1)).symm
theorem le_iff_div {m w k : Nat} (hm : 1 ≤ m) : (m * w ≤ k) ↔ w ≤ k / m := by
  rw [Nat.le_div_iff_mul_le (by omega), Nat.mul_comm]
theorem WInv.said {m w h k : Nat} {s : PS} (i : WInv m w h k s) (hm : 1 ≤ m) (hw : 1 ≤ w) (hh : w + 1 ≤ h) (hk : k + 1 ≤ 2000) :
    (s.back kW).2 = ((((k + 1 : Nat) : Int) == (m : Int) * (w : Int)) || (((k + 1 : Nat) : Int) == (m : Int) * (h : Int))) := by
  rw [(i.step hm hw hh hk).2]
  have e1 : (((k + 1 : Nat) : Int) == (m : Int) * (w : Int)) = decide (k + 1 = m * w) := by
    rw [show ((m : Int) * (w : Int)) = ((m * w : Nat) : Int) by simp]
    exact decide_eq_decide.2 Int.ofNat_inj
  have e2 : (((k + 1 : Nat) : Int) == (m : Int) * (h : Int)) = decide (k + 1 = m * h) := by
    rw [show ((m : Int) * (h : Int)) = ((m * h : Nat) : Int) by simp]
    exact decide_eq_decide.2 Int.ofNat_inj
  rw [e1, e2, ← Bool.decide_or]
  refine decide_eq_decide.2 ?_
  rw [eq_iff_div hm, eq_iff_div hm]
  constructor
  · rintro ⟨a, b | b⟩
    · exact .inl ⟨a, b⟩
    · exact .inr ⟨a, b⟩
  · rintro (⟨a, b⟩ | ⟨a, b⟩)
    · exact ⟨a, .inl b⟩
    · exact ⟨a, .inr b⟩
theorem tier_rc (s : PS) (k : Pl) : s.tier k = (s.rc k).tier := by
  unfold PS.tier PS.rc
  cases AL.get s.recs k <;> rfl
theorem WInv.tier {m w h k : Nat} {s : PS} (i : WInv m w h k s) (hm : 1 ≤ m) : s.tier kW = if (m : Int) * (h : Int) ≤ (k : Int) then 2 else if (m : Int) * (w : Int) ≤ (k : Int) then 1 else 0 := by
  rw [tier_rc, i.rc]
  show tierW m w h k = _
  unfold tierW
  have e1 : ((m : Int) * (h : Int) ≤ (k : Int)) ↔ h ≤ k / m := by rw [← le_iff_div hm]; rw [show ((m : Int) * (h : Int)) = ((m * h : Nat) : Int) by simp]; exact Int.ofNat_le
  have e2 : ((m : Int) * (w : Int) ≤ (k : Int)) ↔ w ≤ k / m := by rw [← le_iff_div hm]; rw [show ((m : Int) * (w : Int)) = ((m * w : Nat) : Int) by simp]; exact Int.ofNat_le
  simp only [e1, e2]
end Go.Fx.YtdkjoljcffkpkaaDoor
