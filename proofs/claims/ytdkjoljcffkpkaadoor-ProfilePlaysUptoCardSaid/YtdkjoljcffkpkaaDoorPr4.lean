/-
  Chapter 14 (profile): the pure profile, way by way.
-/
import Derived.Test.YtdkjoljcffkpkaaDoorPr3
set_option linter.unusedSimpArgs false
set_option linter.unusedVariables false
set_option linter.unusedSectionVars false
namespace Go.Fx.YtdkjoljcffkpkaaDoor
open Go Go.Fx Go.Proofs
set_option maxRecDepth 20000

theorem Prof.opened {w w0 : World} {R0 R : Hp} {L0 Lr : List Hp} {p bm : Nat} {s : PS} {v : Value} {cM cR cD : Hp} (h : Step w0 R0 L0 w R (uni (profB p s bm v) (tri cM cR cD) :: Lr)) (h1 : Dj (profB p s bm v) (tri cM cR cD)) (h2 : Dj cM (uni cR cD)) (h3 : Dj cR cD) :
    Step w0 R0 L0 w R (profB p s bm v :: cM :: cR :: cD :: Lr) :=
  (((h.split h1).front 1 rfl rfl).split3 h2 h3).front 3 rfl rfl

section
variable {s : PS} {k : Pl} {r : Rec}
theorem back_neg (hr : s.rc k = r) (h : r.tier < 0) : s.back k = (s.put k r, false) := by
  subst hr
  simp only [PS.back]
  rw [if_pos h]
theorem back_skip (hr : s.rc k = r) (h : ¬ r.tier < 0) (h2 : Int.tmod (r.calls + 1) s.sample ≠ 0) : s.back k = (s.put k { r with calls := r.calls + 1 }, false) := by
  subst hr
  simp only [PS.back]
  rw [if_neg h, if_pos h2]
theorem back_warm (hr : s.rc k = r) (h : ¬ r.tier < 0) (h2 : Int.tmod (r.calls + 1) s.sample = 0) (h3 : r.tier = 0) (h4 : s.warm ≤ min (r.count + 1) 1000000) :
    s.back k = (s.decide k { r with calls := r.calls + 1, count := min (r.count + 1) 1000000 } 1 (joinW [.s wWarm, .i (min (r.count + 1) 1000000)]), true) := by
  subst hr
  simp only [PS.back]
  rw [if_neg h, if_neg (by simpa using h2), if_pos ⟨h3, h4⟩]
theorem back_hot (hr : s.rc k = r) (h : ¬ r.tier < 0) (h2 : Int.tmod (r.calls + 1) s.sample = 0) (h3 : r.tier = 1) (h4 : s.hot ≤ min (r.count + 1) 1000000) :
    s.back k = (s.decide k { r with calls := r.calls + 1, count := min (r.count + 1) 1000000 } 2 (joinW [.s wHot, .i (min (r.count + 1) 1000000)]), true) := by
  subst hr
  simp only [PS.back]
  rw [if_neg h, if_neg (by simpa using h2), if_neg (by rw [h3]; simp), if_pos ⟨h3, h4⟩]
theorem back_no (hr : s.rc k = r) (h : ¬ r.tier < 0) (h2 : Int.tmod (r.calls + 1) s.sample = 0) (h3 : ¬ (r.tier = 0 ∧ s.warm ≤ min (r.count + 1) 1000000)) (h4 : ¬ (r.tier = 1 ∧ s.hot ≤ min (r.count + 1) 1000000)) :
    s.back k = (s.put k { r with calls := r.calls + 1, count := min (r.count + 1) 1000000 }, false) := by
  subst hr
  simp only [PS.back]
  rw [if_neg h, if_neg (by simpa using h2), if_neg h3, if_neg h4]

theorem left_none (e : Int) (hr : AL.get s.recs k = none) : s.left k e = (s, false) := by simp [PS.left, hr]
theorem left_not {e : Int} (hr : AL.get s.recs k = some r) (h : r.tier ≠ 2 ∨ e < 0) : s.left k e = (s, false) := by
  simp only [PS.left, hr]
  rw [if_pos h]
theorem left_stay {e : Int} (hr : AL.get s.recs k = some r) (h : r.tier = 2) (h0 : ¬ e < 0) (h2 : (AL.get r.exits e).getD 0 + 1 < s.cold) : s.left k e = (s.put k { r with exits := AL.set r.exits e ((AL.get r.exits e).getD 0 + 1) }, false) := by
  simp only [PS.left, hr]
  rw [if_neg (by rw [h]; simp; omega), if_pos h2]
theorem left_back {e : Int} (hr : AL.get s.recs k = some r) (h : r.tier = 2) (h0 : ¬ e < 0) (h2 : ¬ (AL.get r.exits e).getD 0 + 1 < s.cold) :
    s.left k e = (s.setBack k { r with exits := AL.set r.exits e ((AL.get r.exits e).getD 0 + 1), count := s.warm } 1 [.s wExit, .i e, .s wLeft, .i s.cold, .s wTimes], true) := by
  simp only [PS.left, hr]
  rw [if_neg (by rw [h]; simp; omega), if_neg h2]
theorem failed_none (e : Int) (hr : AL.get s.recs k = none) : s.failed k e = s := by simp [PS.failed, hr]
theorem failed_not {e : Int} (hr : AL.get s.recs k = some r) (h : r.tier < 1 ∨ e = 0) : s.failed k e = s := by
  simp only [PS.failed, hr]
  rw [if_pos h]
theorem failed_back {e : Int} (hr : AL.get s.recs k = some r) (h : ¬ r.tier < 1) (h2 : e ≠ 0) : s.failed k e = s.setBack k { r with count := 0 } 0 [.s wError, .i e] := by
  simp only [PS.failed, hr]
  rw [if_neg (by omega)]
theorem setBack_up {t : Int} {l : List Wd} (h : r.failures + 1 = 3) : s.setBack k r t l = s.decide k { r with failures := r.failures + 1, exits := [] } (-1) (joinW [.s (joinW l ++ wGiven)]) := by
  simp only [PS.setBack]
  rw [if_pos h]
theorem setBack_on {t : Int} {l : List Wd} (h : r.failures + 1 ≠ 3) : s.setBack k r t l = s.decide k { r with failures := r.failures + 1, exits := [] } t (joinW [.s (joinW l)]) := by
  simp only [PS.setBack]
  rw [if_neg h]
theorem tier_some (hr : AL.get s.recs k = some r) : s.tier k = r.tier := by simp [PS.tier, hr]
theorem tier_none (hr : AL.get s.recs k = none) : s.tier k = 0 := by simp [PS.tier, hr]

theorem Rec.Ok.calls1 {n : Nat} (h : r.Ok n) : Rec.Ok (n + 1) { r with calls := r.calls + 1 } := ⟨h.tier, ⟨by have := h.calls.1; simp only; omega, by have := h.calls.2; simp only; omega⟩, h.count, ⟨h.failures.1, by have := h.failures.2; simp only; omega⟩, fun k v e => by have := h.exits k v e; omega⟩
theorem Rec.Ok.count1 {n : Nat} (h : r.Ok n) : Rec.Ok (n + 1) { r with calls := r.calls + 1, count := min (r.count + 1) 1000000 } := ⟨h.tier, ⟨by have := h.calls.1; simp only; omega, by have := h.calls.2; simp only; omega⟩, by have := h.count; simp only; omega, ⟨h.failures.1, by have := h.failures.2; simp only; omega⟩, fun k v e => by have := h.exits k v e; omega⟩
theorem Rec.Ok.exit1 {n : Nat} (h : r.Ok n) (e : Int) : Rec.Ok (n + 1) { r with exits := AL.set r.exits e ((AL.get r.exits e).getD 0 + 1) } := ⟨h.tier, ⟨h.calls.1, by have := h.calls.2; simp only; omega⟩, h.count, ⟨h.failures.1, by have := h.failures.2; simp only; omega⟩, fun k v he => by
  simp only [AL.get_set] at he
  split at he
  · cases he
    cases e' : AL.get r.exits e with
    | none => simp only [Option.getD_none]; omega
    | some u => have := h.exits e u e'; simp only [Option.getD_some]; omega
  · have := h.exits k v he; omega⟩
theorem Rec.Ok.exit {n : Nat} (h : r.Ok n) (e : Int) : 0 ≤ (AL.get r.exits e).getD 0 ∧ (AL.get r.exits e).getD 0 ≤ n := by
  cases e' : AL.get r.exits e with
  | none => simp
  | some u => have := h.exits e u e'; simp only [Option.getD_some]; omega
theorem Rec.Ok.fail {n : Nat} (h : r.Ok n) {c : Int} (hc : 0 ≤ c ∧ c ≤ 1000000) : Rec.Ok (n + 1) { r with count := c, failures := r.failures + 1, exits := [] } :=
  ⟨h.tier, ⟨h.calls.1, by have := h.calls.2; simp only; omega⟩, hc, ⟨by have := h.failures.1; simp only; omega, by have := h.failures.2; simp only; omega⟩, fun k v e => by simp [AL.get] at e⟩
end

/-! ### Lengths -/
theorem lens_le {l : List Wd} {b : Nat} (h : ∀ x ∈ l, x.txt.size ≤ b) : Lib.lens (l.map fun w => w.txt.data.toList) ≤ b * l.length := by
  induction l with
  | nil => simp [Lib.lens]
  | cons x l ih =>
    have h1 := h x (by simp)
    have h2 := ih (fun y hy => h y (by simp [hy]))
    simp only [List.map_cons, lens_cons, List.length_cons, Nat.mul_add, Nat.mul_one]
    have : x.txt.data.toList.length = x.txt.size := Array.length_toList ..
    omega
theorem joinW_le {l : List Wd} {b : Nat} (h : ∀ x ∈ l, x.txt.size ≤ b) : (joinW l).size ≤ (b + 1) * l.length := by
  rw [joinW_size]
  cases l with
  | nil => simp [Lib.join, List.intercalate]
  | cons x l =>
    have h1 := lens_le h
    rw [List.map_cons, Lib.join_length]
    simp only [List.map_cons, List.length_cons, List.length_map, List.length_nil] at h1 ⊢
    have : (b + 1) * (l.length + 1) = b * (l.length + 1) + (l.length + 1) := by rw [Nat.add_mul, Nat.one_mul]
    omega
theorem txt_i_le {n : Int} (h : I64 n) : (Wd.i n).txt.size ≤ 21 := by
  have := txt_i h
  rw [Array.length_toList] at this
  exact this
theorem size_append (a b : ByteArray) : (a ++ b).size = a.size + b.size := by simp
theorem joinW_len {l : List Wd} {k : Nat} (hk : l.length ≤ k) : (Lib.join (((l.take k).map Wd.txt).map (·.data.toList)) [32]).length = (joinW l).size := by
  rw [joinW_size, List.take_of_length_le hk, List.map_map]
  rfl
def Wd.Ok : Wd → Prop
  | .i n => I64 n
  | .s t => t.size ≤ 140
theorem Wd.Ok.size {x : Wd} (h : x.Ok) : x.txt.size ≤ 140 := by
  cases x with
  | i n => exact Nat.le_trans (txt_i_le h) (by decide)
  | s t => exact h
theorem Wd.Ok.i {l : List Wd} {x : Wd} {n : Int} (h : ∀ x ∈ l, x.Ok) (hx : x ∈ l) (e : x = .i n) : I64 n := by subst e; exact h _ hx
theorem joinW_room {l : List Wd} {k : Nat} (h : ∀ x ∈ l, x.Ok) (hl : l.length ≤ 8) (hk : l.length ≤ k) : (Lib.join (((l.take k).map Wd.txt).map (·.data.toList)) [32]).length ≤ 140737488355328 := by
  rw [joinW_len hk]
  have := joinW_le (b := 140) fun x hx => (h x hx).size
  have : (140 + 1) * l.length ≤ 141 * 8 := Nat.mul_le_mul_left _ hl
  omega
theorem len_txts {l : List Wd} {k : Nat} (hk : k ≤ l.length) : (List.map Wd.txt (List.take k l)).length = k := by rw [List.length_map, List.length_take]; omega
theorem joinW_short {l : List Wd} (h : ∀ x ∈ l, x.Ok) (hl : l.length ≤ 5) : (joinW l).size ≤ 1000 := by
  have := joinW_le (b := 140) fun x hx => (h x hx).size
  have : (140 + 1) * l.length ≤ 141 * 5 := Nat.mul_le_mul_left _ hl
  omega
def Wd.Sm : Wd → Prop
  | .i n => I64 n
  | .s t => t.size ≤ 21
theorem Wd.Sm.size {x : Wd} (h : x.Sm) : x.txt.size ≤ 21 := by
  cases x with
  | i n => exact txt_i_le h
  | s t => exact h
theorem Wd.Sm.ok {x : Wd} (h : x.Sm) : x.Ok := by
  cases x with
  | i n => exact h
  | s t => exact Nat.le_trans h (by decide)
theorem joinW_small {l : List Wd} (h : ∀ x ∈ l, x.Sm) (hl : l.length ≤ 5) : (joinW l).size ≤ 110 := by
  have := joinW_le (b := 21) fun x hx => (h x hx).size
  have : (21 + 1) * l.length ≤ 22 * 5 := Nat.mul_le_mul_left _ hl
  omega
theorem Sm_i {n : Int} (h : I64 n) : (Wd.i n).Sm := h
theorem Sm_s {t : ByteArray} (h : t.size ≤ 21) : (Wd.s t).Sm := h
theorem Sm1 {a : Wd} (h : a.Sm) : ∀ x ∈ [a], x.Sm := by simpa using h
theorem Sm2 {a b : Wd} (h : a.Sm) (h2 : b.Sm) : ∀ x ∈ [a, b], x.Sm := by
  intro x hx
  simp only [List.mem_cons, List.not_mem_nil, or_false] at hx
  rcases hx with rfl | rfl <;> assumption
theorem Sm5 {a b c d e : Wd} (h : a.Sm) (h2 : b.Sm) (h3 : c.Sm) (h4 : d.Sm) (h5 : e.Sm) : ∀ x ∈ [a, b, c, d, e], x.Sm := by
  intro x hx
  simp only [List.mem_cons, List.not_mem_nil, or_false] at hx
  rcases hx with rfl | rfl | rfl | rfl | rfl <;> assumption
theorem Oks {l : List Wd} (h : ∀ x ∈ l, x.Sm) : ∀ x ∈ l, x.Ok := fun x hx => (h x hx).ok
theorem Ok1 {t : ByteArray} (h : t.size ≤ 140) : ∀ x ∈ [Wd.s t], x.Ok := by
  intro x hx
  simp only [List.mem_cons, List.not_mem_nil, or_false] at hx
  subst hx
  exact h
theorem given_le {t : ByteArray} (h : t.size ≤ 110) : (t ++ wGiven).size ≤ 140 := by
  rw [size_append]
  have : wGiven.size = 10 := by decide
  omega
theorem set_same {β : Type} {l : List (Pl × β)} {k : Pl} {v : β} (h : AL.get l k = some v) : AL.set l k v = l := by
  induction l with
  | nil => cases h
  | cons a l ih =>
    obtain ⟨j, u⟩ := a
    by_cases e : j = k
    · subst e
      simp [AL.get] at h
      subst h
      simp [AL.set]
    · simp only [AL.get, e, if_false] at h
      simp only [AL.set, e, if_false, ih h]
theorem str_room {t : ByteArray} (h : t.size ≤ 110) : t.size + wGiven.size ≤ 4611686018427387904 := by
  have : wGiven.size = 10 := by decide
  omega
theorem PS.Ok.setBack {s : PS} (h : s.Ok) {k : Pl} {r : Rec} {c t : Int} {ex : List (Int × Int)} {l : List Wd} (hr : r.Ok s.n) (hc : 0 ≤ c ∧ c ≤ 1000000) (ht : -1 ≤ t ∧ t ≤ 2) (hl : ∀ x ∈ l, x.Sm) (hn : l.length ≤ 5) : (s.setBack k { r with count := c, exits := ex } t l).Ok := by
  have h1 := joinW_small hl hn
  by_cases e : r.failures + 1 = 3
  · rw [setBack_up (r := { r with count := c, exits := ex }) e]
    exact h.decide k (hr.fail hc) (by decide) (joinW_short (Ok1 (given_le h1)) (Nat.le_of_ble_eq_true rfl))
  · rw [setBack_on (r := { r with count := c, exits := ex }) e]
    exact h.decide k (hr.fail hc) ht (joinW_short (Ok1 (Nat.le_trans h1 (by decide))) (Nat.le_of_ble_eq_true rfl))
end Go.Fx.YtdkjoljcffkpkaaDoor
