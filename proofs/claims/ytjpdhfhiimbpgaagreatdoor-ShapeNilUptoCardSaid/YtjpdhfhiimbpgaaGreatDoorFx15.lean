/-
  The library's sort of ints, at whatever length, in this library's words.
-/
import Derived.Test.YtjpdhfhiimbpgaaGreatDoorFx14
import Derived.Sort.Row
import Derived.Sort.Grow
set_option linter.unusedSimpArgs false
set_option linter.unusedVariables false
set_option linter.unusedSectionVars false
namespace Go.Fx
open Go Go.Sort

theorem Encs.ints {R : Hp} {xs : List Int} {cs : List Value} (h : Encs Ty.int R xs cs) : cs = xs.map (Value.int .i64) := by
  induction h with
  | nil => rfl
  | cons hx _ ih =>
    have e : _ = [_] := hx
    subst e
    rw [ih]
    rfl
theorem Encs.ofInts (R : Hp) (xs : List Int) : Encs Ty.int R xs (xs.map (Value.int .i64)) := by
  induction xs with
  | nil => exact .nil
  | cons x xs ih => exact .cons (t := Ty.int) (c := [Value.int .i64 x]) rfl ih

section
variable {T b N : Nat} {R R0 : Hp} {xs : List Int} {c : Hp} {w w0 : World} {L0 Lr : List Hp}

theorem Row.holds (h : Row Ty.int T b N R xs c) (hc : Le c (hp w)) : Holds (Value.int .i64) w b 0 xs.toArray := by
  obtain ⟨cs, rest, rfl, he, hN⟩ := h
  have hb : w.heap[b]? = some (.cells (cs ++ rest).toArray T (0, 0)) := hc b _ (one_self _ _)
  have e := he.ints
  subst e
  intro j hj
  have hj' : j < xs.length := by simpa using hj
  refine ⟨?_, ?_⟩
  · rw [cell_at hb]
    simp only [Nat.zero_add, List.getElem?_toArray]
    rw [List.getElem?_append_left (by simpa using hj'), List.getElem?_map, List.getElem?_eq_getElem hj']
    simp [hj']
  · simp [World.frozen?, hb]

/-- A world in which the row holds ys, and nothing else of what was there has turned. -/
theorem Row.sorted {ys : List Int} (h : Row Ty.int T b N R xs c) (hst : Step w0 R0 L0 w R (c :: Lr)) (hl : ys.length = xs.length) (n : Nat) (os : Array Obj) :
    ∃ c', Step w0 R0 L0 (grow (putRow (Value.int .i64) (Sort.ahead w n) b 0 ys.toArray) os) R (c' :: Lr) ∧ Row Ty.int T b N R ys c' := by
  obtain ⟨cs, rest, rfl, he, hN⟩ := h
  have hb : w.heap[b]? = some (.cells (cs ++ rest).toArray T (0, 0)) := hst.blk (i := 0) rfl
  have hcs : cs.length = xs.length := by have := he.len; simpa [Ty.int] using this
  have hp : putCells (Value.int .i64) 0 ys.toArray (cs ++ rest).toArray = (ys.map (Value.int .i64) ++ rest).toArray := by
    apply Array.ext_getElem?
    intro k
    simp only [putCells, Array.getElem?_mapIdx, List.getElem?_toArray, Nat.zero_le, true_and, Nat.zero_add, Nat.sub_zero, List.size_toArray]
    by_cases hk : k < ys.length
    · rw [List.getElem?_append_left (by omega), List.getElem?_append_left (by simpa using hk), List.getElem?_map, List.getElem?_eq_getElem hk, List.getElem?_eq_getElem (by omega)]
      simp [hk]
    · rw [List.getElem?_append_right (by omega), List.getElem?_append_right (by simpa using hk)]
      simp only [List.length_map, hl, hcs, if_neg hk]
      have hk2 : ¬ k < xs.length := by omega
      cases rest[k - xs.length]? <;> simp [hk2]
  have e : (grow (putRow (Value.int .i64) (Sort.ahead w n) b 0 ys.toArray) os) = grow (Sort.ahead (setB w b (.cells (ys.map (Value.int .i64) ++ rest).toArray T (0, 0))) n) os := by
    congr 1
    rw [putRow_ahead]
    congr 1
    unfold putRow mapBlock setB
    congr 1
    apply Array.ext_getElem?
    intro k
    rw [Array.getElem?_modify, Array.getElem?_setIfInBounds]
    have hlt := (Array.getElem?_eq_some_iff.1 hb).1
    by_cases hk : b = k
    · subst hk
      rw [if_pos rfl, if_pos rfl, if_pos hlt, hb]
      simp only [Option.map_some, onCells, hp]
    · rw [if_neg hk, if_neg hk]
  rw [e]
  have h1 := hst.set0 (.cells (ys.map (Value.int .i64) ++ rest).toArray T (0, 0))
  refine ⟨_, h1.grown ⟨rfl, rfl, rfl, ?_, ?_⟩, ys.map (Value.int .i64), rest, rfl, Encs.ofInts R ys, ?_⟩
  · simp [grow, Sort.ahead]
  · intro i hi
    have h2 : ∀ (W : World), i < W.heap.size → (W.heap ++ os)[i]? = W.heap[i]? := fun W h => Array.getElem?_append_left h
    exact h2 _ hi
  · rw [← hN]
    simp [hl, hcs]
end
end Go.Fx
