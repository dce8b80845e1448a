/-
  How plain data lie in memory: one 'Ty' for each type.
-/
import Derived.Test.YtjpdhfhiimbpgaaGreatDoorFx5
set_option linter.unusedSimpArgs false
set_option linter.unusedVariables false
namespace Go.Fx
open Go

/-- A type's data: so many cells, and which cells (over the read-only heap R) tell x. -/
structure Ty (α : Type) where
  sz : Nat
  rel : Hp → α → List Value → Prop
  mono : ∀ {R R' : Hp} {x : α} {cs : List Value}, Le R R' → rel R x cs → rel R' x cs
  len : ∀ {R : Hp} {x : α} {cs : List Value}, rel R x cs → cs.length = sz
  ones : ∀ {R : Hp} {x : α} {cs : List Value}, rel R x cs → cs.all (·.oneCell') = true

namespace Ty
def int : Ty Int where
  sz := 1
  rel _ n cs := cs = [.int .i64 n]
  mono _ h := h
  len h := by subst h; rfl
  ones h := by subst h; rfl
def u8 : Ty Int where
  sz := 1
  rel _ n cs := cs = [.int .u8 n]
  mono _ h := h
  len h := by subst h; rfl
  ones h := by subst h; rfl
def bool : Ty Bool where
  sz := 1
  rel _ b cs := cs = [.bool b]
  mono _ h := h
  len h := by subst h; rfl
  ones h := by subst h; rfl
def str : Ty ByteArray where
  sz := 1
  rel _ s cs := cs = [.string s]
  mono _ h := h
  len h := by subst h; rfl
  ones h := by subst h; rfl
def pair {α β : Type} (a : Ty α) (b : Ty β) : Ty (α × β) where
  sz := a.sz + b.sz
  rel R x cs := ∃ c1 c2, cs = c1 ++ c2 ∧ a.rel R x.1 c1 ∧ b.rel R x.2 c2
  mono h := fun ⟨c1, c2, e, h1, h2⟩ => ⟨c1, c2, e, a.mono h h1, b.mono h h2⟩
  len := fun ⟨c1, c2, e, h1, h2⟩ => by subst e; rw [List.length_append, a.len h1, b.len h2]
  ones := fun ⟨c1, c2, e, h1, h2⟩ => by subst e; rw [List.all_append, a.ones h1, b.ones h2]; rfl
def via {α β : Type} (t : Ty α) (f : β → α) : Ty β where
  sz := t.sz
  rel R x cs := t.rel R (f x) cs
  mono := t.mono
  len := t.len
  ones := t.ones
end Ty

section
variable {α : Type}

/-- A list of data, one behind the other. -/
inductive Encs (t : Ty α) (R : Hp) : List α → List Value → Prop
  | nil : Encs t R [] []
  | cons {x c xs cs} : t.rel R x c → Encs t R xs cs → Encs t R (x :: xs) (c ++ cs)

theorem Encs.mono {t : Ty α} {R R' : Hp} {xs : List α} {cs : List Value} (h : Encs t R xs cs) (l : Le R R') : Encs t R' xs cs := by
  induction h with
  | nil => exact .nil
  | cons hx _ ih => exact .cons (t.mono l hx) ih
theorem Encs.len {t : Ty α} {R : Hp} {xs : List α} {cs : List Value} (h : Encs t R xs cs) : cs.length = xs.length * t.sz := by
  induction h with
  | nil => simp
  | cons hx _ ih => rw [List.length_append, t.len hx, ih, List.length_cons, Nat.add_mul, Nat.one_mul, Nat.add_comm]
theorem Encs.ones {t : Ty α} {R : Hp} {xs : List α} {cs : List Value} (h : Encs t R xs cs) : cs.all (·.oneCell') = true := by
  induction h with
  | nil => rfl
  | cons hx _ ih => rw [List.all_append, t.ones hx, ih]; rfl
theorem Encs.append {t : Ty α} {R : Hp} {xs ys : List α} {cs ds : List Value} (h : Encs t R xs cs) (k : Encs t R ys ds) : Encs t R (xs ++ ys) (cs ++ ds) := by
  induction h with
  | nil => exact k
  | cons hx _ ih => rw [List.append_assoc]; exact .cons hx ih
theorem Encs.one {t : Ty α} {R : Hp} {x : α} {c : List Value} (h : t.rel R x c) : Encs t R [x] c := by
  have := Encs.cons (t := t) h .nil
  simpa using this
theorem Encs.get {t : Ty α} {R : Hp} {xs : List α} {cs : List Value} (h : Encs t R xs cs) (i : Nat) (hi : i < xs.length) : t.rel R xs[i] ((cs.drop (i * t.sz)).take t.sz) := by
  induction h generalizing i with
  | nil => simp at hi
  | @cons x c xs cs hx _ ih =>
    cases i with
    | zero => simp only [Nat.zero_mul, List.drop_zero, List.getElem_cons_zero]; rw [← t.len hx, List.take_left]; exact hx
    | succ i =>
      have e : (i + 1) * t.sz = c.length + i * t.sz := by rw [t.len hx, Nat.add_mul, Nat.one_mul, Nat.add_comm]
      rw [e, List.drop_append, List.drop_eq_nil_of_le (by omega), List.nil_append, Nat.add_sub_cancel_left]
      exact ih i (by simpa using hi)
theorem Encs.set {t : Ty α} {R : Hp} {xs : List α} {cs : List Value} (h : Encs t R xs cs) (i : Nat) (hi : i < xs.length) {y : α} {c : List Value} (hy : t.rel R y c) :
    Encs t R (xs.set i y) (cs.take (i * t.sz) ++ c ++ cs.drop (i * t.sz + t.sz)) := by
  induction h generalizing i with
  | nil => simp at hi
  | @cons x d xs cs hx hr ih =>
    cases i with
    | zero =>
      simp only [Nat.zero_mul, List.take_zero, List.nil_append, Nat.zero_add, List.set_cons_zero]
      rw [← t.len hx, List.drop_left]
      exact .cons hy hr
    | succ i =>
      have e : (i + 1) * t.sz = d.length + i * t.sz := by rw [t.len hx, Nat.add_mul, Nat.one_mul, Nat.add_comm]
      rw [e, List.take_append, List.take_of_length_le (by omega), Nat.add_sub_cancel_left, List.set_cons_succ, Nat.add_assoc, List.drop_append, List.drop_eq_nil_of_le (by omega), List.nil_append, Nat.add_sub_cancel_left, List.append_assoc, List.append_assoc]
      refine .cons hx ?_
      rw [← List.append_assoc]
      exact ih i (by simpa using hi)
theorem Encs.take {t : Ty α} {R : Hp} {xs : List α} {cs : List Value} (h : Encs t R xs cs) (i : Nat) : Encs t R (xs.take i) (cs.take (i * t.sz)) := by
  induction h generalizing i with
  | nil => simpa using Encs.nil
  | @cons x c xs cs hx _ ih =>
    cases i with
    | zero => simpa using Encs.nil
    | succ i =>
      have e : (i + 1) * t.sz = c.length + i * t.sz := by rw [t.len hx, Nat.add_mul, Nat.one_mul, Nat.add_comm]
      have e2 : (c ++ cs).take ((i + 1) * t.sz) = c ++ cs.take (i * t.sz) := by
        rw [e, List.take_append, List.take_of_length_le (by omega), Nat.add_sub_cancel_left]
      rw [e2, List.take_succ_cons]
      exact .cons hx (ih i)
theorem Encs.drop {t : Ty α} {R : Hp} {xs : List α} {cs : List Value} (h : Encs t R xs cs) (i : Nat) : Encs t R (xs.drop i) (cs.drop (i * t.sz)) := by
  induction h generalizing i with
  | nil => simpa using Encs.nil
  | @cons x c xs cs hx hr ih =>
    cases i with
    | zero => simpa using Encs.cons hx hr
    | succ i =>
      have e : (i + 1) * t.sz = c.length + i * t.sz := by rw [t.len hx, Nat.add_mul, Nat.one_mul, Nat.add_comm]
      have e2 : (c ++ cs).drop ((i + 1) * t.sz) = cs.drop (i * t.sz) := by
        rw [e, List.drop_append, List.drop_eq_nil_of_le (by omega), List.nil_append, Nat.add_sub_cancel_left]
      rw [e2, List.drop_succ_cons]
      exact ih i

/-- v is a slice that reads as xs, from now on. -/
def RdS (t : Ty α) (R : Hp) (v : Value) (xs : List α) : Prop :=
  ∃ a cap, v = .slice a xs.length cap ∧ xs.length ≤ cap ∧
    (xs ≠ [] → ∃ b off cs T fz, a = some ⟨b, off, none⟩ ∧ R b = some (.cells cs T fz) ∧ Encs t R xs (seg cs off (xs.length * t.sz)))

theorem RdS.mono {t : Ty α} {R R' : Hp} {v : Value} {xs : List α} (h : RdS t R v xs) (l : Le R R') : RdS t R' v xs := by
  obtain ⟨a, cap, e, hc, h⟩ := h
  refine ⟨a, cap, e, hc, fun hne => ?_⟩
  obtain ⟨b, off, cs, T, fz, ha, hb, he⟩ := h hne
  exact ⟨b, off, cs, T, fz, ha, l _ _ hb, he.mono l⟩

theorem RdS.empty (t : Ty α) (R : Hp) : RdS t R (.slice none 0 0) [] := ⟨_, _, rfl, by simp, fun h => absurd rfl h⟩

/-- A slice in a cell. -/
def Ty.slice (t : Ty α) : Ty (List α) where
  sz := 1
  rel R xs cs := ∃ v, cs = [v] ∧ RdS t R v xs
  mono l := fun ⟨v, e, h⟩ => ⟨v, e, h.mono l⟩
  len := fun ⟨v, e, _⟩ => by subst e; rfl
  ones := fun ⟨v, e, _, _, ev, _⟩ => by subst e; subst ev; rfl

/-- v is a slice of one's own that reads as xs. -/
def OwnL (t : Ty α) (T : Nat) (R : Hp) (v : Value) (xs : List α) (c : Hp) : Prop := ∃ cells, OwnS T t.sz v xs.length cells c ∧ Encs t R xs cells

theorem OwnL.empty (t : Ty α) (T : Nat) (R : Hp) : OwnL t T R (.slice none 0 0) [] non := ⟨[], OwnS.empty _ _, .nil⟩
theorem OwnL.mono {t : Ty α} {T : Nat} {R R' : Hp} {v : Value} {xs : List α} {c : Hp} (h : OwnL t T R v xs c) (l : Le R R') : OwnL t T R' v xs c := by
  obtain ⟨cells, h1, h2⟩ := h
  exact ⟨cells, h1, h2.mono l⟩

/-- What is owned no more may be read for ever. -/
theorem OwnL.freeze {t : Ty α} {T : Nat} {R R' : Hp} {v : Value} {xs : List α} {c : Hp} (h : OwnL t T R v xs c) (l : Le R R') (k : Le c R') : RdS t R' v xs := by
  obtain ⟨cells, h1, h2⟩ := h
  rcases h1 with ⟨rfl, hn, rfl, rfl⟩ | ⟨b, cap, cs, rfl, rfl, rfl, hc, hs⟩
  · have hx : xs = [] := List.eq_nil_of_length_eq_zero hn
    subst hx
    exact RdS.empty _ _
  · refine ⟨_, cap, rfl, hc, fun _ => ⟨b, 0, cs, T, (0, 0), rfl, k b _ (one_self _ _), ?_⟩⟩
    have : seg cs 0 (xs.length * t.sz) = cs.toList.take (xs.length * t.sz) := by simp [seg]
    rw [this]
    exact h2.mono l

theorem OwnL.value {t : Ty α} {T : Nat} {R : Hp} {v : Value} {xs : List α} {c : Hp} (h : OwnL t T R v xs c) : ∃ a cap, v = .slice a xs.length cap ∧ xs.length ≤ cap := by
  obtain ⟨cells, h1, h2⟩ := h
  rcases h1 with ⟨rfl, hn, rfl, rfl⟩ | ⟨b, cap, cs, rfl, rfl, rfl, hc, hs⟩
  · exact ⟨_, _, by rw [hn], by omega⟩
  · exact ⟨_, _, rfl, hc⟩

end
end Go.Fx
