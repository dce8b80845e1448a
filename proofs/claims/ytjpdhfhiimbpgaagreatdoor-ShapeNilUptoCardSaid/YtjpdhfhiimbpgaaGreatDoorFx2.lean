/-
  The heap in pieces: R is what is only read from now on, L lists the pieces that are owned. 'Step' tells how a world has come out of another one.
-/
import Derived.Test.YtjpdhfhiimbpgaaGreatDoorFx1
import Derived.Laws.Cells
import Derived.Laws.CopyRow
import Derived.Below
set_option linter.unusedSimpArgs false
set_option linter.unusedVariables false
namespace Go.Fx
open Go

abbrev Hp := Nat → Option Obj
def hp (w : World) : Hp := fun b => w.heap[b]?
def Le (A B : Hp) : Prop := ∀ b o, A b = some o → B b = some o
def Dj (A B : Hp) : Prop := ∀ b, A b = none ∨ B b = none
def one (b : Nat) (o : Obj) : Hp := fun i => cond (Nat.beq i b) (some o) none
def non : Hp := fun _ => none
def uni (A B : Hp) : Hp := fun b => (A b).or (B b)

theorem Le.refl (A : Hp) : Le A A := fun _ _ h => h
theorem Le.trans {A B C : Hp} (h : Le A B) (k : Le B C) : Le A C := fun b o e => k b o (h b o e)
theorem Le.non (A : Hp) : Le non A := fun _ _ e => by simp [Fx.non] at e
theorem one_self (b : Nat) (o : Obj) : one b o b = some o := by simp [one]
theorem one_ne {b i : Nat} (o : Obj) (h : i ≠ b) : one b o i = none := by
  have : Nat.beq i b = false := by cases e : Nat.beq i b with
    | false => rfl
    | true => exact absurd (Nat.eq_of_beq_eq_true e) h
  simp [one, this]
theorem one_some {b i : Nat} {o o' : Obj} (h : one b o i = some o') : i = b ∧ o' = o := by
  by_cases e : i = b
  · subst e; rw [one_self] at h; exact ⟨rfl, (Option.some.inj h).symm⟩
  · rw [one_ne o e] at h; cases h
theorem le_one {A : Hp} {b : Nat} {o : Obj} (h : A b = some o) : Le (one b o) A := fun i o' e => by obtain ⟨rfl, rfl⟩ := one_some e; exact h
theorem uni_l (A B : Hp) : Le A (uni A B) := fun b o e => by simp [uni, e]
theorem uni_r {A B : Hp} (h : Dj A B) : Le B (uni A B) := fun b o e => by
  rcases h b with h | h
  · simp [uni, h, e]
  · rw [h] at e; cases e
theorem uni_none {A B : Hp} {b : Nat} : uni A B b = none ↔ A b = none ∧ B b = none := by
  simp only [uni]
  cases A b <;> simp
theorem uni_le {A B C : Hp} (h : Le A C) (k : Le B C) : Le (uni A B) C := fun b o e => by
  simp only [uni] at e
  cases ha : A b with
  | some x => rw [ha] at e; simp at e; subst e; exact h b _ ha
  | none => rw [ha] at e; simp at e; exact k b o e
theorem Dj.symm {A B : Hp} (h : Dj A B) : Dj B A := fun b => (h b).symm
theorem Dj.of_lt {A B : Hp} {n : Nat} (h : ∀ b, A b ≠ none → b < n) (k : ∀ b, B b ≠ none → n ≤ b) : Dj A B := fun b => by
  by_cases e : A b = none
  · exact .inl e
  · by_cases e' : B b = none
    · exact .inr e'
    · have := h b e; have := k b e'; omega

theorem hp_lt {w : World} {b : Nat} (h : hp w b ≠ none) : b < w.heap.size := by
  rcases Nat.lt_or_ge b w.heap.size with h' | h'
  · exact h'
  · exact absurd (Array.getElem?_eq_none h') h
theorem le_lt {A : Hp} {w : World} (h : Le A (hp w)) {b : Nat} (k : A b ≠ none) : b < w.heap.size := by
  cases e : A b with
  | none => exact absurd e k
  | some o => exact hp_lt (by rw [h b o e]; simp)

structure Sats (w : World) (R : Hp) (L : List Hp) : Prop where
  r : Le R (hp w)
  l : ∀ c ∈ L, Le c (hp w)
  dj : L.Pairwise Dj
  rd : ∀ c ∈ L, Dj R c

/-- Nothing that was there has turned. -/
structure Grow (w w' : World) : Prop where
  os : w'.os = w.os
  tape : w'.tape = w.tape
  output : w'.output = w.output
  size : w.heap.size ≤ w'.heap.size
  keep : ∀ b, b < w.heap.size → hp w' b = hp w b

theorem Grow.refl (w : World) : Grow w w := ⟨rfl, rfl, rfl, Nat.le_refl _, fun _ _ => rfl⟩
theorem Grow.trans {a b c : World} (h : Grow a b) (k : Grow b c) : Grow a c :=
  ⟨k.os.trans h.os, k.tape.trans h.tape, k.output.trans h.output, Nat.le_trans h.size k.size, fun i hi => (k.keep i (Nat.lt_of_lt_of_le hi h.size)).trans (h.keep i hi)⟩
theorem Grow.le {w w' : World} (h : Grow w w') : Le (hp w) (hp w') := fun b o e => by
  rw [h.keep b (hp_lt (by rw [e]; simp))]; exact e

structure Step (w0 : World) (R0 : Hp) (L0 : List Hp) (w : World) (R : Hp) (L : List Hp) : Prop where
  sats : Sats w R L
  rle : Le R0 R
  os : w.os = w0.os
  tape : w.tape = w0.tape
  output : w.output = w0.output
  size : w0.heap.size ≤ w.heap.size
  keep : ∀ b, b < w0.heap.size → (∀ c ∈ L0, c b = none) → hp w b = hp w0 b
  newR : ∀ b, R b ≠ none → w0.heap.size ≤ b ∨ R0 b ≠ none ∨ ∃ c ∈ L0, c b ≠ none
  newL : ∀ c ∈ L, ∀ b, c b ≠ none → w0.heap.size ≤ b ∨ R0 b ≠ none ∨ ∃ c ∈ L0, c b ≠ none

section
variable {w0 w w1 : World} {R0 R R1 : Hp} {L0 L La Lb L1 : List Hp} {c : Hp}

theorem Step.refl (h : Sats w R L) : Step w R L w R L :=
  ⟨h, Le.refl _, rfl, rfl, rfl, Nat.le_refl _, fun _ _ _ => rfl, fun _ h => .inr (.inl h), fun c hc _ h => .inr (.inr ⟨c, hc, h⟩)⟩

theorem Step.rle' (h : Step w0 R0 L0 w R L) : Le R (hp w) := h.sats.r

theorem Step.grow (h : Step w0 R0 [] w R L) : Grow w0 w :=
  ⟨h.os, h.tape, h.output, h.size, fun b hb => h.keep b hb (by simp)⟩

/-- What was owned in part goes through a call, the rest stays. -/
theorem Step.call (h : Step w0 R0 L0 w R (La ++ Lb)) (k : Step w R La w1 R1 L1) : Step w0 R0 L0 w1 R1 (L1 ++ Lb) := by
  have hs := h.sats
  have hdj := List.pairwise_append.1 hs.dj
  have frame : ∀ c ∈ Lb, ∀ b, c b ≠ none → ¬ (w.heap.size ≤ b ∨ R b ≠ none ∨ ∃ c ∈ La, c b ≠ none) := by
    intro c hc b hb
    rintro (h1 | h1 | ⟨c', hc', h1⟩)
    · exact absurd (le_lt (hs.l c (by simp [hc])) hb) (by omega)
    · rcases hs.rd c (by simp [hc]) b with e | e
      · exact h1 e
      · exact hb e
    · rcases hdj.2.2 c' hc' c hc b with e | e
      · exact h1 e
      · exact hb e
  have keepb : ∀ c ∈ Lb, Le c (hp w1) := by
    intro c hc b o e
    have hw := hs.l c (by simp [hc]) b o e
    rw [k.keep b (hp_lt (by rw [hw]; simp)) (fun c' hc' => ?_)]
    · exact hw
    · rcases hdj.2.2 c' hc' c hc b with e' | e'
      · exact e'
      · rw [e] at e'; cases e'
  refine ⟨⟨k.sats.r, ?_, ?_, ?_⟩, h.rle.trans k.rle, k.os.trans h.os, k.tape.trans h.tape, k.output.trans h.output, Nat.le_trans h.size k.size, ?_, ?_, ?_⟩
  · intro c hc
    rcases List.mem_append.1 hc with hc | hc
    · exact k.sats.l c hc
    · exact keepb c hc
  · refine List.pairwise_append.2 ⟨k.sats.dj, hdj.2.1, fun c hc c' hc' b => ?_⟩
    by_cases e : c b = none
    · exact .inl e
    · by_cases e' : c' b = none
      · exact .inr e'
      · exact absurd (k.newL c hc b e) (frame c' hc' b e')
  · intro c hc
    rcases List.mem_append.1 hc with hc | hc
    · exact k.sats.rd c hc
    · intro b
      by_cases e : R1 b = none
      · exact .inl e
      · by_cases e' : c b = none
        · exact .inr e'
        · exact absurd (k.newR b e) (frame c hc b e')
  · intro b hb hn
    rw [k.keep b (Nat.lt_of_lt_of_le hb h.size) ?_]
    · exact h.keep b hb hn
    · intro c hc
      by_cases e : c b = none
      · exact e
      · rcases h.newL c (by simp [hc]) b e with h1 | h1 | ⟨c', hc', h1⟩
        · omega
        · rcases hs.rd c (by simp [hc]) b with e' | e'
          · cases eR : R0 b with
            | none => exact absurd eR h1
            | some o => rw [h.rle b o eR] at e'; cases e'
          · exact e'
        · exact absurd (hn c' hc') h1
  · intro b hb
    rcases k.newR b hb with h1 | h1 | ⟨c, hc, h1⟩
    · exact .inl (Nat.le_trans h.size h1)
    · exact h.newR b h1
    · exact h.newL c (by simp [hc]) b h1
  · intro c hc b hb
    rcases List.mem_append.1 hc with hc | hc
    · rcases k.newL c hc b hb with h1 | h1 | ⟨c', hc', h1⟩
      · exact .inl (Nat.le_trans h.size h1)
      · exact h.newR b h1
      · exact h.newL c' (by simp [hc']) b h1
    · exact h.newL c (by simp [hc]) b hb

theorem Step.perm (h : Step w0 R0 L0 w R L) (p : L.Perm L1) : Step w0 R0 L0 w R L1 := by
  have hs := h.sats
  refine ⟨⟨hs.r, fun c hc => hs.l c (p.mem_iff.2 hc), ?_, fun c hc => hs.rd c (p.mem_iff.2 hc)⟩, h.rle, h.os, h.tape, h.output, h.size, h.keep, h.newR, fun c hc => h.newL c (p.mem_iff.2 hc)⟩
  exact (p.pairwise_iff (fun h => Dj.symm h)).1 hs.dj

theorem perm_front {α : Type} : ∀ (L : List α) (i : Nat) (c : α), L[i]? = some c → (c :: L.eraseIdx i).Perm L
  | [], _, _, h => by simp at h
  | a :: L, 0, c, h => by simp at h; subst h; simp
  | a :: L, i + 1, c, h => by
    simp only [List.getElem?_cons_succ] at h
    simp only [List.eraseIdx_cons_succ]
    exact (List.Perm.swap a c _).trans ((perm_front L i c h).cons a)

/-- The piece number i comes to the front. -/
theorem Step.front (h : Step w0 R0 L0 w R L) (i : Nat) {c : Hp} {L' : List Hp} (hi : L[i]? = some c) (he : L.eraseIdx i = L') : Step w0 R0 L0 w R (c :: L') := by
  subst he
  exact h.perm (perm_front L i c hi).symm

theorem Step.drop (h : Step w0 R0 L0 w R (c :: L)) : Step w0 R0 L0 w R L := by
  have hs := h.sats
  exact ⟨⟨hs.r, fun c hc => hs.l c (by simp [hc]), (List.pairwise_cons.1 hs.dj).2, fun c hc => hs.rd c (by simp [hc])⟩, h.rle, h.os, h.tape, h.output, h.size, h.keep, h.newR, fun c hc => h.newL c (by simp [hc])⟩

/-- What is owned is only read from now on. -/
theorem Step.freeze (h : Step w0 R0 L0 w R (c :: L)) : Step w0 R0 L0 w (uni R c) L := by
  have hs := h.sats
  have hp := List.pairwise_cons.1 hs.dj
  refine ⟨⟨uni_le hs.r (hs.l c (by simp)), fun c hc => hs.l c (by simp [hc]), hp.2, ?_⟩, h.rle.trans (uni_l _ _), h.os, h.tape, h.output, h.size, h.keep, ?_, fun c hc => h.newL c (by simp [hc])⟩
  · intro d hd b
    rcases hs.rd d (by simp [hd]) b with e | e
    · rcases hp.1 d hd b with e' | e'
      · exact .inl (uni_none.2 ⟨e, e'⟩)
      · exact .inr e'
    · exact .inr e
  · intro b hb
    by_cases e : R b = none
    · exact h.newL c (by simp) b (fun e' => hb (uni_none.2 ⟨e, e'⟩))
    · exact h.newR b e

theorem Step.get (h : Step w0 R0 L0 w R L) {i : Nat} {c : Hp} (hi : L[i]? = some c) : Le c (hp w) :=
  h.sats.l c (List.mem_of_getElem? hi)

theorem Step.g (h : Step w0 R0 L0 w R L) (i : Nat) {c : Hp} (hi : L[i]? = some c := by rfl) : Le c (hp w) := h.get hi
theorem Step.a1 {c0 : Hp} (h : Step w0 R0 L0 w R [c0]) : Le R (hp w) ∧ Le c0 (hp w) := ⟨h.sats.r, h.get (i := 0) rfl⟩
theorem Step.a2 {c0 c1 : Hp} (h : Step w0 R0 L0 w R [c0, c1]) : Le R (hp w) ∧ Le c0 (hp w) ∧ Le c1 (hp w) := ⟨h.sats.r, h.get (i := 0) rfl, h.get (i := 1) rfl⟩
theorem Step.a3 {c0 c1 c2 : Hp} (h : Step w0 R0 L0 w R [c0, c1, c2]) : Le R (hp w) ∧ Le c0 (hp w) ∧ Le c1 (hp w) ∧ Le c2 (hp w) := ⟨h.sats.r, h.get (i := 0) rfl, h.get (i := 1) rfl, h.get (i := 2) rfl⟩
theorem Step.a4 {c0 c1 c2 c3 : Hp} (h : Step w0 R0 L0 w R [c0, c1, c2, c3]) : Le R (hp w) ∧ Le c0 (hp w) ∧ Le c1 (hp w) ∧ Le c2 (hp w) ∧ Le c3 (hp w) := ⟨h.sats.r, h.get (i := 0) rfl, h.get (i := 1) rfl, h.get (i := 2) rfl, h.get (i := 3) rfl⟩
theorem Step.a5 {c0 c1 c2 c3 c4 : Hp} (h : Step w0 R0 L0 w R [c0, c1, c2, c3, c4]) : Le R (hp w) ∧ Le c0 (hp w) ∧ Le c1 (hp w) ∧ Le c2 (hp w) ∧ Le c3 (hp w) ∧ Le c4 (hp w) := ⟨h.sats.r, h.get (i := 0) rfl, h.get (i := 1) rfl, h.get (i := 2) rfl, h.get (i := 3) rfl, h.get (i := 4) rfl⟩
theorem Step.a6 {c0 c1 c2 c3 c4 c5 : Hp} (h : Step w0 R0 L0 w R [c0, c1, c2, c3, c4, c5]) : Le R (hp w) ∧ Le c0 (hp w) ∧ Le c1 (hp w) ∧ Le c2 (hp w) ∧ Le c3 (hp w) ∧ Le c4 (hp w) ∧ Le c5 (hp w) := ⟨h.sats.r, h.get (i := 0) rfl, h.get (i := 1) rfl, h.get (i := 2) rfl, h.get (i := 3) rfl, h.get (i := 4) rfl, h.get (i := 5) rfl⟩
theorem Step.a7 {c0 c1 c2 c3 c4 c5 c6 : Hp} (h : Step w0 R0 L0 w R [c0, c1, c2, c3, c4, c5, c6]) : Le R (hp w) ∧ Le c0 (hp w) ∧ Le c1 (hp w) ∧ Le c2 (hp w) ∧ Le c3 (hp w) ∧ Le c4 (hp w) ∧ Le c5 (hp w) ∧ Le c6 (hp w) := ⟨h.sats.r, h.get (i := 0) rfl, h.get (i := 1) rfl, h.get (i := 2) rfl, h.get (i := 3) rfl, h.get (i := 4) rfl, h.get (i := 5) rfl, h.get (i := 6) rfl⟩
theorem Step.a8 {c0 c1 c2 c3 c4 c5 c6 c7 : Hp} (h : Step w0 R0 L0 w R [c0, c1, c2, c3, c4, c5, c6, c7]) : Le R (hp w) ∧ Le c0 (hp w) ∧ Le c1 (hp w) ∧ Le c2 (hp w) ∧ Le c3 (hp w) ∧ Le c4 (hp w) ∧ Le c5 (hp w) ∧ Le c6 (hp w) ∧ Le c7 (hp w) := ⟨h.sats.r, h.get (i := 0) rfl, h.get (i := 1) rfl, h.get (i := 2) rfl, h.get (i := 3) rfl, h.get (i := 4) rfl, h.get (i := 5) rfl, h.get (i := 6) rfl, h.get (i := 7) rfl⟩
theorem Step.a9 {c0 c1 c2 c3 c4 c5 c6 c7 c8 : Hp} (h : Step w0 R0 L0 w R [c0, c1, c2, c3, c4, c5, c6, c7, c8]) : Le R (hp w) ∧ Le c0 (hp w) ∧ Le c1 (hp w) ∧ Le c2 (hp w) ∧ Le c3 (hp w) ∧ Le c4 (hp w) ∧ Le c5 (hp w) ∧ Le c6 (hp w) ∧ Le c7 (hp w) ∧ Le c8 (hp w) := ⟨h.sats.r, h.get (i := 0) rfl, h.get (i := 1) rfl, h.get (i := 2) rfl, h.get (i := 3) rfl, h.get (i := 4) rfl, h.get (i := 5) rfl, h.get (i := 6) rfl, h.get (i := 7) rfl, h.get (i := 8) rfl⟩

theorem Step.blk (h : Step w0 R0 L0 w R L) {i b : Nat} {o : Obj} (hi : L[i]? = some (one b o)) : w.heap[b]? = some o :=
  h.get hi b o (one_self b o)
theorem Step.b (h : Step w0 R0 L0 w R L) (i : Nat) {b : Nat} {o : Obj} (hi : L[i]? = some (one b o) := by rfl) : w.heap[b]? = some o := h.blk hi

/-- The world may be another one that reads the same. -/
theorem Step.same (h : Step w0 R0 L0 w R L) (e1 : w1.os = w.os) (e2 : w1.tape = w.tape) (e3 : w1.output = w.output) (e4 : w1.heap = w.heap) : Step w0 R0 L0 w1 R L := by
  have hh : hp w1 = hp w := by unfold hp; rw [e4]
  have hs := h.sats
  exact ⟨⟨by rw [hh]; exact hs.r, by rw [hh]; exact hs.l, hs.dj, hs.rd⟩, h.rle, e1.trans h.os, e2.trans h.tape, e3.trans h.output, by rw [e4]; exact h.size, by rw [hh]; exact h.keep, h.newR, h.newL⟩

/-- New memory, of which a part is owned. -/
theorem Step.grown (h : Step w0 R0 L0 w R L) (g : Grow w w1) : Step w0 R0 L0 w1 R L := by
  have hs := h.sats
  refine ⟨⟨hs.r.trans g.le, fun c hc => (hs.l c hc).trans g.le, hs.dj, hs.rd⟩, h.rle, g.os.trans h.os, g.tape.trans h.tape, g.output.trans h.output, Nat.le_trans h.size g.size, fun b hb hn => ?_, h.newR, h.newL⟩
  rw [g.keep b (Nat.lt_of_lt_of_le hb h.size)]
  exact h.keep b hb hn

theorem Step.own (h : Step w0 R0 L0 w R L) (g : Grow w w1) (hc : Le c (hp w1)) (hn : ∀ b, c b ≠ none → w.heap.size ≤ b) : Step w0 R0 L0 w1 R (c :: L) := by
  have k := h.grown g
  have hs := h.sats
  refine ⟨⟨k.sats.r, ?_, ?_, ?_⟩, k.rle, k.os, k.tape, k.output, k.size, k.keep, k.newR, ?_⟩
  · intro d hd
    rcases List.mem_cons.1 hd with rfl | hd
    · exact hc
    · exact k.sats.l d hd
  · refine List.pairwise_cons.2 ⟨fun d hd => (Dj.of_lt (fun b hb => le_lt (hs.l d hd) hb) hn).symm, hs.dj⟩
  · intro d hd
    rcases List.mem_cons.1 hd with rfl | hd
    · exact Dj.of_lt (fun b hb => le_lt hs.r hb) hn
    · exact hs.rd d hd
  · intro d hd b hb
    rcases List.mem_cons.1 hd with rfl | hd
    · exact .inl (Nat.le_trans h.size (hn b hb))
    · exact h.newL d hd b hb

/-- Read-only memory that is new. -/
theorem Step.learn (h : Step w0 R0 L0 w R L) (g : Grow w w1) (hc : Le c (hp w1)) (hn : ∀ b, c b ≠ none → w.heap.size ≤ b) : Step w0 R0 L0 w1 (uni R c) L :=
  (h.own g hc hn).freeze

end

/-! ### Steps of a world -/

def push (w : World) (o : Obj) : World := { w with heap := w.heap.push o }
def setB (w : World) (b : Nat) (o : Obj) : World := { w with heap := w.heap.setIfInBounds b o }
def draws (w : World) (k : Nat) : World := { w with drawn := k }

theorem hp_push_old {w : World} {o : Obj} {b : Nat} (h : b < w.heap.size) : hp (push w o) b = hp w b := by
  show (w.heap.push o)[b]? = w.heap[b]?
  rw [Array.getElem?_push, if_neg (Nat.ne_of_lt h)]
theorem hp_push_new (w : World) (o : Obj) : hp (push w o) w.heap.size = some o := by
  show (w.heap.push o)[w.heap.size]? = some o
  rw [Array.getElem?_push, if_pos rfl]
theorem grow_push (w : World) (o : Obj) : Grow w (push w o) :=
  ⟨rfl, rfl, rfl, (by show w.heap.size ≤ (w.heap.push o).size; rw [Array.size_push]; omega), fun _ h => hp_push_old h⟩
theorem grow_draws (w : World) (k : Nat) : Grow w (draws w k) := ⟨rfl, rfl, rfl, Nat.le_refl _, fun _ _ => rfl⟩

section
variable {w0 w w1 : World} {R0 R : Hp} {L0 L : List Hp} {c : Hp}

theorem Step.push (h : Step w0 R0 L0 w R L) (o : Obj) : Step w0 R0 L0 (push w o) R (one w.heap.size o :: L) :=
  h.own (grow_push w o) (le_one (hp_push_new w o)) (fun b hb => by
    by_cases e : b = w.heap.size
    · omega
    · exact absurd (one_ne o e) hb)

theorem Step.draws (h : Step w0 R0 L0 w R L) (k : Nat) : Step w0 R0 L0 (draws w k) R L := h.same rfl rfl rfl rfl

theorem hp_setB {w : World} {b : Nat} {o : Obj} (h : b < w.heap.size) : hp (setB w b o) b = some o := by simp [hp, setB, h]
theorem hp_setB_ne {w : World} {b i : Nat} {o : Obj} (h : i ≠ b) : hp (setB w b o) i = hp w i := by
  simp [hp, setB, Ne.symm h]

/-- An owned block is written. -/
theorem Step.set0 {b : Nat} {o : Obj} (h : Step w0 R0 L0 w R (one b o :: L)) (o' : Obj) : Step w0 R0 L0 (setB w b o') R (one b o' :: L) := by
  have hs := h.sats
  have hb : hp w b = some o := hs.l _ (by simp) b o (one_self b o)
  have hlt : b < w.heap.size := hp_lt (by rw [hb]; simp)
  have hp' := List.pairwise_cons.1 hs.dj
  have ne : ∀ {A : Hp}, Dj A (one b o) → ∀ i, A i ≠ none → i ≠ b := by
    intro A hA i hi e
    subst e
    rcases hA i with e | e
    · exact hi e
    · rw [one_self] at e; cases e
  have le : ∀ {A : Hp}, Dj A (one b o) → Le A (hp w) → Le A (hp (setB w b o')) := fun hA hl i x e => by
    rw [hp_setB_ne (ne hA i (by rw [e]; simp))]; exact hl i x e
  have dj : ∀ {A : Hp}, Dj A (one b o) → Dj A (one b o') := fun {A} hA i => by
    by_cases e : A i = none
    · exact .inl e
    · exact .inr (one_ne o' (ne hA i e))
  refine ⟨⟨le (hs.rd _ (by simp)) hs.r, ?_, ?_, ?_⟩, h.rle, h.os, h.tape, h.output, by simpa [setB] using h.size, ?_, h.newR, ?_⟩
  · intro d hd
    rcases List.mem_cons.1 hd with rfl | hd
    · exact le_one (hp_setB hlt)
    · exact le (hp'.1 d hd).symm (hs.l d (by simp [hd]))
  · exact List.pairwise_cons.2 ⟨fun d hd => (dj (hp'.1 d hd).symm).symm, hp'.2⟩
  · intro d hd
    rcases List.mem_cons.1 hd with rfl | hd
    · exact dj (hs.rd _ (by simp))
    · exact hs.rd d (by simp [hd])
  · intro i hi hn
    have : i ≠ b := by
      rintro rfl
      rcases h.newL _ (List.mem_cons_self ..) i (by rw [one_self]; simp) with h1 | h1 | ⟨c', hc', h1⟩
      · omega
      · rcases hs.rd _ (List.mem_cons_self ..) i with e | e
        · cases eR : R0 i with
          | none => exact h1 eR
          | some x => rw [h.rle i x eR] at e; cases e
        · rw [one_self] at e; cases e
      · exact h1 (hn c' hc')
    rw [hp_setB_ne this]
    exact h.keep i hi hn
  · intro d hd i hi
    rcases List.mem_cons.1 hd with rfl | hd
    · by_cases e : i = b
      · subst e; exact h.newL _ (List.mem_cons_self ..) i (by rw [one_self]; simp)
      · exact absurd (one_ne o' e) hi
    · exact h.newL d (by simp [hd]) i hi

theorem perm_set {α : Type} : ∀ (L : List α) (i : Nat) (x : α), i < L.length → (x :: L.eraseIdx i).Perm (L.set i x)
  | _ :: _, 0, _, _ => by simp
  | a :: L, i + 1, x, h => by
    simp only [List.eraseIdx_cons_succ, List.set_cons_succ]
    exact (List.Perm.swap a x _).trans ((perm_set L i x (by simpa using h)).cons a)

theorem Step.set {i b : Nat} {o : Obj} (h : Step w0 R0 L0 w R L) (hi : L[i]? = some (one b o)) (o' : Obj) {L' : List Hp} (he : L.set i (one b o') = L') : Step w0 R0 L0 (setB w b o') R L' := by
  subst he
  have hlt := (List.getElem?_eq_some_iff.1 hi).1
  exact ((h.front i hi rfl).set0 o').perm (perm_set L i _ hlt)

/-- What the whole has done, seen from a list of pieces of which nothing is owned: nothing that was there has turned. -/
theorem Grow.below {w w' : World} (h : Grow w w') : RowKit.Below w.heap.size w w' := ⟨h.os, h.tape, h.output, h.size, fun b hb => h.keep b hb⟩
theorem Grow.of_below {w w' : World} (h : RowKit.Below w.heap.size w w') : Grow w w' := ⟨h.os, h.tape, h.output, h.size, fun b hb => h.block b hb⟩

end
end Go.Fx
