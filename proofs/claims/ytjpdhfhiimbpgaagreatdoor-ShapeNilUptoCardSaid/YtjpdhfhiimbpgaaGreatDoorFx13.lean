/-
  Pieces put together and taken apart.
-/
import Derived.Test.YtjpdhfhiimbpgaaGreatDoorFx12
set_option linter.unusedSimpArgs false
set_option linter.unusedVariables false
set_option linter.unusedSectionVars false
namespace Go.Fx
open Go

section
variable {w w0 : World} {R0 R : Hp} {L0 Lr : List Hp} {a b : Hp}

theorem uni_some {A B : Hp} {i : Nat} {o : Obj} (h : uni A B i = some o) : A i = some o ∨ B i = some o := by
  simp only [uni] at h
  cases e : A i with
  | some x => rw [e] at h; exact .inl h
  | none => rw [e] at h; exact .inr h
theorem uni_ne {A B : Hp} {i : Nat} (h : uni A B i ≠ none) : A i ≠ none ∨ B i ≠ none := by
  by_cases e : A i = none
  · exact .inr fun e' => h (uni_none.2 ⟨e, e'⟩)
  · exact .inl e
theorem Dj.uni_left {A B C : Hp} (h : Dj A C) (k : Dj B C) : Dj (uni A B) C := fun i => by
  rcases h i with e | e
  · rcases k i with e' | e'
    · exact .inl (uni_none.2 ⟨e, e'⟩)
    · exact .inr e'
  · exact .inr e
theorem Dj.of_uni_left {A B C : Hp} (h : Dj (uni A B) C) : Dj A C ∧ Dj B C :=
  ⟨fun i => (h i).imp (fun e => (uni_none.1 e).1) id, fun i => (h i).imp (fun e => (uni_none.1 e).2) id⟩

theorem Step.split (h : Step w0 R0 L0 w R (uni a b :: Lr)) (hd : Dj a b) : Step w0 R0 L0 w R (a :: b :: Lr) := by
  have hs := h.sats
  have hp := List.pairwise_cons.1 hs.dj
  have ha : ∀ {C : Hp}, Dj C (uni a b) → Dj C a ∧ Dj C b := fun q => ⟨(Dj.of_uni_left q.symm).1.symm, (Dj.of_uni_left q.symm).2.symm⟩
  have hu := hs.l (uni a b) (by simp)
  refine ⟨⟨hs.r, ?_, ?_, ?_⟩, h.rle, h.os, h.tape, h.output, h.size, h.keep, h.newR, ?_⟩
  · intro c hc
    rcases List.mem_cons.1 hc with rfl | hc
    · exact (uni_l _ _).trans hu
    · rcases List.mem_cons.1 hc with rfl | hc
      · exact (uni_r hd).trans hu
      · exact hs.l c (by simp [hc])
  · refine List.pairwise_cons.2 ⟨fun c hc => ?_, List.pairwise_cons.2 ⟨fun c hc => (Dj.of_uni_left (hp.1 c hc)).2, hp.2⟩⟩
    rcases List.mem_cons.1 hc with rfl | hc
    · exact hd
    · exact (Dj.of_uni_left (hp.1 c hc)).1
  · intro c hc
    have hr := ha (hs.rd (uni a b) (by simp))
    rcases List.mem_cons.1 hc with rfl | hc
    · exact hr.1
    · rcases List.mem_cons.1 hc with rfl | hc
      · exact hr.2
      · exact hs.rd c (by simp [hc])
  · intro c hc i hi
    have hn := h.newL (uni a b) (by simp) i
    rcases List.mem_cons.1 hc with rfl | hc
    · exact hn fun e => hi (uni_none.1 e).1
    · rcases List.mem_cons.1 hc with rfl | hc
      · exact hn fun e => hi (uni_none.1 e).2
      · exact h.newL c (by simp [hc]) i hi

theorem Step.dj2 (h : Step w0 R0 L0 w R (a :: b :: Lr)) : Dj a b := (List.pairwise_cons.1 h.sats.dj).1 b (by simp)

theorem Step.join (h : Step w0 R0 L0 w R (a :: b :: Lr)) : Step w0 R0 L0 w R (uni a b :: Lr) := by
  have hs := h.sats
  have hp := List.pairwise_cons.1 hs.dj
  have hp2 := List.pairwise_cons.1 hp.2
  refine ⟨⟨hs.r, ?_, ?_, ?_⟩, h.rle, h.os, h.tape, h.output, h.size, h.keep, h.newR, ?_⟩
  · intro c hc
    rcases List.mem_cons.1 hc with rfl | hc
    · exact uni_le (hs.l a (by simp)) (hs.l b (by simp))
    · exact hs.l c (by simp [hc])
  · exact List.pairwise_cons.2 ⟨fun c hc => Dj.uni_left (hp.1 c (by simp [hc])) (hp2.1 c hc), hp2.2⟩
  · intro c hc
    rcases List.mem_cons.1 hc with rfl | hc
    · exact (Dj.uni_left (hs.rd a (by simp)).symm (hs.rd b (by simp)).symm).symm
    · exact hs.rd c (by simp [hc])
  · intro c hc i hi
    rcases List.mem_cons.1 hc with rfl | hc
    · rcases uni_ne hi with e | e
      · exact h.newL a (by simp) i e
      · exact h.newL b (by simp) i e
    · exact h.newL c (by simp [hc]) i hi

/-- Three pieces as one. -/
def tri (a b c : Hp) : Hp := uni a (uni b c)
theorem Step.split3 {c : Hp} (h : Step w0 R0 L0 w R (tri a b c :: Lr)) (h1 : Dj a (uni b c)) (h2 : Dj b c) : Step w0 R0 L0 w R (a :: b :: c :: Lr) :=
  (((h.split h1).front 1 rfl rfl).split h2).front 2 rfl rfl
theorem Step.join3 {c : Hp} (h : Step w0 R0 L0 w R (a :: b :: c :: Lr)) : Step w0 R0 L0 w R (tri a b c :: Lr) ∧ Dj a (uni b c) ∧ Dj b c := by
  have h1 := (((h.front 1 rfl rfl).front 2 rfl rfl).front 1 rfl rfl).join
  have h2 := h1.front 1 rfl rfl
  exact ⟨h2.join, h2.dj2, ((h.front 1 rfl rfl).front 2 rfl rfl |>.front 1 rfl rfl).dj2⟩
theorem tri_1 (a b c : Hp) : Le a (tri a b c) := uni_l _ _
theorem tri_2 {a b c : Hp} (h1 : Dj a (uni b c)) : Le b (tri a b c) := (uni_l _ _).trans (uni_r h1)
theorem tri_3 {a b c : Hp} (h1 : Dj a (uni b c)) (h2 : Dj b c) : Le c (tri a b c) := (uni_r h2).trans (uni_r h1)

theorem Step.rot {La Lb : List Hp} (h : Step w0 R0 L0 w R (La ++ Lb)) : Step w0 R0 L0 w R (Lb ++ La) := h.perm List.perm_append_comm

theorem MapC.nilOf {κ β : Type} {kenc : κ → Value} {vr : β → Value → Prop} {m : List (κ × β)} {c : Hp} (h : MapC kenc vr none m c) : m = [] := by
  rcases h with ⟨_, h, _⟩ | ⟨b, _, _, h, _⟩
  · exact h
  · cases h

theorem MapC.isSome {κ β : Type} {kenc : κ → Value} {vr : β → Value → Prop} {bo : Option Nat} {m : List (κ × β)} {c : Hp} (h : MapC kenc vr bo m c) (hm : m ≠ []) : ∃ b, bo = some b := by
  rcases h with ⟨_, h, _⟩ | ⟨b, _, _, h, _⟩
  · exact absurd h hm
  · exact ⟨b, h⟩

/-- What is owned is only read from now on, under a name. -/
theorem Step.frz {c : Hp} (h : Step w0 R0 L0 w R (c :: Lr)) : ∃ R', Step w0 R0 L0 w R' Lr ∧ Le R R' ∧ Le c R' := ⟨_, h.freeze, uni_l _ _, uni_r (h.sats.rd c (by simp))⟩

/-- The cells of a slice that is read. -/
theorem RdS.src {α : Type} {t : Ty α} {a : Addr} {n cap : Nat} {xs : List α} (h : RdS t R (.slice (some a) n cap) xs) (hw : Le R (hp w)) : ∃ src, Encs t R xs src ∧ ∀ j u, src[j]? = some u → w.cell? (a.add j) = some u := by
  obtain ⟨a', cap', e, hc, h⟩ := h
  by_cases hx : xs = []
  · subst hx; exact ⟨[], .nil, by simp⟩
  · obtain ⟨b, off, cs, T, fz, ha, hb, he⟩ := h hx
    cases e
    cases ha
    refine ⟨_, he, fun j u hj => ?_⟩
    have hlt : j < xs.length * t.sz := by
      have := (List.getElem?_eq_some_iff.1 hj).1
      simp [seg] at this
      omega
    rw [add_zero_spot, cell_at (hw b _ hb)]
    simp only [seg, List.getElem?_take, hlt, if_true, List.getElem?_drop] at hj
    simpa using hj

theorem RdS.nil {α : Type} {t : Ty α} {n cap : Nat} {xs : List α} (h : RdS t R (.slice none n cap) xs) : xs = [] := by
  obtain ⟨a', cap', e, hc, h⟩ := h
  by_cases hx : xs = []
  · exact hx
  · obtain ⟨b, off, cs, T, fz, ha, hb, he⟩ := h hx
    cases e
    cases ha

/-- A literal of one's own. -/
theorem OwnL.lit {α : Type} {t : Ty α} {T b n : Nat} {xs : List α} {cs : List Value} (h : Encs t R xs cs) (hn : xs.length = n) (hm : n ≤ maxLen) : OwnL t T R (.slice (some ⟨b, 0, none⟩) n n) xs (one b (.cells cs.toArray T (0, 0))) := by
  subst hn
  refine ⟨cs, .inr ⟨b, xs.length, cs.toArray, rfl, rfl, ?_, Nat.le_refl _, by simp [h.len], hm⟩, h⟩
  rw [← h.len]; simp

theorem Sats.of_step (h : Step w0 R0 L0 w R Lr) : Sats w R Lr := h.sats
end

section
variable {P : Program} {n : Nat} {Q : QT} {σ : Fr} {w w0 : World} {ops : Array Oper} {S : World → Prop} {R0 R : Hp} {L0 : List Hp}
/-- A call that turns pieces of one's own, in a region that draws. -/
theorem One_callS (La Lb : List Hp) (hst : Step w0 R0 L0 w R (La ++ Lb)) {i : Nat} {o : Oper} {d f : Nat} {args : Array Value} {post : Value → Hp → List Hp → Prop} {K : Fr → World → Prop} (hi : ops[i]? = some o) (hd : o.dst = some d) (hn : Nat.blt d n = true) (hw : Want ops σ o true)
    (hr : (execOp (ev σ) o).run P w = .ok (.enter f args) w) (hc : Calls P f args w (Comes' w R La post))
    (k : ∀ v w' R' L', post v R' L' → Le R R' → Step w0 R0 L0 w' R' (L' ++ Lb) → S w' ∧ K (upd σ d v) w') : One P n ops S Q i K σ w :=
  One_call hi hd hn hw hr hc fun e w' ⟨v, R', L', he, hs, hp⟩ => ⟨v, he, k v w' R' L' hp hs.rle (hst.call hs)⟩
end
end Go.Fx
