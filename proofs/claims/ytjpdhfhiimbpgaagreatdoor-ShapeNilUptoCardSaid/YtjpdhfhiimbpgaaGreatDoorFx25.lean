/-
  Regions that draw their order and call a loop's round.
-/
import Derived.Test.YtjpdhfhiimbpgaaGreatDoorFx23
import Derived.OrdersIn
set_option linter.unusedSimpArgs false
set_option linter.unusedVariables false
set_option linter.unnecessarySimpa false
namespace Go.Fx
open Go

theorem YieldsIf.wpOpJ {P : Program} {ops : Array Oper} {Q : Exit → Act → World → Prop} {S : World → Prop} {i : Nat} {o : Oper} {v : Value} {a : Act} (hi : ops[i]? = some o) (hy : YieldsIf P ops S o v a)
    {K : Act → World → Prop} {w : World} (hS : S w) (h : K (a.put o.dst v) w) : wpOpIn (rof none) 0 P ops Q i K a w := by
  unfold Go.wpOpIn
  simp only [hi]
  rcases hy with ⟨hw, hv⟩ | ⟨hw, rfl⟩
  · simp only [hw, if_true]
    refine ⟨fun _ _ => trivial, ?_⟩
    show o.uponIn (rof none) 0 P a K Q ((o.semAt none a.eval).run P w)
    rw [Oper.semAt_none, hv w hS]
    exact h
  · simp only [hw, Bool.false_eq_true, if_false]
    exact ⟨fun _ _ => trivial, h⟩

theorem wpOpJ_putIf {P : Program} {ops : Array Oper} {Q : Exit → Act → World → Prop} {S : World → Prop} {j : Nat} {oi oj : Oper} {v : Value} (hj : ops[j]? = some oj) (hap : oi.apart ops oj = true)
    (hsi : ∀ cs b, oi.op ≠ .select cs b) (hsj : ∀ cs b, oj.op ≠ .select cs b)
    (hQ : ∀ c a w, Q (.panic c) (a.put oi.dst v) w → Q (.panic c) a w) {K : Act → World → Prop} {a : Act} {w : World}
    (hy : YieldsIf P ops S oi v a) (h : wpOpIn (rof none) 0 P ops Q j K (a.put oi.dst v) w) :
    wpOpIn (rof none) 0 P ops Q j (fun a' w' => YieldsIf P ops S oi v a' ∧ K (a'.put oi.dst v) w') a w := by
  obtain ⟨h1, h2, h3⟩ := Oper.apart_spec hap
  have keep : ∀ (a : Act), YieldsIf P ops S oi v a → ∀ u, YieldsIf P ops S oi v (a.put oj.dst u) := fun a hy u =>
    hy.of_same (execOp_put oi hsi a oj.dst u h3) (wanted_put oi a oj.dst u h3)
  have keepD : ∀ d, YieldsIf P ops S oi v { a with defers := d :: a.defers } := fun d => hy.of_same rfl rfl
  unfold wpOpIn at *
  simp only [hj] at *
  rw [wanted_put oj a oi.dst v h1] at h
  split
  · rename_i hw
    simp only [hw, if_true] at h
    unfold Oper.wpIn at *
    refine ⟨fun _ _ => trivial, ?_⟩
    have h := h.2
    have hro : (rof none).round = none := rfl
    rw [hro, Oper.semAt_none, execOp_put oj hsj a oi.dst v h1] at h
    rw [hro, Oper.semAt_none]
    generalize (execOp a.eval oj).run P w = r at *
    cases r with
    | ok x w' =>
      cases x <;> simp only [Oper.uponIn] at h ⊢
      case value u => exact ⟨keep a hy u, by rw [← Act.put_comm a v u h2]; exact h⟩
      case skip => exact ⟨keep a hy _, by rw [← Act.put_comm a v undef h2]; exact h⟩
      case defer d =>
        refine ⟨keep _ (keepD d) _, ?_⟩
        rw [← Act.put_comm _ v undef h2, ← Act.put_defers]
        exact h
      case enter f args =>
        refine ⟨h.1, CallsIn.mono h.2 fun e w'' he => ?_⟩
        cases e with
        | returned u => exact ⟨keep a hy u, by rw [← Act.put_comm a v u h2]; exact he⟩
        | panicked c => exact hQ _ _ _ he
        | outgrown => exact he
      case row row args => exact ⟨h.1, RowsIn.mono h.2 fun u w'' he => ⟨keep a hy u, by rw [← Act.put_comm a v u h2]; exact he⟩⟩
      case round l f tmps assign body =>
        refine ⟨h.1, RoundIn.mono h.2 fun e w'' he => ?_⟩
        cases e with
        | returned u => exact ⟨keep a hy u, by rw [← Act.put_comm a v u h2]; exact he⟩
        | panicked c => exact hQ _ _ _ he
        | outgrown => exact he
    | halt x w' =>
      cases x <;> simp only [Oper.uponIn] at h ⊢
      case panic u => exact hQ _ _ _ h
  · rename_i hw
    simp only [hw] at h
    exact ⟨fun _ _ => trivial, keep a hy _, by rw [← Act.put_comm a v undef h2]; exact h.2⟩
/-- Whatever order is picked from here on; F holds behind every operation, as long as none of Ts has come up. -/
def wpAnyJ (P : Program) (ops : Array Oper) (Q : Exit → Act → World → Prop) (Ts : List Nat) (F : World → Prop) : Nat → Array Bool → Act → World → Prop
  | 0, listed, a, w => Region.ready .any ops listed = [] ∧ Q .normal a w
  | fuel + 1, listed, a, w =>
    (Region.ready .any ops listed = [] → Q .normal a w) ∧
    ∀ i ∈ Region.ready .any ops listed, wpOpIn (rof none) 0 P ops Q i (fun a' w' => (unl Ts (listed.setIfInBounds i true) = true → F w') ∧ wpAnyJ P ops Q Ts F fuel (listed.setIfInBounds i true) a' w') a w

section
variable {P : Program} {ops : Array Oper} {Q : Exit → Act → World → Prop} {Ts : List Nat} {F : World → Prop}

theorem wpAnyIn_of_J : ∀ (fuel : Nat) (listed : Array Bool) (a : Act) (w : World), wpAnyJ P ops Q Ts F fuel listed a w → wpAnyIn (rof none) 0 P .any ops Q fuel listed a w
  | 0, _, _, _, h => h
  | fuel + 1, _, _, _, h => ⟨h.1, fun i hi => wpOpIn_mono (fun a' w' h' => wpAnyIn_of_J fuel _ a' w' h'.2) (h.2 i hi)⟩

theorem wpAnyJ_first {i : Nat} {oi : Oper} {v : Value} (hi : ops[i]? = some oi) (hsel : ∀ (j : Nat) (o : Oper) cs b, ops[j]? = some o → o.op ≠ .select cs b) (hw8 : wait ops Ts i = true)
    (hQ : ∀ c a w, Q (.panic c) (a.put oi.dst v) w → Q (.panic c) a w) :
    ∀ (fuel : Nat) (listed : Array Bool) (a : Act) (w : World),
      (∀ j oj, ops[j]? = some oj → j ≠ i → listed.getD j true = false → (∀ e ∈ oj.after, Region.binds .any e = true → e.on ≠ i) → oi.apart ops oj = true) →
      i ∈ Region.ready .any ops listed → YieldsIf P ops F oi v a → unl Ts listed = true → F w →
      wpAnyJ P ops Q Ts F fuel (listed.setIfInBounds i true) (a.put oi.dst v) w → wpAnyJ P ops Q Ts F (fuel + 1) listed a w := by
  have hiT : ∀ listed, i ∈ Region.ready .any ops listed → i ∉ Ts := by
    intro listed hr hin
    have h := List.all_eq_true.1 hw8 i hin
    obtain ⟨hun, o, ho, hall⟩ := mem_ready.1 hr
    rw [ho] at h
    simp only at h
    obtain ⟨e, he, hb⟩ := Array.any_eq_true'.1 h
    simp only [Bool.and_eq_true, beq_iff_eq] at hb
    have h2 := hall e he hb.1
    rw [hb.2] at h2
    rcases Nat.lt_or_ge i listed.size with h' | h'
    · simp [h'] at hun h2; rw [hun] at h2; cases h2
    · simp [Array.getElem?_eq_none h'] at h2
  intro fuel
  induction fuel with
  | zero =>
    intro listed a w _ hr hy hT hF H
    refine ⟨fun h => (by rw [h] at hr; cases hr), fun j hj => ?_⟩
    by_cases hji : j = i
    · subst hji; exact YieldsIf.wpOpJ hi hy hF ⟨fun _ => hF, H⟩
    · have := ready_mono hj hji
      rw [H.1] at this
      cases this
  | succ fuel ih =>
    intro listed a w hfree hr hy hT hF H
    refine ⟨fun h => (by rw [h] at hr; cases hr), fun j hj => ?_⟩
    by_cases hji : j = i
    · subst hji; exact YieldsIf.wpOpJ hi hy hF ⟨fun _ => hF, H⟩
    · have h1 := H.2 j (ready_mono hj hji)
      obtain ⟨hjun, oj, hoj, hall⟩ := mem_ready.1 hj
      have hnot : ∀ e ∈ oj.after, Region.binds .any e = true → e.on ≠ i := fun e he hb heq => by
        have h1 := hall e he hb
        have h0 := (mem_ready.1 hr).1
        rw [heq] at h1
        rcases Nat.lt_or_ge i listed.size with h' | h'
        · simp [h'] at h0 h1; rw [h0] at h1; cases h1
        · simp [Array.getElem?_eq_none h'] at h1
      have hjT : j ∉ Ts := by
        intro hin
        have h := List.all_eq_true.1 hw8 j hin
        rw [hoj] at h
        simp only at h
        obtain ⟨e, he, hb⟩ := Array.any_eq_true'.1 h
        simp only [Bool.and_eq_true, beq_iff_eq] at hb
        exact hnot e he hb.1 hb.2
      have h2 := wpOpJ_putIf hoj (hfree j oj hoj hji hjun hnot) (fun cs b => hsel i oi cs b hi) (fun cs b => hsel j oj cs b hoj) hQ hy h1
      have hfree' : ∀ k ok, ops[k]? = some ok → k ≠ i → (listed.setIfInBounds j true).getD k true = false →
          (∀ e ∈ ok.after, Region.binds .any e = true → e.on ≠ i) → oi.apart ops ok = true := fun k ok hk hki hun hno => by
        refine hfree k ok hk hki ?_ hno
        by_cases hjk : j = k
        · subst hjk; exact hjun
        · rw [getD_set_ne true hjk] at hun; exact hun
      have hT' := unl_set hT hjT
      have hF' : ∀ w', (unl Ts ((listed.setIfInBounds i true).setIfInBounds j true) = true → F w') → F w' := fun w' hf => hf (unl_set (unl_set hT (hiT _ hr)) hjT)
      refine wpOpIn_mono (fun a' w' h3 => ⟨fun _ => hF' _ h3.2.1, ih (listed.setIfInBounds j true) a' w' hfree' (ready_mono hr (Ne.symm hji)) h3.1 hT' (hF' _ h3.2.1) ?_⟩) h2
      rw [Array.setIfInBounds_comm _ _ hji]
      exact h3.2.2

/-- An operation that looks at no world may be taken first whatever has come up. -/
theorem wpAnyJ_firstP {i : Nat} {oi : Oper} {v : Value} (hi : ops[i]? = some oi) (hsel : ∀ (j : Nat) (o : Oper) cs b, ops[j]? = some o → o.op ≠ .select cs b) (hiT : Ts.contains i = false)
    (hQ : ∀ c a w, Q (.panic c) (a.put oi.dst v) w → Q (.panic c) a w) :
    ∀ (fuel : Nat) (listed : Array Bool) (a : Act) (w : World),
      (∀ j oj, ops[j]? = some oj → j ≠ i → listed.getD j true = false → (∀ e ∈ oj.after, Region.binds .any e = true → e.on ≠ i) → oi.apart ops oj = true) →
      i ∈ Region.ready .any ops listed → YieldsIf P ops (fun _ => True) oi v a → (unl Ts listed = true → F w) →
      wpAnyJ P ops Q Ts F fuel (listed.setIfInBounds i true) (a.put oi.dst v) w → wpAnyJ P ops Q Ts F (fuel + 1) listed a w := by
  intro fuel
  induction fuel with
  | zero =>
    intro listed a w _ hr hy hF H
    refine ⟨fun h => (by rw [h] at hr; cases hr), fun j hj => ?_⟩
    by_cases hji : j = i
    · subst hji; exact YieldsIf.wpOpJ hi hy trivial ⟨fun h => hF (unl_unset h), H⟩
    · have := ready_mono hj hji
      rw [H.1] at this
      cases this
  | succ fuel ih =>
    intro listed a w hfree hr hy hF H
    refine ⟨fun h => (by rw [h] at hr; cases hr), fun j hj => ?_⟩
    by_cases hji : j = i
    · subst hji; exact YieldsIf.wpOpJ hi hy trivial ⟨fun h => hF (unl_unset h), H⟩
    · have h1 := H.2 j (ready_mono hj hji)
      obtain ⟨hjun, oj, hoj, hall⟩ := mem_ready.1 hj
      have hnot : ∀ e ∈ oj.after, Region.binds .any e = true → e.on ≠ i := fun e he hb heq => by
        have h1 := hall e he hb
        have h0 := (mem_ready.1 hr).1
        rw [heq] at h1
        rcases Nat.lt_or_ge i listed.size with h' | h'
        · simp [h'] at h0 h1; rw [h0] at h1; cases h1
        · simp [Array.getElem?_eq_none h'] at h1
      have h2 := wpOpJ_putIf hoj (hfree j oj hoj hji hjun hnot) (fun cs b => hsel i oi cs b hi) (fun cs b => hsel j oj cs b hoj) hQ hy h1
      have hfree' : ∀ k ok, ops[k]? = some ok → k ≠ i → (listed.setIfInBounds j true).getD k true = false →
          (∀ e ∈ ok.after, Region.binds .any e = true → e.on ≠ i) → oi.apart ops ok = true := fun k ok hk hki hun hno => by
        refine hfree k ok hk hki ?_ hno
        by_cases hjk : j = k
        · subst hjk; exact hjun
        · rw [getD_set_ne true hjk] at hun; exact hun
      have hF' : ∀ w', (unl Ts ((listed.setIfInBounds i true).setIfInBounds j true) = true → F w') → unl Ts (listed.setIfInBounds j true) = true → F w' := fun w' hf hu => hf (by
        rw [Array.setIfInBounds_comm _ _ (Ne.symm hji)]
        exact unl_set' hu hiT)
      refine wpOpIn_mono (fun a' w' h3 => ⟨hF' _ h3.2.1, ih (listed.setIfInBounds j true) a' w' hfree' (ready_mono hr (Ne.symm hji)) h3.1 (hF' _ h3.2.1) ?_⟩) h2
      rw [Array.setIfInBounds_comm _ _ hji]
      exact h3.2.2
end

structure LJ (P : Program) (n : Nat) (ops : Array Oper) (Ts : List Nat) (F : World → Prop) (Q : QT) (fuel : Nat) (listed : Array Bool) (σ : Fr) (w : World) : Prop where
  run : ∀ a, Rel n a σ → wpAnyJ P ops (lift n Q) Ts F fuel listed a w

section
variable {P : Program} {n : Nat} {Q : QT} {σ : Fr} {w : World} {ops : Array Oper} {S F : World → Prop} {Ts : List Nat} {fuel : Nat} {listed : Array Bool}

/-- An operation that gives its value in every world that meets F may be taken first. -/
theorem LJ_take (i : Nat) {o : Oper} {d : Nat} {v : Value} (hi : ops[i]? = some o) (hd : o.dst = some d) (hn : Nat.blt d n = true) (hs : Region.noSelect ops = true) (hf : Region.free .any ops listed i = true)
    (hr : (Region.ready .any ops listed).contains i = true) (hw8 : wait ops Ts i = true) (hT : unl Ts listed = true) (hQ : ∀ c σ w, ¬ Q (.panic c) σ w) (hw : Want ops σ o true)
    (hv : ∀ w, F w → (execOp (ev σ) o).run P w = .ok (.value v) w) (hF : F w) (k : LJ P n ops Ts F Q fuel (listed.setIfInBounds i true) (upd σ d v) w) : LJ P n ops Ts F Q (fuel + 1) listed σ w := by
  refine ⟨fun a ha => ?_⟩
  have hp := ha.put (d := d) (by simpa using hn) v
  refine wpAnyJ_first hi (Region.noSelect_spec hs) hw8 (v := v) (fun c a w ⟨τ, _, q⟩ => absurd q (hQ c τ w)) fuel listed a w (Region.free_spec hi hf) (by simpa using hr)
    (.inl ⟨hw.wanted ha, fun w hF => by rw [ha.eval]; exact hv w hF⟩) hT hF ?_
  rw [hd]
  exact k.run _ hp

theorem LJ_leave (i : Nat) {o : Oper} {d : Nat} (hi : ops[i]? = some o) (hd : o.dst = some d) (hn : Nat.blt d n = true) (hs : Region.noSelect ops = true) (hf : Region.free .any ops listed i = true)
    (hr : (Region.ready .any ops listed).contains i = true) (hw8 : wait ops Ts i = true) (hT : unl Ts listed = true) (hQ : ∀ c σ w, ¬ Q (.panic c) σ w) (hw : Want ops σ o false) (hF : F w)
    (k : LJ P n ops Ts F Q fuel (listed.setIfInBounds i true) (upd σ d undef) w) : LJ P n ops Ts F Q (fuel + 1) listed σ w := by
  refine ⟨fun a ha => ?_⟩
  have hp := ha.put (d := d) (by simpa using hn) undef
  refine wpAnyJ_first hi (Region.noSelect_spec hs) hw8 (v := undef) (fun c a w ⟨τ, _, q⟩ => absurd q (hQ c τ w)) fuel listed a w (Region.free_spec hi hf) (by simpa using hr)
    (.inr ⟨hw.wanted ha, rfl⟩) hT hF ?_
  rw [hd]
  exact k.run _ hp

/-- An operation that gives its value in every world may be taken first. -/
theorem LJ_takeP (i : Nat) {o : Oper} {d : Nat} {v : Value} (hi : ops[i]? = some o) (hd : o.dst = some d) (hn : Nat.blt d n = true) (hs : Region.noSelect ops = true) (hf : Region.free .any ops listed i = true)
    (hr : (Region.ready .any ops listed).contains i = true) (hiT : Ts.contains i = false) (hQ : ∀ c σ w, ¬ Q (.panic c) σ w) (hw : Want ops σ o true)
    (hv : ∀ w, (execOp (ev σ) o).run P w = .ok (.value v) w) (hF : unl Ts listed = true → F w) (k : LJ P n ops Ts F Q fuel (listed.setIfInBounds i true) (upd σ d v) w) : LJ P n ops Ts F Q (fuel + 1) listed σ w := by
  refine ⟨fun a ha => ?_⟩
  have hp := ha.put (d := d) (by simpa using hn) v
  refine wpAnyJ_firstP hi (Region.noSelect_spec hs) hiT (v := v) (fun c a w ⟨τ, _, q⟩ => absurd q (hQ c τ w)) fuel listed a w (Region.free_spec hi hf) (by simpa using hr)
    (.inl ⟨hw.wanted ha, fun w _ => by rw [ha.eval]; exact hv w⟩) hF ?_
  rw [hd]
  exact k.run _ hp

theorem LJ_leaveP (i : Nat) {o : Oper} {d : Nat} (hi : ops[i]? = some o) (hd : o.dst = some d) (hn : Nat.blt d n = true) (hs : Region.noSelect ops = true) (hf : Region.free .any ops listed i = true)
    (hr : (Region.ready .any ops listed).contains i = true) (hiT : Ts.contains i = false) (hQ : ∀ c σ w, ¬ Q (.panic c) σ w) (hw : Want ops σ o false) (hF : unl Ts listed = true → F w)
    (k : LJ P n ops Ts F Q fuel (listed.setIfInBounds i true) (upd σ d undef) w) : LJ P n ops Ts F Q (fuel + 1) listed σ w := by
  refine ⟨fun a ha => ?_⟩
  have hp := ha.put (d := d) (by simpa using hn) undef
  refine wpAnyJ_firstP hi (Region.noSelect_spec hs) hiT (v := undef) (fun c a w ⟨τ, _, q⟩ => absurd q (hQ c τ w)) fuel listed a w (Region.free_spec hi hf) (by simpa using hr)
    (.inr ⟨hw.wanted ha, rfl⟩) hF ?_
  rw [hd]
  exact k.run _ hp

/-- The same three, what a program checks left to it. -/
theorem LTJ (v : Value) (i : Nat) {o : Oper} {d : Nat} (hi : ops[i]? = some o) (hd : o.dst = some d) (hn : Nat.blt d n = true)
    (hv : ∀ w, F w → (execOp (ev σ) o).run P w = .ok (.value v) w) (hF : F w) (k : LJ P n ops Ts F Q fuel (listed.setIfInBounds i true) (upd σ d v) w)
    (hw : Want ops σ o true := by exact Want.plain rfl)
    (hs : Region.noSelect ops = true := by decide +kernel) (hf : Region.free .any ops listed i = true := by decide +kernel) (hr : (Region.ready .any ops listed).contains i = true := by decide +kernel)
    (hw8 : wait ops Ts i = true := by decide +kernel) (hT : unl Ts listed = true := by decide +kernel) (hQ : ∀ c σ w, ¬ Q (.panic c) σ w := by intro _ _ _ h; exact h) : LJ P n ops Ts F Q (fuel + 1) listed σ w :=
  LJ_take i hi hd hn hs hf hr hw8 hT hQ hw hv hF k
theorem LPJ (v : Value) (i : Nat) {o : Oper} {d : Nat} (hi : ops[i]? = some o) (hd : o.dst = some d) (hn : Nat.blt d n = true)
    (hv : ∀ w, (execOp (ev σ) o).run P w = .ok (.value v) w) (hF : F w) (k : LJ P n ops Ts F Q fuel (listed.setIfInBounds i true) (upd σ d v) w)
    (hw : Want ops σ o true := by exact Want.plain rfl)
    (hs : Region.noSelect ops = true := by decide +kernel) (hf : Region.free .any ops listed i = true := by decide +kernel) (hr : (Region.ready .any ops listed).contains i = true := by decide +kernel)
    (hiT : Ts.contains i = false := by decide +kernel) (hQ : ∀ c σ w, ¬ Q (.panic c) σ w := by intro _ _ _ h; exact h) : LJ P n ops Ts F Q (fuel + 1) listed σ w :=
  LJ_takeP i hi hd hn hs hf hr hiT hQ hw hv (fun _ => hF) k
theorem LVJ (i : Nat) {o : Oper} {d : Nat} (hi : ops[i]? = some o) (hd : o.dst = some d) (hn : Nat.blt d n = true) (hF : F w)
    (k : LJ P n ops Ts F Q fuel (listed.setIfInBounds i true) (upd σ d undef) w)
    (hw : Want ops σ o false := by exact Want.plain rfl)
    (hs : Region.noSelect ops = true := by decide +kernel) (hf : Region.free .any ops listed i = true := by decide +kernel) (hr : (Region.ready .any ops listed).contains i = true := by decide +kernel)
    (hiT : Ts.contains i = false := by decide +kernel) (hQ : ∀ c σ w, ¬ Q (.panic c) σ w := by intro _ _ _ h; exact h) : LJ P n ops Ts F Q (fuel + 1) listed σ w :=
  LJ_leaveP i hi hd hn hs hf hr hiT hQ hw (fun _ => hF) k

/-- OneJ of those that may come up. -/
structure OneJ (P : Program) (n : Nat) (ops : Array Oper) (S : World → Prop) (Q : QT) (i : Nat) (K : Fr → World → Prop) (σ : Fr) (w : World) : Prop where
  run : ∀ a, Rel n a σ → wpOpIn (rof none) 0 P ops (lift n Q) i (fun a' w' => S w' ∧ ∃ σ', Rel n a' σ' ∧ K σ' w') a w

theorem LJ_all (rs : List Nat) (hr : Region.ready .any ops listed = rs) (hne : rs ≠ [])
    (h : ∀ i ∈ rs, OneJ P n ops (fun w' => unl Ts (listed.setIfInBounds i true) = true → F w') Q i (fun σ' w' => LJ P n ops Ts F Q fuel (listed.setIfInBounds i true) σ' w') σ w) : LJ P n ops Ts F Q (fuel + 1) listed σ w := by
  refine ⟨fun a ha => ⟨fun h0 => absurd (hr ▸ h0) hne, fun i hi => ?_⟩⟩
  rw [hr] at hi
  exact wpOpIn_mono (fun a' w' ⟨h1, τ, h2, h3⟩ => ⟨h1, h3.run _ h2⟩) ((h i hi).run a ha)

theorem LJ_done (hr : Region.ready .any ops listed = []) (h : Q .normal σ w) : LJ P n ops Ts F Q fuel listed σ w := by
  refine ⟨fun a ha => ?_⟩
  cases fuel with
  | zero => exact ⟨hr, σ, ha, h⟩
  | succ fuel => exact ⟨fun _ => ⟨σ, ha, h⟩, fun i hi => by rw [hr] at hi; cases hi⟩

theorem OneJ_val {i : Nat} {o : Oper} {d : Nat} {v : Value} {w' : World} {K : Fr → World → Prop} (hi : ops[i]? = some o) (hd : o.dst = some d) (hn : Nat.blt d n = true) (hw : Want ops σ o true)
    (hr : (execOp (ev σ) o).run P w = .ok (.value v) w') (hS : S w') (k : K (upd σ d v) w') : OneJ P n ops S Q i K σ w := by
  refine ⟨fun a ha => ?_⟩
  have hp := ha.put (d := d) (by simpa using hn) v
  unfold wpOpIn
  simp only [hi, hw.wanted ha, if_true]
  refine ⟨fun _ _ => trivial, ?_⟩
  rw [ha.eval, sem_val (ro := none) hr, Oper.uponIn_value, hd]
  exact ⟨hS, _, hp, k⟩

theorem OneJ_skip {i : Nat} {o : Oper} {w' : World} {K : Fr → World → Prop} (hi : ops[i]? = some o) (hd : o.dst = none) (hw : Want ops σ o true)
    (hr : (execOp (ev σ) o).run P w = .ok .skip w') (hS : S w') (k : K σ w') : OneJ P n ops S Q i K σ w := by
  refine ⟨fun a ha => ?_⟩
  unfold wpOpIn
  simp only [hi, hw.wanted ha, if_true]
  refine ⟨fun _ _ => trivial, ?_⟩
  rw [ha.eval, sem_skip (ro := none) hr, Oper.uponIn_skip, hd]
  exact ⟨hS, _, ha, k⟩

theorem OneJ_val_none {i : Nat} {o : Oper} {v : Value} {w' : World} {K : Fr → World → Prop} (hi : ops[i]? = some o) (hd : o.dst = none) (hw : Want ops σ o true)
    (hr : (execOp (ev σ) o).run P w = .ok (.value v) w') (hS : S w') (k : K σ w') : OneJ P n ops S Q i K σ w := by
  refine ⟨fun a ha => ?_⟩
  unfold wpOpIn
  simp only [hi, hw.wanted ha, if_true]
  refine ⟨fun _ _ => trivial, ?_⟩
  rw [ha.eval, sem_val (ro := none) hr, Oper.uponIn_value, hd]
  exact ⟨hS, _, ha, k⟩

theorem OneJ_leave {i : Nat} {o : Oper} {d : Nat} {K : Fr → World → Prop} (hi : ops[i]? = some o) (hd : o.dst = some d) (hn : Nat.blt d n = true) (hw : Want ops σ o false) (hS : S w) (k : K (upd σ d undef) w) : OneJ P n ops S Q i K σ w := by
  refine ⟨fun a ha => ?_⟩
  have hp := ha.put (d := d) (by simpa using hn) undef
  unfold wpOpIn
  simp only [hi, hw.wanted ha, Bool.false_eq_true, if_false, hd]
  exact ⟨fun _ _ => trivial, hS, _, hp, k⟩

theorem OneJ_leave_none {i : Nat} {o : Oper} {K : Fr → World → Prop} (hi : ops[i]? = some o) (hd : o.dst = none) (hw : Want ops σ o false) (hS : S w) (k : K σ w) : OneJ P n ops S Q i K σ w := by
  refine ⟨fun a ha => ?_⟩
  unfold wpOpIn
  simp only [hi, hw.wanted ha, Bool.false_eq_true, if_false, hd]
  exact ⟨fun _ _ => trivial, hS, _, ha, k⟩

theorem OneJ_call {i : Nat} {o : Oper} {d f : Nat} {args : Array Value} {w' : World} {R : Ending → World → Prop} {K : Fr → World → Prop} (hi : ops[i]? = some o) (hd : o.dst = some d) (hn : Nat.blt d n = true) (hw : Want ops σ o true)
    (hr : (execOp (ev σ) o).run P w = .ok (.enter f args) w') (hc : Calls P f args w' R)
    (k : ∀ e w'', R e w'' → ∃ v, e = .returned v ∧ S w'' ∧ K (upd σ d v) w'') : OneJ P n ops S Q i K σ w := by
  refine ⟨fun a ha => ?_⟩
  unfold wpOpIn
  simp only [hi, hw.wanted ha, if_true]
  refine ⟨fun _ _ => trivial, ?_⟩
  rw [ha.eval, sem_enter (ro := none) hr]
  show _ ∧ _
  refine ⟨(fun h => by cases h), calls_rof.2 (hc.mono fun e w'' h => ?_)⟩
  obtain ⟨v, rfl, hS, hK⟩ := k e w'' h
  rw [hd]
  exact ⟨hS, _, ha.put (d := d) (by simpa using hn) v, hK⟩

/-- yield, called by an iterator, in a region that draws. -/
theorem OneJ_yieldS {w0 : World} {R0 R : Hp} {L0 : List Hp} (La Lb : List Hp) (hst : Step w0 R0 L0 w R (La ++ Lb)) {i : Nat} {o : Oper} {d l : Nat} {args : Array Value} {post : Bool → Hp → List Hp → Prop} {K : Fr → World → Prop} (hi : ops[i]? = some o) (hd : o.dst = some d) (hn : Nat.blt d n = true) (hw : Want ops σ o true)
    (hr : (execOp (ev σ) o).run P w = (Instr.yield l args).run P w) (hc : YieldS P l args w R La post)
    (k : ∀ b w' R' L', post b R' L' → Le R R' → Step w0 R0 L0 w' R' (L' ++ Lb) → S w' ∧ K (upd σ d (.bool b)) w') : OneJ P n ops S Q i K σ w := by
  obtain ⟨fn, tmps, assign, body, hy, hR⟩ := hc
  refine ⟨fun a ha => ?_⟩
  unfold wpOpIn
  simp only [hi, hw.wanted ha, if_true]
  refine ⟨fun _ _ => trivial, ?_⟩
  have hr2 : (o.semAt none (ev σ)).run P w = .ok (.round l fn tmps assign body) w := sem_of (hr.trans hy) (by simp)
  rw [ha.eval, hr2]
  show _ ∧ _
  refine ⟨(fun h => by cases h), ?_⟩
  have hR2 : RoundIn (rof none) 0 P l fn tmps assign body w _ := hR
  refine hR2.mono fun e w'' h => ?_
  obtain ⟨b, R', L', rfl, hs, hp⟩ := h
  obtain ⟨h1, h2⟩ := k b w'' R' L' hp hs.rle (hst.call hs)
  rw [hd]
  exact ⟨h1, _, ha.put (d := d) (by simpa using hn) (.bool b), h2⟩

theorem W_region_drawJ (Ts : List Nat) (F : World → Prop) {id : Nat} (hm : P.follows .mixedOrders = true) (h : LJ P n ops Ts F Q ops.size (Array.replicate ops.size false) σ (draws w (w.drawn + 1))) :
    W none P n (.region id ops true) Q σ w :=
  ⟨fun a ha => wpIn_region_any hm (wpAnyIn_of_J _ _ _ _ (h.run a ha))⟩
end
end Go.Fx
