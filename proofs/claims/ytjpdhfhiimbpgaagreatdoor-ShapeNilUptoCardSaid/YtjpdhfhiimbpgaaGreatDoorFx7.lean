/-
  Regions that draw their order.
-/
import Derived.Test.YtjpdhfhiimbpgaaGreatDoorFx6
import Derived.OrdersHeld
set_option linter.unusedSimpArgs false
set_option linter.unusedVariables false
set_option linter.unnecessarySimpa false
namespace Go.Fx
open Go

/-- None of the operations Ts has come up. -/
def unl (Ts : List Nat) (listed : Array Bool) : Bool := Ts.all fun t => listed.getD t true == false
/-- Each of the operations Ts waits for number i. -/
def wait (ops : Array Oper) (Ts : List Nat) (i : Nat) : Bool := Ts.all fun t => match ops[t]? with
  | some o => o.after.any fun e => Region.binds .any e && e.on == i
  | none => false

theorem unl_spec {Ts : List Nat} {listed : Array Bool} (h : unl Ts listed = true) : ∀ t ∈ Ts, listed.getD t true = false := fun t ht => by
  have := List.all_eq_true.1 h t ht
  simpa using this
theorem unl_mk {Ts : List Nat} {listed : Array Bool} (h : ∀ t ∈ Ts, listed.getD t true = false) : unl Ts listed = true :=
  List.all_eq_true.2 fun t ht => by simp [h t ht]

/-- Whatever order is picked from here on; F holds behind every operation, as long as none of Ts has come up. -/
def wpAnyI (P : Program) (ops : Array Oper) (Q : Exit → Act → World → Prop) (Ts : List Nat) (F : World → Prop) : Nat → Array Bool → Act → World → Prop
  | 0, listed, a, w => Region.ready .any ops listed = [] ∧ Q .normal a w
  | fuel + 1, listed, a, w =>
    (Region.ready .any ops listed = [] → Q .normal a w) ∧
    ∀ i ∈ Region.ready .any ops listed, wpOp P ops Q i (fun a' w' => (unl Ts (listed.setIfInBounds i true) = true → F w') ∧ wpAnyI P ops Q Ts F fuel (listed.setIfInBounds i true) a' w') a w

section
variable {P : Program} {ops : Array Oper} {Q : Exit → Act → World → Prop} {Ts : List Nat} {F : World → Prop}

theorem wpAny_of_I : ∀ (fuel : Nat) (listed : Array Bool) (a : Act) (w : World), wpAnyI P ops Q Ts F fuel listed a w → wpAny P .any ops Q fuel listed a w
  | 0, _, _, _, h => h
  | fuel + 1, _, _, _, h => ⟨h.1, fun i hi => wpOp_mono (fun a' w' h' => wpAny_of_I fuel _ a' w' h'.2) (h.2 i hi)⟩

theorem unl_set {listed : Array Bool} {i : Nat} (h : unl Ts listed = true) (hi : i ∉ Ts) : unl Ts (listed.setIfInBounds i true) = true :=
  unl_mk fun t ht => by
    have hne : i ≠ t := fun e => hi (by rw [e]; exact ht)
    rw [getD_set_ne true hne]
    exact unl_spec h t ht

theorem unl_unset {listed : Array Bool} {i : Nat} (h : unl Ts (listed.setIfInBounds i true) = true) : unl Ts listed = true :=
  unl_mk fun t ht => by
    have := unl_spec h t ht
    by_cases e : i = t
    · subst e
      rcases Nat.lt_or_ge i listed.size with h' | h'
      · simp [h'] at this
      · simpa [Array.setIfInBounds, Nat.not_lt.2 h'] using this
    · rwa [getD_set_ne true e] at this

theorem wpAnyI_first {i : Nat} {oi : Oper} {v : Value} (hi : ops[i]? = some oi) (hsel : ∀ (j : Nat) (o : Oper) cs b, ops[j]? = some o → o.op ≠ .select cs b) (hw8 : wait ops Ts i = true)
    (hQ : ∀ c a w, Q (.panic c) (a.put oi.dst v) w → Q (.panic c) a w) :
    ∀ (fuel : Nat) (listed : Array Bool) (a : Act) (w : World),
      (∀ j oj, ops[j]? = some oj → j ≠ i → listed.getD j true = false → (∀ e ∈ oj.after, Region.binds .any e = true → e.on ≠ i) → oi.apart ops oj = true) →
      i ∈ Region.ready .any ops listed → YieldsIf P ops F oi v a → unl Ts listed = true → F w →
      wpAnyI P ops Q Ts F fuel (listed.setIfInBounds i true) (a.put oi.dst v) w → wpAnyI P ops Q Ts F (fuel + 1) listed a w := by
  have hiT : ∀ listed, i ∈ Region.ready .any ops listed → i ∉ Ts := by
    intro listed hr hin
    have h := List.all_eq_true.1 hw8 i hin
    obtain ⟨hun, o, ho, hall⟩ := mem_ready.1 hr
    rw [ho] at h
    simp only at h
    obtain ⟨e, he, hb⟩ := Array.any_eq_true'.1 h
    simp only [Bool.and_eq_true, beq_iff_eq] at hb
    have h2 := hall e he hb.1
    rw [hb.2] at h2
    rcases Nat.lt_or_ge i listed.size with h' | h'
    · simp [h'] at hun h2; rw [hun] at h2; cases h2
    · simp [Array.getElem?_eq_none h'] at h2
  intro fuel
  induction fuel with
  | zero =>
    intro listed a w _ hr hy hT hF H
    refine ⟨fun h => (by rw [h] at hr; cases hr), fun j hj => ?_⟩
    by_cases hji : j = i
    · subst hji; exact hy.wpOp hi hF ⟨fun _ => hF, H⟩
    · have := ready_mono hj hji
      rw [H.1] at this
      cases this
  | succ fuel ih =>
    intro listed a w hfree hr hy hT hF H
    refine ⟨fun h => (by rw [h] at hr; cases hr), fun j hj => ?_⟩
    by_cases hji : j = i
    · subst hji; exact hy.wpOp hi hF ⟨fun _ => hF, H⟩
    · have h1 := H.2 j (ready_mono hj hji)
      obtain ⟨hjun, oj, hoj, hall⟩ := mem_ready.1 hj
      have hnot : ∀ e ∈ oj.after, Region.binds .any e = true → e.on ≠ i := fun e he hb heq => by
        have h1 := hall e he hb
        have h0 := (mem_ready.1 hr).1
        rw [heq] at h1
        rcases Nat.lt_or_ge i listed.size with h' | h'
        · simp [h'] at h0 h1; rw [h0] at h1; cases h1
        · simp [Array.getElem?_eq_none h'] at h1
      have hjT : j ∉ Ts := by
        intro hin
        have h := List.all_eq_true.1 hw8 j hin
        rw [hoj] at h
        simp only at h
        obtain ⟨e, he, hb⟩ := Array.any_eq_true'.1 h
        simp only [Bool.and_eq_true, beq_iff_eq] at hb
        exact hnot e he hb.1 hb.2
      have h2 := wpOp_putIf hoj (hfree j oj hoj hji hjun hnot) (fun cs b => hsel i oi cs b hi) (fun cs b => hsel j oj cs b hoj) hQ hy h1
      have hfree' : ∀ k ok, ops[k]? = some ok → k ≠ i → (listed.setIfInBounds j true).getD k true = false →
          (∀ e ∈ ok.after, Region.binds .any e = true → e.on ≠ i) → oi.apart ops ok = true := fun k ok hk hki hun hno => by
        refine hfree k ok hk hki ?_ hno
        by_cases hjk : j = k
        · subst hjk; exact hjun
        · rw [getD_set_ne true hjk] at hun; exact hun
      have hT' := unl_set hT hjT
      have hF' : ∀ w', (unl Ts ((listed.setIfInBounds i true).setIfInBounds j true) = true → F w') → F w' := fun w' hf => hf (unl_set (unl_set hT (hiT _ hr)) hjT)
      refine wpOp_mono (fun a' w' h3 => ⟨fun _ => hF' _ h3.2.1, ih (listed.setIfInBounds j true) a' w' hfree' (ready_mono hr (Ne.symm hji)) h3.1 hT' (hF' _ h3.2.1) ?_⟩) h2
      rw [Array.setIfInBounds_comm _ _ hji]
      exact h3.2.2

theorem unl_set' {listed : Array Bool} {i : Nat} (h : unl Ts listed = true) (hi : Ts.contains i = false) : unl Ts (listed.setIfInBounds i true) = true :=
  unl_set h (by simpa using hi)

/-- An operation that looks at no world may be taken first whatever has come up. -/
theorem wpAnyI_firstP {i : Nat} {oi : Oper} {v : Value} (hi : ops[i]? = some oi) (hsel : ∀ (j : Nat) (o : Oper) cs b, ops[j]? = some o → o.op ≠ .select cs b) (hiT : Ts.contains i = false)
    (hQ : ∀ c a w, Q (.panic c) (a.put oi.dst v) w → Q (.panic c) a w) :
    ∀ (fuel : Nat) (listed : Array Bool) (a : Act) (w : World),
      (∀ j oj, ops[j]? = some oj → j ≠ i → listed.getD j true = false → (∀ e ∈ oj.after, Region.binds .any e = true → e.on ≠ i) → oi.apart ops oj = true) →
      i ∈ Region.ready .any ops listed → YieldsIf P ops (fun _ => True) oi v a → (unl Ts listed = true → F w) →
      wpAnyI P ops Q Ts F fuel (listed.setIfInBounds i true) (a.put oi.dst v) w → wpAnyI P ops Q Ts F (fuel + 1) listed a w := by
  intro fuel
  induction fuel with
  | zero =>
    intro listed a w _ hr hy hF H
    refine ⟨fun h => (by rw [h] at hr; cases hr), fun j hj => ?_⟩
    by_cases hji : j = i
    · subst hji; exact hy.wpOp hi trivial ⟨fun h => hF (unl_unset h), H⟩
    · have := ready_mono hj hji
      rw [H.1] at this
      cases this
  | succ fuel ih =>
    intro listed a w hfree hr hy hF H
    refine ⟨fun h => (by rw [h] at hr; cases hr), fun j hj => ?_⟩
    by_cases hji : j = i
    · subst hji; exact hy.wpOp hi trivial ⟨fun h => hF (unl_unset h), H⟩
    · have h1 := H.2 j (ready_mono hj hji)
      obtain ⟨hjun, oj, hoj, hall⟩ := mem_ready.1 hj
      have hnot : ∀ e ∈ oj.after, Region.binds .any e = true → e.on ≠ i := fun e he hb heq => by
        have h1 := hall e he hb
        have h0 := (mem_ready.1 hr).1
        rw [heq] at h1
        rcases Nat.lt_or_ge i listed.size with h' | h'
        · simp [h'] at h0 h1; rw [h0] at h1; cases h1
        · simp [Array.getElem?_eq_none h'] at h1
      have h2 := wpOp_putIf hoj (hfree j oj hoj hji hjun hnot) (fun cs b => hsel i oi cs b hi) (fun cs b => hsel j oj cs b hoj) hQ hy h1
      have hfree' : ∀ k ok, ops[k]? = some ok → k ≠ i → (listed.setIfInBounds j true).getD k true = false →
          (∀ e ∈ ok.after, Region.binds .any e = true → e.on ≠ i) → oi.apart ops ok = true := fun k ok hk hki hun hno => by
        refine hfree k ok hk hki ?_ hno
        by_cases hjk : j = k
        · subst hjk; exact hjun
        · rw [getD_set_ne true hjk] at hun; exact hun
      have hF' : ∀ w', (unl Ts ((listed.setIfInBounds i true).setIfInBounds j true) = true → F w') → unl Ts (listed.setIfInBounds j true) = true → F w' := fun w' hf hu => hf (by
        rw [Array.setIfInBounds_comm _ _ (Ne.symm hji)]
        exact unl_set' hu hiT)
      refine wpOp_mono (fun a' w' h3 => ⟨hF' _ h3.2.1, ih (listed.setIfInBounds j true) a' w' hfree' (ready_mono hr (Ne.symm hji)) h3.1 (hF' _ h3.2.1) ?_⟩) h2
      rw [Array.setIfInBounds_comm _ _ hji]
      exact h3.2.2
end

structure LA (P : Program) (n : Nat) (ops : Array Oper) (Ts : List Nat) (F : World → Prop) (Q : QT) (fuel : Nat) (listed : Array Bool) (σ : Fr) (w : World) : Prop where
  run : ∀ a, Rel n a σ → wpAnyI P ops (lift n Q) Ts F fuel listed a w

section
variable {P : Program} {n : Nat} {Q : QT} {σ : Fr} {w : World} {ops : Array Oper} {S F : World → Prop} {Ts : List Nat} {fuel : Nat} {listed : Array Bool}

/-- No operation is a defer statement. -/
def noDefer (ops : Array Oper) : Bool := ops.toList.all fun o => match o.op with
  | .defer _ => false
  | _ => true

theorem rowsIn_of {ro : Option Nat} {n : Nat} {row : String} {args : Array Value} {R : Value → World → Prop} (h : Rows P row args w R) : RowsIn (rof ro) n P row args w R :=
  fun c cs _ => let ⟨v, w', r, s⟩ := h c cs; ⟨v, w', r, stepsIn_wide.2 s⟩

theorem opsIn_of {ro : Option Nat} {Q : Exit → Act → World → Prop} (hd : noDefer ops = true) (hO : ¬ LetsOut Q) : ∀ (l : List Nat) (a : Act) (w : World), wpOps P ops Q l a w → wpOpsIn (rof ro) 0 P ops Q l a w
  | [], _, _, h => h
  | i :: rest, a, w, h => by
    unfold wpOps at h
    unfold wpOpsIn
    cases ho : ops[i]? with
    | none => simp only [ho] at h ⊢; exact opsIn_of hd hO rest _ _ h
    | some o =>
      simp only [ho] at h ⊢
      have hnd : ∀ c, o.op ≠ .defer c := by
        intro c hc
        have hm : o ∈ ops.toList := Array.mem_toList_iff.2 (Array.mem_of_getElem? ho)
        have := List.all_eq_true.1 hd o hm
        rw [hc] at this
        cases this
      split at h
      · rename_i hw
        rw [if_pos hw]
        rcases h with h | ⟨_, h⟩
        · refine ⟨fun _ _ => trivial, ?_⟩
          rw [Oper.semAt_eq ro _ o hnd]
          unfold Oper.wp at h
          generalize (execOp a.eval o).run P w = r at h ⊢
          unfold Oper.upon at h
          unfold Oper.uponIn
          split at h <;> simp only at h ⊢
          · exact opsIn_of hd hO rest _ _ h
          · exact opsIn_of hd hO rest _ _ h
          · exact opsIn_of hd hO rest _ _ h
          · refine ⟨(fun h => by cases h), calls_rof.2 (h.mono fun e w'' q => ?_)⟩
            cases e with
            | returned v => exact opsIn_of hd hO rest _ _ q
            | panicked c => exact q
            | outgrown => exact q
          · exact ⟨(fun h => by cases h), rowsIn_of fun c cs => let ⟨v, w', r, s⟩ := h c cs; ⟨v, w', opsIn_of hd hO rest _ _ r, s⟩⟩
          · exact h
        · exact absurd h hO
      · rename_i hw
        rw [if_neg hw]
        exact ⟨fun _ _ => trivial, opsIn_of hd hO rest _ _ h⟩

theorem W_region_draw {ro : Option Nat} (Ts : List Nat) (F : World → Prop) {id : Nat} (hm : P.follows .mixedOrders = true) (hd : noDefer ops = true) (hO : ∀ σ w, ¬ Q .outgrown σ w) (h : LA P n ops Ts F Q ops.size (Array.replicate ops.size false) σ (draws w (w.drawn + 1))) :
    W ro P n (.region id ops true) Q σ w :=
  ⟨fun a ha => wpIn_region_draw fun t => by
    simp only [Region.schedule, hm, Bool.true_or, if_true]
    exact opsIn_of (Q := lift n Q) hd (fun h => by obtain ⟨a', w', τ, _, q⟩ := h; exact hO τ w' q) _ _ _ (wpAny_sound ops.size t _ a _ (wpAny_of_I _ _ _ _ (h.run a ha)))⟩

theorem yld {a : Act} (ha : Rel n a σ) {j d : Nat} {oj : Oper} {b : Bool} (hj : ops[j]? = some oj) (hdj : oj.dst = some d) (hb : at_ σ d = .bool b) : yielded ops a.tmps j = some b := by
  have hv : a.tmps.getD d undef = .bool b := by rw [ha.get, hb]
  have hv' : a.tmps[d]? = some (.bool b) := by
    rw [Array.getD_eq_getD_getElem?] at hv
    cases hh : a.tmps[d]? with
    | none => rw [hh] at hv; simp [undef] at hv
    | some x => rw [hh] at hv; simpa using hv
  simp [yielded, hj, hdj, hv']

/-- Is this operation carried out? -/
def Want (ops : Array Oper) (σ : Fr) (o : Oper) (y : Bool) : Prop :=
  (o.guard = none ∧ y = true) ∨ (∃ j want oj d b, o.guard = some (j, want) ∧ ops[j]? = some oj ∧ oj.dst = some d ∧ at_ σ d = .bool b ∧ y = (b == want)) ∨
    ∃ j want oj d, o.guard = some (j, want) ∧ ops[j]? = some oj ∧ oj.dst = some d ∧ at_ σ d = undef ∧ y = false

theorem Want.plain {o : Oper} (h : o.guard = none) : Want ops σ o true := .inl ⟨h, rfl⟩
theorem Want.grd {o : Oper} {j d : Nat} {want b : Bool} {oj : Oper} (h : o.guard = some (j, want)) (hj : ops[j]? = some oj) (hd : oj.dst = some d) (hb : at_ σ d = .bool b) : Want ops σ o (b == want) :=
  .inr (.inl ⟨j, want, oj, d, b, h, hj, hd, hb, rfl⟩)
theorem Want.undef {o : Oper} {j d : Nat} {want : Bool} {oj : Oper} (h : o.guard = some (j, want)) (hj : ops[j]? = some oj) (hd : oj.dst = some d) (hb : at_ σ d = undef) : Want ops σ o false :=
  .inr (.inr ⟨j, want, oj, d, h, hj, hd, hb, rfl⟩)

theorem Want.wanted {o : Oper} {y : Bool} (h : Want ops σ o y) {a : Act} (ha : Rel n a σ) : Region.wanted o (yielded ops a.tmps) = y := by
  rcases h with ⟨h, rfl⟩ | ⟨j, want, oj, d, b, h, hj, hd, hb, rfl⟩ | ⟨j, want, oj, d, h, hj, hd, hb, rfl⟩
  · simp [Region.wanted, h]
  · simp only [Region.wanted, h, yld ha hj hd hb]
    cases b <;> cases want <;> rfl
  · simp [Region.wanted, h, yielded_undef ha hj hd hb]

/-- An operation that gives its value in every world that meets F may be taken first. -/
theorem LA_take (i : Nat) {o : Oper} {d : Nat} {v : Value} (hi : ops[i]? = some o) (hd : o.dst = some d) (hn : Nat.blt d n = true) (hs : Region.noSelect ops = true) (hf : Region.free .any ops listed i = true)
    (hr : (Region.ready .any ops listed).contains i = true) (hw8 : wait ops Ts i = true) (hT : unl Ts listed = true) (hQ : ∀ c σ w, ¬ Q (.panic c) σ w) (hw : Want ops σ o true)
    (hv : ∀ w, F w → (execOp (ev σ) o).run P w = .ok (.value v) w) (hF : F w) (k : LA P n ops Ts F Q fuel (listed.setIfInBounds i true) (upd σ d v) w) : LA P n ops Ts F Q (fuel + 1) listed σ w := by
  refine ⟨fun a ha => ?_⟩
  have hp := ha.put (d := d) (by simpa using hn) v
  refine wpAnyI_first hi (Region.noSelect_spec hs) hw8 (v := v) (fun c a w ⟨τ, _, q⟩ => absurd q (hQ c τ w)) fuel listed a w (Region.free_spec hi hf) (by simpa using hr)
    (.inl ⟨hw.wanted ha, fun w hF => by rw [ha.eval]; exact hv w hF⟩) hT hF ?_
  rw [hd]
  exact k.run _ hp

theorem LA_leave (i : Nat) {o : Oper} {d : Nat} (hi : ops[i]? = some o) (hd : o.dst = some d) (hn : Nat.blt d n = true) (hs : Region.noSelect ops = true) (hf : Region.free .any ops listed i = true)
    (hr : (Region.ready .any ops listed).contains i = true) (hw8 : wait ops Ts i = true) (hT : unl Ts listed = true) (hQ : ∀ c σ w, ¬ Q (.panic c) σ w) (hw : Want ops σ o false) (hF : F w)
    (k : LA P n ops Ts F Q fuel (listed.setIfInBounds i true) (upd σ d undef) w) : LA P n ops Ts F Q (fuel + 1) listed σ w := by
  refine ⟨fun a ha => ?_⟩
  have hp := ha.put (d := d) (by simpa using hn) undef
  refine wpAnyI_first hi (Region.noSelect_spec hs) hw8 (v := undef) (fun c a w ⟨τ, _, q⟩ => absurd q (hQ c τ w)) fuel listed a w (Region.free_spec hi hf) (by simpa using hr)
    (.inr ⟨hw.wanted ha, rfl⟩) hT hF ?_
  rw [hd]
  exact k.run _ hp

/-- An operation that gives its value in every world may be taken first. -/
theorem LA_takeP (i : Nat) {o : Oper} {d : Nat} {v : Value} (hi : ops[i]? = some o) (hd : o.dst = some d) (hn : Nat.blt d n = true) (hs : Region.noSelect ops = true) (hf : Region.free .any ops listed i = true)
    (hr : (Region.ready .any ops listed).contains i = true) (hiT : Ts.contains i = false) (hQ : ∀ c σ w, ¬ Q (.panic c) σ w) (hw : Want ops σ o true)
    (hv : ∀ w, (execOp (ev σ) o).run P w = .ok (.value v) w) (hF : unl Ts listed = true → F w) (k : LA P n ops Ts F Q fuel (listed.setIfInBounds i true) (upd σ d v) w) : LA P n ops Ts F Q (fuel + 1) listed σ w := by
  refine ⟨fun a ha => ?_⟩
  have hp := ha.put (d := d) (by simpa using hn) v
  refine wpAnyI_firstP hi (Region.noSelect_spec hs) hiT (v := v) (fun c a w ⟨τ, _, q⟩ => absurd q (hQ c τ w)) fuel listed a w (Region.free_spec hi hf) (by simpa using hr)
    (.inl ⟨hw.wanted ha, fun w _ => by rw [ha.eval]; exact hv w⟩) hF ?_
  rw [hd]
  exact k.run _ hp

theorem LA_leaveP (i : Nat) {o : Oper} {d : Nat} (hi : ops[i]? = some o) (hd : o.dst = some d) (hn : Nat.blt d n = true) (hs : Region.noSelect ops = true) (hf : Region.free .any ops listed i = true)
    (hr : (Region.ready .any ops listed).contains i = true) (hiT : Ts.contains i = false) (hQ : ∀ c σ w, ¬ Q (.panic c) σ w) (hw : Want ops σ o false) (hF : unl Ts listed = true → F w)
    (k : LA P n ops Ts F Q fuel (listed.setIfInBounds i true) (upd σ d undef) w) : LA P n ops Ts F Q (fuel + 1) listed σ w := by
  refine ⟨fun a ha => ?_⟩
  have hp := ha.put (d := d) (by simpa using hn) undef
  refine wpAnyI_firstP hi (Region.noSelect_spec hs) hiT (v := undef) (fun c a w ⟨τ, _, q⟩ => absurd q (hQ c τ w)) fuel listed a w (Region.free_spec hi hf) (by simpa using hr)
    (.inr ⟨hw.wanted ha, rfl⟩) hF ?_
  rw [hd]
  exact k.run _ hp

/-- The same three, what a program checks left to it. -/
theorem LT (v : Value) (i : Nat) {o : Oper} {d : Nat} (hi : ops[i]? = some o) (hd : o.dst = some d) (hn : Nat.blt d n = true)
    (hv : ∀ w, F w → (execOp (ev σ) o).run P w = .ok (.value v) w) (hF : F w) (k : LA P n ops Ts F Q fuel (listed.setIfInBounds i true) (upd σ d v) w)
    (hw : Want ops σ o true := by exact Want.plain rfl)
    (hs : Region.noSelect ops = true := by decide +kernel) (hf : Region.free .any ops listed i = true := by decide +kernel) (hr : (Region.ready .any ops listed).contains i = true := by decide +kernel)
    (hw8 : wait ops Ts i = true := by decide +kernel) (hT : unl Ts listed = true := by decide +kernel) (hQ : ∀ c σ w, ¬ Q (.panic c) σ w := by intro _ _ _ h; exact h) : LA P n ops Ts F Q (fuel + 1) listed σ w :=
  LA_take i hi hd hn hs hf hr hw8 hT hQ hw hv hF k
theorem LP (v : Value) (i : Nat) {o : Oper} {d : Nat} (hi : ops[i]? = some o) (hd : o.dst = some d) (hn : Nat.blt d n = true)
    (hv : ∀ w, (execOp (ev σ) o).run P w = .ok (.value v) w) (hF : F w) (k : LA P n ops Ts F Q fuel (listed.setIfInBounds i true) (upd σ d v) w)
    (hw : Want ops σ o true := by exact Want.plain rfl)
    (hs : Region.noSelect ops = true := by decide +kernel) (hf : Region.free .any ops listed i = true := by decide +kernel) (hr : (Region.ready .any ops listed).contains i = true := by decide +kernel)
    (hiT : Ts.contains i = false := by decide +kernel) (hQ : ∀ c σ w, ¬ Q (.panic c) σ w := by intro _ _ _ h; exact h) : LA P n ops Ts F Q (fuel + 1) listed σ w :=
  LA_takeP i hi hd hn hs hf hr hiT hQ hw hv (fun _ => hF) k
theorem LV (i : Nat) {o : Oper} {d : Nat} (hi : ops[i]? = some o) (hd : o.dst = some d) (hn : Nat.blt d n = true) (hF : F w)
    (k : LA P n ops Ts F Q fuel (listed.setIfInBounds i true) (upd σ d undef) w)
    (hw : Want ops σ o false := by exact Want.plain rfl)
    (hs : Region.noSelect ops = true := by decide +kernel) (hf : Region.free .any ops listed i = true := by decide +kernel) (hr : (Region.ready .any ops listed).contains i = true := by decide +kernel)
    (hiT : Ts.contains i = false := by decide +kernel) (hQ : ∀ c σ w, ¬ Q (.panic c) σ w := by intro _ _ _ h; exact h) : LA P n ops Ts F Q (fuel + 1) listed σ w :=
  LA_leaveP i hi hd hn hs hf hr hiT hQ hw (fun _ => hF) k

/-- One of those that may come up. -/
structure One (P : Program) (n : Nat) (ops : Array Oper) (S : World → Prop) (Q : QT) (i : Nat) (K : Fr → World → Prop) (σ : Fr) (w : World) : Prop where
  run : ∀ a, Rel n a σ → wpOp P ops (lift n Q) i (fun a' w' => S w' ∧ ∃ σ', Rel n a' σ' ∧ K σ' w') a w

theorem LA_all (rs : List Nat) (hr : Region.ready .any ops listed = rs) (hne : rs ≠ [])
    (h : ∀ i ∈ rs, One P n ops (fun w' => unl Ts (listed.setIfInBounds i true) = true → F w') Q i (fun σ' w' => LA P n ops Ts F Q fuel (listed.setIfInBounds i true) σ' w') σ w) : LA P n ops Ts F Q (fuel + 1) listed σ w := by
  refine ⟨fun a ha => ⟨fun h0 => absurd (hr ▸ h0) hne, fun i hi => ?_⟩⟩
  rw [hr] at hi
  exact wpOp_mono (fun a' w' ⟨h1, τ, h2, h3⟩ => ⟨h1, h3.run _ h2⟩) ((h i hi).run a ha)

theorem LA_done (hr : Region.ready .any ops listed = []) (h : Q .normal σ w) : LA P n ops Ts F Q fuel listed σ w := by
  refine ⟨fun a ha => ?_⟩
  cases fuel with
  | zero => exact ⟨hr, σ, ha, h⟩
  | succ fuel => exact ⟨fun _ => ⟨σ, ha, h⟩, fun i hi => by rw [hr] at hi; cases hi⟩

theorem One_val {i : Nat} {o : Oper} {d : Nat} {v : Value} {w' : World} {K : Fr → World → Prop} (hi : ops[i]? = some o) (hd : o.dst = some d) (hn : Nat.blt d n = true) (hw : Want ops σ o true)
    (hr : (execOp (ev σ) o).run P w = .ok (.value v) w') (hS : S w') (k : K (upd σ d v) w') : One P n ops S Q i K σ w := by
  refine ⟨fun a ha => ?_⟩
  have hp := ha.put (d := d) (by simpa using hn) v
  unfold wpOp
  simp only [hi, hw.wanted ha, if_true]
  refine .inl ?_
  simp only [Oper.wp, ha.eval, hr, Oper.upon, hd]
  exact ⟨hS, _, hp, k⟩

theorem One_skip {i : Nat} {o : Oper} {w' : World} {K : Fr → World → Prop} (hi : ops[i]? = some o) (hd : o.dst = none) (hw : Want ops σ o true)
    (hr : (execOp (ev σ) o).run P w = .ok .skip w') (hS : S w') (k : K σ w') : One P n ops S Q i K σ w := by
  refine ⟨fun a ha => ?_⟩
  unfold wpOp
  simp only [hi, hw.wanted ha, if_true]
  refine .inl ?_
  simp only [Oper.wp, ha.eval, hr, Oper.upon, hd]
  exact ⟨hS, _, ha, k⟩

theorem One_val_none {i : Nat} {o : Oper} {v : Value} {w' : World} {K : Fr → World → Prop} (hi : ops[i]? = some o) (hd : o.dst = none) (hw : Want ops σ o true)
    (hr : (execOp (ev σ) o).run P w = .ok (.value v) w') (hS : S w') (k : K σ w') : One P n ops S Q i K σ w := by
  refine ⟨fun a ha => ?_⟩
  unfold wpOp
  simp only [hi, hw.wanted ha, if_true]
  refine .inl ?_
  simp only [Oper.wp, ha.eval, hr, Oper.upon, hd]
  exact ⟨hS, _, ha, k⟩

theorem One_leave {i : Nat} {o : Oper} {d : Nat} {K : Fr → World → Prop} (hi : ops[i]? = some o) (hd : o.dst = some d) (hn : Nat.blt d n = true) (hw : Want ops σ o false) (hS : S w) (k : K (upd σ d undef) w) : One P n ops S Q i K σ w := by
  refine ⟨fun a ha => ?_⟩
  have hp := ha.put (d := d) (by simpa using hn) undef
  unfold wpOp
  simp only [hi, hw.wanted ha, Bool.false_eq_true, if_false, hd]
  exact ⟨hS, _, hp, k⟩

theorem One_leave_none {i : Nat} {o : Oper} {K : Fr → World → Prop} (hi : ops[i]? = some o) (hd : o.dst = none) (hw : Want ops σ o false) (hS : S w) (k : K σ w) : One P n ops S Q i K σ w := by
  refine ⟨fun a ha => ?_⟩
  unfold wpOp
  simp only [hi, hw.wanted ha, Bool.false_eq_true, if_false, hd]
  exact ⟨hS, _, ha, k⟩

theorem One_call {i : Nat} {o : Oper} {d f : Nat} {args : Array Value} {w' : World} {R : Ending → World → Prop} {K : Fr → World → Prop} (hi : ops[i]? = some o) (hd : o.dst = some d) (hn : Nat.blt d n = true) (hw : Want ops σ o true)
    (hr : (execOp (ev σ) o).run P w = .ok (.enter f args) w') (hc : Calls P f args w' R)
    (k : ∀ e w'', R e w'' → ∃ v, e = .returned v ∧ S w'' ∧ K (upd σ d v) w'') : One P n ops S Q i K σ w := by
  refine ⟨fun a ha => ?_⟩
  unfold wpOp
  simp only [hi, hw.wanted ha, if_true]
  refine .inl ?_
  simp only [Oper.wp, ha.eval, hr, Oper.upon, hd]
  refine hc.mono fun e w'' h => ?_
  obtain ⟨v, rfl, hS, hK⟩ := k e w'' h
  exact ⟨hS, _, ha.put (d := d) (by simpa using hn) v, hK⟩

end
end Go.Fx
