/-
  Frames as functions, and the rules of control over them: one layer above the library's Code.wp.
-/
import Derived.Tactics
import Derived.Orders
import Derived.TacticsIn
import Derived.RangeFuncRecord
set_option linter.unusedSimpArgs false
set_option linter.unusedVariables false
namespace Go.Fx
open Go

abbrev Fr := Nat → Value

/-- Slot number d of a frame. -/
def at_ (σ : Fr) (d : Nat) : Value := σ (d + 1)
/-- A frame with one slot written. -/
def upd (σ : Fr) (d : Nat) (v : Value) : Fr := fun i => cond (Nat.beq i (d + 1)) v (σ i)

theorem upd_same (σ : Fr) (d : Nat) (v : Value) : at_ (upd σ d v) d = v := by simp [upd, at_]
theorem upd_other (σ : Fr) (d i : Nat) (v : Value) (h : i ≠ d + 1) : upd σ d v i = σ i := by
  have : Nat.beq i (d + 1) = false := by cases e : Nat.beq i (d + 1) with
    | false => rfl
    | true => exact absurd (Nat.eq_of_beq_eq_true e) h
  simp [upd, this]

/-- Any frame is itself with a slot written that held the value before. -/
theorem upd_of {σ τ : Fr} {d : Nat} {v : Value} (h : σ = τ) (hv : at_ σ d = v) : σ = upd τ d v := by
  subst h; subst hv
  funext i
  by_cases e : i = d + 1
  · subst e; exact (upd_same σ d (at_ σ d)).symm
  · rw [upd_other _ _ _ _ e]

/-- The marks that ranges over functions have left: blocks' numbers. -/
def mks : Value → List Nat
  | .tuple vs => vs.toList.map fun v => match v with
    | .int _ n => n.toNat
    | _ => 0
  | _ => []
def mkD (D : Nat) : Deferred := { target := .collected D, args := #[] }

def ev (σ : Fr) : Operand → Value
  | .tmp t => σ (t + 1)
  | .const v => v
  | .global g => .pointer (some ⟨g, 0, none⟩)
  | .func f => .func (.func f) #[] #[]

/-- The activation a has n slots, which read as σ tells, and no more deferred than σ's marks. -/
structure Rel (n : Nat) (a : Act) (σ : Fr) : Prop where
  size : a.tmps.size = n
  defers : a.defers = (mks (σ 0)).map mkD
  get : ∀ i, a.tmps.getD i undef = at_ σ i

theorem Rel.eval {n : Nat} {a : Act} {σ : Fr} (h : Rel n a σ) : a.eval = ev σ := by
  funext x
  cases x with
  | tmp t => exact h.get t
  | const v => rfl
  | global g => rfl
  | func f => rfl

theorem Rel.put {n : Nat} {a : Act} {σ : Fr} (h : Rel n a σ) {d : Nat} (hd : d < n) (v : Value) : Rel n (a.put (some d) v) (upd σ d v) := by
  refine ⟨by simp [Act.put, h.size], (by simp only [Act.put, h.defers]; rfl), fun i => ?_⟩
  have hs := h.size
  have hg := h.get i
  by_cases e : i = d
  · subst e
    rw [upd_same]
    simp [Act.put, Array.getD_eq_getD_getElem?, hs, hd]
  · rw [show at_ (upd σ d v) i = at_ σ i from upd_other _ _ _ _ (by omega), ← hg]
    simp [Act.put, Array.getD_eq_getD_getElem?, Ne.symm e]

theorem Rel.put_none {n : Nat} {a : Act} {σ : Fr} (h : Rel n a σ) (v : Value) : Rel n (a.put none v) σ := h

abbrev QT := Exit → Fr → World → Prop

def lift (n : Nat) (Q : QT) : Exit → Act → World → Prop := fun e a w => ∃ σ, Rel n a σ ∧ Q e σ w

/-- The fence that lets all in, in a round of the loop ro. -/
abbrev rof (ro : Option Nat) : Fence := { fn := fun _ => True, depth := none, alive := false, round := ro }
theorem rof_room (ro : Option Nat) (n : Nat) : (rof ro).room n := fun _ h => by cases h
theorem calls_rof {ro : Option Nat} {n : Nat} {P : Program} {f : FuncId} {args : Array Value} {w : World} {R : Ending → World → Prop} : CallsIn (rof ro) n P f args w R ↔ Calls P f args w R :=
  (Iff.rfl : CallsIn (rof ro) n P f args w R ↔ CallsIn Fence.wide n P f args w R).trans callsIn_wide
theorem wpIn_n {ro : Option Nat} {n m : Nat} {P : Program} {c : Code} {Q : Exit → Act → World → Prop} {a : Act} {w : World} (h : c.wpIn (rof ro) n P Q a w) : c.wpIn (rof ro) m P Q a w :=
  fun b k cs h1 h2 _ => h b k cs h1 h2 (rof_room _ _)

/-- The piece of code c, from a frame σ and a world w, ends with Q. -/
structure W (ro : Option Nat) (P : Program) (n : Nat) (c : Code) (Q : QT) (σ : Fr) (w : World) : Prop where
  run : ∀ a, Rel n a σ → c.wpIn (rof ro) 0 P (lift n Q) a w

def thenQ (K : Fr → World → Prop) (Q : QT) : QT
  | .normal, σ, w => K σ w
  | e, σ, w => Q e σ w

def blockQ (id : Nat) (Q : QT) : QT
  | .exit id', σ, w => if Nat.beq id' id = true then Q .normal σ w else Q (.exit id') σ w
  | e, σ, w => Q e σ w

section
variable {ro : Option Nat} {P : Program} {n : Nat} {Q : QT} {σ : Fr} {w : World}

theorem W.mono {c : Code} {Q' : QT} (h : W ro P n c Q σ w) (hq : ∀ e σ w, Q e σ w → Q' e σ w) : W ro P n c Q' σ w :=
  ⟨fun a ha => wpIn_mono (h.run a ha) fun _ _ _ ⟨τ, hτ, q⟩ => ⟨τ, hτ, hq _ _ _ q⟩⟩

theorem W_skip (h : Q .normal σ w) : W ro P n .skip Q σ w := ⟨fun _ ha => wpIn_skip ⟨σ, ha, h⟩⟩
theorem W_ret (h : Q .ret σ w) : W ro P n .ret Q σ w := ⟨fun _ ha => wpIn_ret ⟨σ, ha, h⟩⟩
theorem W_exit {id : Nat} (h : Q (.exit id) σ w) : W ro P n (.exit id) Q σ w := ⟨fun _ ha => wpIn_exit ⟨σ, ha, h⟩⟩

theorem W_seq {x y : Code} (h : W ro P n x (thenQ (W ro P n y Q) Q) σ w) : W ro P n (.seq x y) Q σ w := by
  refine ⟨fun a ha => ?_⟩
  refine wpIn_seq (wpIn_mono (h.run a ha) ?_)
  rintro e a' w' ⟨τ, hτ, q⟩
  cases e with
  | normal => exact W.run q a' hτ
  | _ => exact ⟨τ, hτ, q⟩

/-- What follows may be told ahead, once for all ways that lead to it. -/
theorem W_seq_k {x y : Code} (K : Fr → World → Prop) (hy : ∀ σ w, K σ w → W ro P n y Q σ w) (hx : W ro P n x (thenQ K Q) σ w) : W ro P n (.seq x y) Q σ w :=
  W_seq (hx.mono fun e σ w h => by cases e <;> first | exact hy _ _ h | exact h)

theorem W_cond_true {c : Operand} {x y : Code} (hc : ev σ c = .bool true) (h : W ro P n x Q σ w) : W ro P n (.cond c x y) Q σ w :=
  ⟨fun a ha => wpIn_cond_true (by rw [ha.eval]; exact hc) (h.run a ha)⟩
theorem W_cond_false {c : Operand} {x y : Code} (hc : ev σ c = .bool false) (h : W ro P n y Q σ w) : W ro P n (.cond c x y) Q σ w :=
  ⟨fun a ha => wpIn_cond_false (by rw [ha.eval]; exact hc) (h.run a ha)⟩
theorem W_cond {c : Operand} {x y : Code} (t : Bool) (hc : ev σ c = .bool t) (ht : t = true → W ro P n x Q σ w) (hf : t = false → W ro P n y Q σ w) :
    W ro P n (.cond c x y) Q σ w := by
  cases t
  · exact W_cond_false hc (hf rfl)
  · exact W_cond_true hc (ht rfl)

theorem W_block {id : Nat} {c : Code} (h : W ro P n c (blockQ id Q) σ w) : W ro P n (.block id c) Q σ w := by
  refine ⟨fun a ha => ?_⟩
  refine wpIn_block (wpIn_mono (h.run a ha) ?_)
  rintro e a' w' ⟨τ, hτ, q⟩
  cases e with
  | exit id' =>
    simp only [blockQ, Nat.beq_eq] at q
    by_cases hid : id' = id
    · simp only [hid, if_true] at q
      simp only [Exit.inBlock, hid, if_true]
      exact ⟨τ, hτ, q⟩
    · simp only [hid, if_false] at q
      simp only [Exit.inBlock, hid, if_false]
      exact ⟨τ, hτ, q⟩
  | _ => exact ⟨τ, hτ, q⟩

theorem W_loop {c : Code} (I : Fr → World → Nat → Prop) {m : Nat} (h₀ : I σ w m)
    (round : ∀ m σ w, I σ w m → W ro P n c (thenQ (fun σ' w' => ∃ m', m' < m ∧ I σ' w' m') Q) σ w) : W ro P n (.loop c) Q σ w := by
  refine ⟨fun a ha b k cs hro hb hr => ?_⟩
  have key : ∀ m a w, (∃ σ, Rel n a σ ∧ I σ w m) →
      ∃ e a' w', lift n Q e a' w' ∧ ArrivesIn (Machine.fenced P (rof ro)) P (lone (b.atR a (.code c :: .inLoop c :: k)) cs w) b k cs e a' w' := by
    intro m
    induction m using Nat.strongRecOn with
    | _ m ih =>
      rintro a w ⟨σ, ha, hI⟩
      obtain ⟨e, a₁, w₁, ⟨τ, hτ, hq⟩, harr⟩ := (round m σ w hI).run a ha b (.inLoop c :: k) cs hro hb hr
      cases e with
      | normal =>
        obtain ⟨m', hlt, hI₁⟩ := hq
        obtain ⟨e₂, a₂, w₂, hq₂, harr₂⟩ := ih m' hlt a₁ w₁ ⟨τ, hτ, hI₁⟩
        exact ⟨e₂, a₂, w₂, hq₂, .of_steps (StepsIn.trans harr (.one (fenced_calm hb hr rfl) stepR_inLoop)) harr₂⟩
      | exit id => exact ⟨_, a₁, w₁, ⟨τ, hτ, hq⟩, .pass (x := .inLoop c) rfl (fun _ _ => .inl (by simp)) harr⟩
      | goto l => exact ⟨_, a₁, w₁, ⟨τ, hτ, hq⟩, .pass (x := .inLoop c) rfl (fun _ _ => .inl (by simp)) harr⟩
      | ret => exact ⟨_, a₁, w₁, ⟨τ, hτ, hq⟩, .pass (x := .inLoop c) rfl (fun _ _ => .inl (by simp)) harr⟩
      | panic ch => exact ⟨_, a₁, w₁, ⟨τ, hτ, hq⟩, .pass (x := .inLoop c) rfl (fun _ _ => .inl (by simp)) harr⟩
      | outgrown => exact ⟨_, a₁, w₁, ⟨τ, hτ, hq⟩, .pass (x := .inLoop c) rfl (fun _ _ => .inl (by simp)) harr⟩
  obtain ⟨e, a', w', hq, harr⟩ := key m a w ⟨σ, ha, h₀⟩
  exact ⟨e, a', w', hq, .of_steps (.one (fenced_calm hb hr rfl) stepR_loop) harr⟩

theorem sem_of {P : Program} {ro : Option Nat} {ρ : Operand → Value} {o : Oper} {w w' : World} {x : Next} (h : (execOp ρ o).run P w = .ok x w') (hx : ∀ d, x ≠ .defer d) : (o.semAt ro ρ).run P w = .ok x w' := by
  by_cases hd : ∃ c, o.op = .defer c
  · obtain ⟨c, hc⟩ := hd
    exfalso
    unfold execOp at h
    simp only [hc, Sem.run_bind] at h
    cases hr : (resolve ρ c o.type).run P w with
    | ok d w1 => rw [hr] at h; simp only [Result.andThen, Sem.run_pure, Result.ok.injEq] at h; exact hx d h.1.symm
    | halt s w1 => rw [hr] at h; simp [Result.andThen] at h
  · rw [Oper.semAt_eq ro ρ o (fun c hc => hd ⟨c, hc⟩)]; exact h
theorem sem_val {P : Program} {ρ : Operand → Value} {o : Oper} {w w' : World} {v : Value} (h : (execOp ρ o).run P w = .ok (.value v) w') {ro : Option Nat} : (o.semAt ro ρ).run P w = .ok (.value v) w' := sem_of h (by simp)
theorem sem_skip {P : Program} {ρ : Operand → Value} {o : Oper} {w w' : World} (h : (execOp ρ o).run P w = .ok .skip w') {ro : Option Nat} : (o.semAt ro ρ).run P w = .ok .skip w' := sem_of h (by simp)
theorem sem_enter {P : Program} {ρ : Operand → Value} {o : Oper} {w w' : World} {f : FuncId} {args : Array Value} (h : (execOp ρ o).run P w = .ok (.enter f args) w') {ro : Option Nat} : (o.semAt ro ρ).run P w = .ok (.enter f args) w' := sem_of h (by simp)

/-- The rest l of a region whose operations are ops. -/
structure L (ro : Option Nat) (P : Program) (n : Nat) (ops : Array Oper) (l : List Oper) (Q : QT) (σ : Fr) (w : World) : Prop where
  run : ∀ a, Rel n a σ → wpListIn (rof ro) 0 P ops (lift n Q) l a w

theorem W_region {id : Nat} {ops : Array Oper} (h : L ro P n ops ops.toList Q σ w) : W ro P n (.region id ops false) Q σ w :=
  ⟨fun a ha => wpIn_region_list (h.run a ha)⟩

theorem W_region_lit {id : Nat} {l : List Oper} (h : L ro P n l.toArray l Q σ w) : W ro P n (.region id l.toArray false) Q σ w :=
  W_region (by simpa using h)

variable {ops : Array Oper} {rest : List Oper}

theorem L_nil (h : Q .normal σ w) : L ro P n ops [] Q σ w := ⟨fun _ ha => ⟨σ, ha, h⟩⟩

/-- An operation without a guard that gives a value. -/
theorem L_val {o : Oper} {d : Nat} {v : Value} {w' : World} (hg : o.guard = none) (hd : o.dst = some d) (hn : Nat.blt d n = true)
    (hr : (execOp (ev σ) o).run P w = .ok (.value v) w') (k : L ro P n ops rest Q (upd σ d v) w') : L ro P n ops (o :: rest) Q σ w := by
  refine ⟨fun a ha => ?_⟩
  unfold wpListIn
  rw [if_pos (by simp [Region.wanted, hg])]
  refine ⟨fun _ _ => trivial, ?_⟩
  rw [ha.eval, sem_val hr, Oper.uponIn_value, hd]
  exact k.run _ (ha.put (by simpa using hn) v)
/-- A quiet operation. -/
theorem Lq {o : Oper} {d : Nat} (v : Value) (hg : o.guard = none) (hd : o.dst = some d) (hn : Nat.blt d n = true)
    (hr : (execOp (ev σ) o).run P w = .ok (.value v) w) (k : L ro P n ops rest Q (upd σ d v) w) : L ro P n ops (o :: rest) Q σ w := L_val hg hd hn hr k

theorem L_val_none {o : Oper} {v : Value} {w' : World} (hg : o.guard = none) (hd : o.dst = none)
    (hr : (execOp (ev σ) o).run P w = .ok (.value v) w') (k : L ro P n ops rest Q σ w') : L ro P n ops (o :: rest) Q σ w := by
  refine ⟨fun a ha => ?_⟩
  unfold wpListIn
  rw [if_pos (by simp [Region.wanted, hg])]
  refine ⟨fun _ _ => trivial, ?_⟩
  rw [ha.eval, sem_val hr, Oper.uponIn_value, hd]
  exact k.run _ ha

/-- An operation without a guard that gives nothing (a store). -/
theorem L_skip {o : Oper} {w' : World} (hg : o.guard = none) (hd : o.dst = none)
    (hr : (execOp (ev σ) o).run P w = .ok .skip w') (k : L ro P n ops rest Q σ w') : L ro P n ops (o :: rest) Q σ w := by
  refine ⟨fun a ha => ?_⟩
  unfold wpListIn
  rw [if_pos (by simp [Region.wanted, hg])]
  refine ⟨fun _ _ => trivial, ?_⟩
  rw [ha.eval, sem_skip hr, Oper.uponIn_skip, hd]
  exact k.run _ ha

/-- A guard that is met falls away; one that is not met leaves the slot empty. -/
theorem L_guard {o : Oper} {j d : Nat} {b want : Bool} {oj : Oper} (hg : o.guard = some (j, want)) (hj : ops[j]? = some oj) (hdj : oj.dst = some d) (hb : at_ σ d = .bool b) (he : b = want)
    (k : L ro P n ops ({ o with guard := none } :: rest) Q σ w) : L ro P n ops (o :: rest) Q σ w := by
  refine ⟨fun a ha => ?_⟩
  have h := k.run a ha
  unfold wpListIn at h ⊢
  rw [if_pos (by simp [Region.wanted])] at h
  have hy : Region.wanted o (yielded ops a.tmps) = true := by
    have hv : a.tmps.getD d undef = .bool b := by rw [ha.get, hb]
    have hv' : a.tmps[d]? = some (.bool b) := by
      rw [Array.getD_eq_getD_getElem?] at hv
      cases hh : a.tmps[d]? with
      | none => rw [hh] at hv; simp [undef] at hv
      | some x => rw [hh] at hv; simpa using hv
    simp [Region.wanted, hg, yielded, hj, hdj, hv', he]
  rw [if_pos hy]
  exact h

theorem L_unwanted {o : Oper} {j d dd : Nat} {b want : Bool} {oj : Oper} (hg : o.guard = some (j, want)) (hj : ops[j]? = some oj) (hdj : oj.dst = some d) (hb : at_ σ d = .bool b) (he : b = !want)
    (hd : o.dst = some dd) (hn : Nat.blt dd n = true) (k : L ro P n ops rest Q (upd σ dd undef) w) : L ro P n ops (o :: rest) Q σ w := by
  refine ⟨fun a ha => ?_⟩
  unfold wpListIn
  have hy : Region.wanted o (yielded ops a.tmps) = false := by
    have hv : a.tmps.getD d undef = .bool b := by rw [ha.get, hb]
    have hv' : a.tmps[d]? = some (.bool b) := by
      rw [Array.getD_eq_getD_getElem?] at hv
      cases hh : a.tmps[d]? with
      | none => rw [hh] at hv; simp [undef] at hv
      | some x => rw [hh] at hv; simpa using hv
    simp [Region.wanted, hg, yielded, hj, hdj, hv', he]
  rw [if_neg (by simp [hy]), hd]
  refine ⟨fun _ _ => trivial, ?_⟩
  exact k.run _ (ha.put (by simpa using hn) undef)

theorem L_unwanted_none {o : Oper} {j d : Nat} {b want : Bool} {oj : Oper} (hg : o.guard = some (j, want)) (hj : ops[j]? = some oj) (hdj : oj.dst = some d) (hb : at_ σ d = .bool b) (he : b = !want)
    (hd : o.dst = none) (k : L ro P n ops rest Q σ w) : L ro P n ops (o :: rest) Q σ w := by
  refine ⟨fun a ha => ?_⟩
  unfold wpListIn
  have hy : Region.wanted o (yielded ops a.tmps) = false := by
    have hv : a.tmps.getD d undef = .bool b := by rw [ha.get, hb]
    have hv' : a.tmps[d]? = some (.bool b) := by
      rw [Array.getD_eq_getD_getElem?] at hv
      cases hh : a.tmps[d]? with
      | none => rw [hh] at hv; simp [undef] at hv
      | some x => rw [hh] at hv; simpa using hv
    simp [Region.wanted, hg, yielded, hj, hdj, hv', he]
  rw [if_neg (by simp [hy]), hd]
  refine ⟨fun _ _ => trivial, ?_⟩
  exact k.run _ ha

theorem yielded_undef {a : Act} (ha : Rel n a σ) {j d : Nat} {oj : Oper} (hj : ops[j]? = some oj) (hdj : oj.dst = some d) (hb : at_ σ d = undef) : yielded ops a.tmps j = none := by
  have hv : a.tmps.getD d undef = undef := by rw [ha.get, hb]
  rw [Array.getD_eq_getD_getElem?] at hv
  simp only [yielded, hj, hdj, Option.bind_some]
  cases hh : a.tmps[d]? with
  | none => rfl
  | some x => rw [hh] at hv; simp only [Option.getD_some] at hv; subst hv; rfl
/-- A guard whose own operation was left out: left out. -/
theorem L_unwanted_undef {o : Oper} {j d dd : Nat} {want : Bool} {oj : Oper} (hg : o.guard = some (j, want)) (hj : ops[j]? = some oj) (hdj : oj.dst = some d) (hb : at_ σ d = undef)
    (hd : o.dst = some dd) (hn : Nat.blt dd n = true) (k : L ro P n ops rest Q (upd σ dd undef) w) : L ro P n ops (o :: rest) Q σ w := by
  refine ⟨fun a ha => ?_⟩
  unfold wpListIn
  have hy : Region.wanted o (yielded ops a.tmps) = false := by simp [Region.wanted, hg, yielded_undef ha hj hdj hb]
  rw [if_neg (by simp [hy]), hd]
  refine ⟨fun _ _ => trivial, ?_⟩
  exact k.run _ (ha.put (by simpa using hn) undef)
theorem L_unwanted_undef_none {o : Oper} {j d : Nat} {want : Bool} {oj : Oper} (hg : o.guard = some (j, want)) (hj : ops[j]? = some oj) (hdj : oj.dst = some d) (hb : at_ σ d = undef)
    (hd : o.dst = none) (k : L ro P n ops rest Q σ w) : L ro P n ops (o :: rest) Q σ w := by
  refine ⟨fun a ha => ?_⟩
  unfold wpListIn
  have hy : Region.wanted o (yielded ops a.tmps) = false := by simp [Region.wanted, hg, yielded_undef ha hj hdj hb]
  rw [if_neg (by simp [hy]), hd]
  refine ⟨fun _ _ => trivial, ?_⟩
  exact k.run _ ha

/-- A call of a function by its contract. -/
theorem L_call {o : Oper} {d f : Nat} {args : Array Value} {w' : World} {R : Ending → World → Prop} (hg : o.guard = none) (hd : o.dst = some d) (hn : Nat.blt d n = true)
    (hr : (execOp (ev σ) o).run P w = .ok (.enter f args) w') (hc : Calls P f args w' R)
    (k : ∀ e w'', R e w'' → ∃ v, e = .returned v ∧ L ro P n ops rest Q (upd σ d v) w'') : L ro P n ops (o :: rest) Q σ w := by
  refine ⟨fun a ha => ?_⟩
  unfold wpListIn
  rw [if_pos (by simp [Region.wanted, hg])]
  refine ⟨fun _ _ => trivial, ?_⟩
  rw [ha.eval, sem_enter hr, Oper.uponIn_enter, hd]
  refine ⟨(fun h => by cases h), calls_rof.2 (hc.mono fun e w'' h => ?_)⟩
  obtain ⟨v, rfl, hL⟩ := k e w'' h
  exact hL.run _ (ha.put (by simpa using hn) v)

/-- How a function leaves: with v, in a world w'; marks are taken on the way. -/
def Leaves (P : Program) (fn : Func) (a : Act) (w : World) (v : Value) (w' : World) : Prop :=
  ∀ R : Ending → World → Prop, R (.returned v) w' → LeavesInM (rof none) 0 P fn a.tmps R a.defers .returning w

/-- A function's body. -/
def fpost (P : Program) (n : Nat) (fn : Func) (R : Ending → World → Prop) : QT
  | .normal, σ, w | .ret, σ, w => ∃ v w', (∀ a, Rel n a σ → Leaves P fn a w v w') ∧ R (.returned v) w'
  | _, _, _ => False

def argsFr (args : Array Value) : Fr
  | 0 => undef
  | i + 1 => args.getD i undef

theorem rel_start {args : Array Value} (h : args.size ≤ n) : Rel n { tmps := args ++ Array.replicate (n - args.size) undef, defers := [] } (argsFr args) := by
  refine ⟨by simp; omega, rfl, fun i => ?_⟩
  simp only [argsFr, at_, Array.getD_eq_getD_getElem?]
  by_cases hi : i < args.size
  · rw [Array.getElem?_append_left hi]
  · rw [Array.getElem?_append_right (by omega), Array.getElem?_eq_none (xs := args) (by omega)]
    rw [Array.getElem?_replicate]
    split <;> rfl

theorem calls_of_W {f : FuncId} {fn : Func} {c : Code} {args : Array Value} {R : Ending → World → Prop}
    (hf : P.funcs[f]? = some fn) (hb : fn.body = some c) (hn : fn.ntmps = n) (hs : args.size ≤ n) (h : W none P n c (fpost P n fn R) (argsFr args) w) : Calls P f args w R := by
  subst hn
  refine calls_rof.1 (callsIn_of_wp_marks (F := rof none) (n := 0) hf hb trivial (wpIn_mono (h.run _ (rel_start hs)) ?_) rfl)
  rintro e a w' ⟨σ, ha, q⟩
  cases e with
  | normal => obtain ⟨v, w2, hv, hR⟩ := q; exact hv a ha R hR
  | ret => obtain ⟨v, w2, hv, hR⟩ := q; exact hv a ha R hR
  | _ => exact q.elim


/-- What one result is. -/
inductive Res1 (P : Program) (σ : Fr) (w : World) : ResultVar → Value → Prop
  | tmp {t v} : at_ σ t = v → Res1 P σ w (.tmp t) v
  | cell {a t b off v} : at_ σ a = .pointer (some ⟨b, off, none⟩) → (loadVar t ⟨b, off, none⟩).run P w = .ok v w → Res1 P σ w (.cell a t) v

inductive Res (P : Program) (σ : Fr) (w : World) : List ResultVar → List Value → Prop
  | nil : Res P σ w [] []
  | cons {r v rs vs} : Res1 P σ w r v → Res P σ w rs vs → Res P σ w (r :: rs) (v :: vs)

def retV : List Value → Value
  | [v] => v
  | vs => .tuple vs.toArray

def res1 (tmps : Array Value) : ResultVar → Sem Value
  | .tmp t => pure (tmps.getD t undef)
  | .cell a t => do loadVar t (← asAddr (tmps.getD a undef))

theorem res_run0 {fn : Func} {rs : List ResultVar} {vs : List Value} (hr : fn.results = rs.toArray) (h : Res P σ w rs vs) (a : Act) (ha : Rel n a σ) : (results fn a.tmps).run P w = .ok (retV vs) w := by
  have one : ∀ r v, Res1 P σ w r v → (res1 a.tmps r).run P w = .ok v w := by
    intro r v h1
    cases h1 with
    | tmp ht => simp only [res1, Sem.run_pure, ha.get, ht]
    | cell hb hl => simp only [res1, ha.get, hb, asAddr, Sem.run_bind, Sem.run_pure, Result.andThen_ok, hl]
  have key : (rs.mapM (res1 a.tmps)).run P w = .ok vs w := by
    clear hr
    induction h with
    | nil => rfl
    | cons h1 _ ih => simp only [List.mapM_cons, Sem.run_bind, one _ _ h1, Result.andThen_ok, ih, Sem.run_pure]
  have hf : results fn a.tmps = (do let vs ← fn.results.mapM (res1 a.tmps); pure (if h : vs.size = 1 then vs[0] else .tuple vs)) := by
    unfold results
    congr 1
  rw [hf, hr]
  simp only [Sem.run_bind, List.mapM_toArray, Sem.run_map, key, Result.andThen_ok, Sem.run_pure]
  match vs with
  | [] => rfl
  | [v] => rfl
  | _ :: _ :: _ => simp [retV]

theorem leaves_nil {fn : Func} {a : Act} {v : Value} (hd : a.defers = []) (hv : (results fn a.tmps).run P w = .ok v w) : Leaves P fn a w v w := by
  intro R hR
  rw [hd]
  exact ⟨v, hv, hR⟩

theorem res_run {fn : Func} {rs : List ResultVar} {vs : List Value} (hr : fn.results = rs.toArray) (h : Res P σ w rs vs) (h0 : mks (σ 0) = []) (a : Act) (ha : Rel n a σ) : Leaves P fn a w (retV vs) w :=
  leaves_nil (by rw [ha.defers, h0]; rfl) (res_run0 hr h a ha)

/-- One mark: the block is shut; then the results are read. -/
theorem res_run1 {fn : Func} {rs : List ResultVar} {vs : List Value} {D : Nat} (hr : fn.results = rs.toArray) (hD : w.heap[D]? = some (.deferred (some []))) (h : Res P σ (w.putObj D (.deferred none)) rs vs) (h0 : mks (σ 0) = [D]) (a : Act) (ha : Rel n a σ) :
    Leaves P fn a w (retV vs) (w.putObj D (.deferred none)) := by
  intro R hR
  rw [ha.defers, h0]
  refine ⟨by simp, .inl ⟨D, _, rfl, run_takeDeferred hD, ?_⟩⟩
  exact ⟨_, res_run0 hr h a ha, hR⟩

end
end Go.Fx
