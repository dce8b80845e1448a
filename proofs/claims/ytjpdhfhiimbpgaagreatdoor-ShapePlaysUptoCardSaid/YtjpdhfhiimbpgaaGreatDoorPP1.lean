/-
  Fx1, Fx2, Fx3, Fx4, Fx5, Fx6, Fx7, Fx8, Fx9, Fx10, Fx11, Fx12, Fx13, Fx14, Fx16, Fx17, Fx18, Fx20, Fx22, Fx23, Sp1, Sp2, put together.
-/
import Derived.Tactics
import Derived.Orders
import Derived.TacticsIn
import Derived.RangeFuncRecord
import Derived.Laws.Cells
import Derived.Laws.CopyRow
import Derived.Below
import Derived.Laws.AppendOwn
import Derived.MapKept
import Derived.Laws.StructEq
import Derived.OrdersHeld
import Derived.KernelRfl
import Derived.Maps.RangeRun
import Derived.WalkKit
import Derived.ProofKit
import Derived.OpenShut
import Derived.JoinedCond
import Derived.Lib.Join
import Derived.Lib.AppendStr
import Derived.Test.YtjpdhfhiimbpgaaGreatDoorProg
set_option linter.unusedSimpArgs false
set_option linter.unusedVariables false
namespace Go.Fx
open Go
abbrev Fr := Nat → Value
/-- Slot number d of a frame. -/
def at_ (σ : Fr) (d : Nat) : Value := σ (d + 1)
/-- A frame with one slot written. -/
def upd (σ : Fr) (d : Nat) (v : Value) : Fr := fun i => cond (Nat.beq i (d + 1)) v (σ i)
theorem upd_same (σ : Fr) (d : Nat) (v : Value) : at_ (upd σ d v) d = v := by simp [upd, at_]
theorem upd_other (σ : Fr) (d i : Nat) (v : Value) (h : i ≠ d + 1) : upd σ d v i = σ i := by
  have : Nat.beq i (d + 1) = false := by cases e : Nat.beq i (d + 1) with
    | false => rfl
    | true => exact absurd (Nat.eq_of_beq_eq_true e) h
  simp [upd, this]
/-- Any frame is itself with a slot written that held the value before. -/
theorem upd_of {σ τ : Fr} {d : Nat} {v : Value} (h : σ = τ) (hv : at_ σ d = v) : σ = upd τ d v := by
  subst h; subst hv
  funext i
  by_cases e : i = d + 1
  · subst e; exact (upd_same σ d (at_ σ d)).symm
  · rw [upd_other _ _ _ _ e]
/-- The marks that ranges over functions have left: blocks' numbers. -/
def mks : Value → List Nat
  | .tuple vs => vs.toList.map fun v => match v with
    | .int _ n => n.toNat
    | _ => 0
  | _ => []
def mkD (D : Nat) : Deferred := { target := .collected D, args := #[] }
def ev (σ : Fr) : Operand → Value
  | .tmp t => σ (t + 1)
  | .const v => v
  | .global g => .pointer (some ⟨g, 0, none⟩)
  | .func f => .func (.func f) #[] #[]
/-- The activation a has n slots, which read as σ tells, and no more deferred than σ's marks. -/
structure Rel (n : Nat) (a : Act) (σ : Fr) : Prop where
  size : a.tmps.size = n
  defers : a.defers = (mks (σ 0)).map mkD
  get : ∀ i, a.tmps.getD i undef = at_ σ i
theorem Rel.eval {n : Nat} {a : Act} {σ : Fr} (h : Rel n a σ) : a.eval = ev σ := by
  funext x
  cases x with
  | tmp t => exact h.get t
  | const v => rfl
  | global g => rfl
  | func f => rfl
theorem Rel.put {n : Nat} {a : Act} {σ : Fr} (h : Rel n a σ) {d : Nat} (hd : d < n) (v : Value) : Rel n (a.put (some d) v) (upd σ d v) := by
  refine ⟨by simp [Act.put, h.size], (by simp only [Act.put, h.defers]; rfl), fun i => ?_⟩
  have hs := h.size
  have hg := h.get i
  by_cases e : i = d
  · subst e
    rw [upd_same]
    simp [Act.put, Array.getD_eq_getD_getElem?, hs, hd]
  · rw [show at_ (upd σ d v) i = at_ σ i from upd_other _ _ _ _ (by omega), ← hg]
    simp [Act.put, Array.getD_eq_getD_getElem?, Ne.symm e]
abbrev QT := Exit → Fr → World → Prop
def lift (n : Nat) (Q : QT) : Exit → Act → World → Prop := fun e a w => ∃ σ, Rel n a σ ∧ Q e σ w
/-- The fence that lets all in, in a round of the loop ro. -/
abbrev rof (ro : Option Nat) : Fence := { fn := fun _ => True, depth := none, alive := false, round := ro }
theorem calls_rof {ro : Option Nat} {n : Nat} {P : Program} {f : FuncId} {args : Array Value} {w : World} {R : Ending → World → Prop} : CallsIn (rof ro) n P f args w R ↔ Calls P f args w R :=
  (Iff.rfl : CallsIn (rof ro) n P f args w R ↔ CallsIn Fence.wide n P f args w R).trans callsIn_wide
/-- The piece of code c, from a frame σ and a world w, ends with Q. -/
structure W (ro : Option Nat) (P : Program) (n : Nat) (c : Code) (Q : QT) (σ : Fr) (w : World) : Prop where
  run : ∀ a, Rel n a σ → c.wpIn (rof ro) 0 P (lift n Q) a w
def thenQ (K : Fr → World → Prop) (Q : QT) : QT
  | .normal, σ, w => K σ w
  | e, σ, w => Q e σ w
def blockQ (id : Nat) (Q : QT) : QT
  | .exit id', σ, w => if Nat.beq id' id = true then Q .normal σ w else Q (.exit id') σ w
  | e, σ, w => Q e σ w
section
variable {ro : Option Nat} {P : Program} {n : Nat} {Q : QT} {σ : Fr} {w : World}
theorem W.mono {c : Code} {Q' : QT} (h : W ro P n c Q σ w) (hq : ∀ e σ w, Q e σ w → Q' e σ w) : W ro P n c Q' σ w :=
  ⟨fun a ha => wpIn_mono (h.run a ha) fun _ _ _ ⟨τ, hτ, q⟩ => ⟨τ, hτ, hq _ _ _ q⟩⟩
theorem W_skip (h : Q .normal σ w) : W ro P n .skip Q σ w := ⟨fun _ ha => wpIn_skip ⟨σ, ha, h⟩⟩
theorem W_ret (h : Q .ret σ w) : W ro P n .ret Q σ w := ⟨fun _ ha => wpIn_ret ⟨σ, ha, h⟩⟩
theorem W_exit {id : Nat} (h : Q (.exit id) σ w) : W ro P n (.exit id) Q σ w := ⟨fun _ ha => wpIn_exit ⟨σ, ha, h⟩⟩
theorem W_seq {x y : Code} (h : W ro P n x (thenQ (W ro P n y Q) Q) σ w) : W ro P n (.seq x y) Q σ w := by
  refine ⟨fun a ha => ?_⟩
  refine wpIn_seq (wpIn_mono (h.run a ha) ?_)
  rintro e a' w' ⟨τ, hτ, q⟩
  cases e with
  | normal => exact W.run q a' hτ
  | _ => exact ⟨τ, hτ, q⟩
/-- What follows may be told ahead, once for all ways that lead to it. -/
theorem W_seq_k {x y : Code} (K : Fr → World → Prop) (hy : ∀ σ w, K σ w → W ro P n y Q σ w) (hx : W ro P n x (thenQ K Q) σ w) : W ro P n (.seq x y) Q σ w :=
  W_seq (hx.mono fun e σ w h => by cases e <;> first | exact hy _ _ h | exact h)
theorem W_cond_true {c : Operand} {x y : Code} (hc : ev σ c = .bool true) (h : W ro P n x Q σ w) : W ro P n (.cond c x y) Q σ w :=
  ⟨fun a ha => wpIn_cond_true (by rw [ha.eval]; exact hc) (h.run a ha)⟩
theorem W_cond_false {c : Operand} {x y : Code} (hc : ev σ c = .bool false) (h : W ro P n y Q σ w) : W ro P n (.cond c x y) Q σ w :=
  ⟨fun a ha => wpIn_cond_false (by rw [ha.eval]; exact hc) (h.run a ha)⟩
theorem W_block {id : Nat} {c : Code} (h : W ro P n c (blockQ id Q) σ w) : W ro P n (.block id c) Q σ w := by
  refine ⟨fun a ha => ?_⟩
  refine wpIn_block (wpIn_mono (h.run a ha) ?_)
  rintro e a' w' ⟨τ, hτ, q⟩
  cases e with
  | exit id' =>
    simp only [blockQ, Nat.beq_eq] at q
    by_cases hid : id' = id
    · simp only [hid, if_true] at q
      simp only [Exit.inBlock, hid, if_true]
      exact ⟨τ, hτ, q⟩
    · simp only [hid, if_false] at q
      simp only [Exit.inBlock, hid, if_false]
      exact ⟨τ, hτ, q⟩
  | _ => exact ⟨τ, hτ, q⟩
theorem W_loop {c : Code} (I : Fr → World → Nat → Prop) {m : Nat} (h₀ : I σ w m)
    (round : ∀ m σ w, I σ w m → W ro P n c (thenQ (fun σ' w' => ∃ m', m' < m ∧ I σ' w' m') Q) σ w) : W ro P n (.loop c) Q σ w := by
  refine ⟨fun a ha b k cs hro hb hr => ?_⟩
  have key : ∀ m a w, (∃ σ, Rel n a σ ∧ I σ w m) →
      ∃ e a' w', lift n Q e a' w' ∧ ArrivesIn (Machine.fenced P (rof ro)) P (lone (b.atR a (.code c :: .inLoop c :: k)) cs w) b k cs e a' w' := by
    intro m
    induction m using Nat.strongRecOn with
    | _ m ih =>
      rintro a w ⟨σ, ha, hI⟩
      obtain ⟨e, a₁, w₁, ⟨τ, hτ, hq⟩, harr⟩ := (round m σ w hI).run a ha b (.inLoop c :: k) cs hro hb hr
      cases e with
      | normal =>
        obtain ⟨m', hlt, hI₁⟩ := hq
        obtain ⟨e₂, a₂, w₂, hq₂, harr₂⟩ := ih m' hlt a₁ w₁ ⟨τ, hτ, hI₁⟩
        exact ⟨e₂, a₂, w₂, hq₂, .of_steps (StepsIn.trans harr (.one (fenced_calm hb hr rfl) stepR_inLoop)) harr₂⟩
      | exit id => exact ⟨_, a₁, w₁, ⟨τ, hτ, hq⟩, .pass (x := .inLoop c) rfl (fun _ _ => .inl (by simp)) harr⟩
      | goto l => exact ⟨_, a₁, w₁, ⟨τ, hτ, hq⟩, .pass (x := .inLoop c) rfl (fun _ _ => .inl (by simp)) harr⟩
      | ret => exact ⟨_, a₁, w₁, ⟨τ, hτ, hq⟩, .pass (x := .inLoop c) rfl (fun _ _ => .inl (by simp)) harr⟩
      | panic ch => exact ⟨_, a₁, w₁, ⟨τ, hτ, hq⟩, .pass (x := .inLoop c) rfl (fun _ _ => .inl (by simp)) harr⟩
      | outgrown => exact ⟨_, a₁, w₁, ⟨τ, hτ, hq⟩, .pass (x := .inLoop c) rfl (fun _ _ => .inl (by simp)) harr⟩
  obtain ⟨e, a', w', hq, harr⟩ := key m a w ⟨σ, ha, h₀⟩
  exact ⟨e, a', w', hq, .of_steps (.one (fenced_calm hb hr rfl) stepR_loop) harr⟩
theorem sem_of {P : Program} {ro : Option Nat} {ρ : Operand → Value} {o : Oper} {w w' : World} {x : Next} (h : (execOp ρ o).run P w = .ok x w') (hx : ∀ d, x ≠ .defer d) : (o.semAt ro ρ).run P w = .ok x w' := by
  by_cases hd : ∃ c, o.op = .defer c
  · obtain ⟨c, hc⟩ := hd
    exfalso
    unfold execOp at h
    simp only [hc, Sem.run_bind] at h
    cases hr : (resolve ρ c o.type).run P w with
    | ok d w1 => rw [hr] at h; simp only [Result.andThen, Sem.run_pure, Result.ok.injEq] at h; exact hx d h.1.symm
    | halt s w1 => rw [hr] at h; simp [Result.andThen] at h
  · rw [Oper.semAt_eq ro ρ o (fun c hc => hd ⟨c, hc⟩)]; exact h
theorem sem_val {P : Program} {ρ : Operand → Value} {o : Oper} {w w' : World} {v : Value} (h : (execOp ρ o).run P w = .ok (.value v) w') {ro : Option Nat} : (o.semAt ro ρ).run P w = .ok (.value v) w' := sem_of h (by simp)
theorem sem_skip {P : Program} {ρ : Operand → Value} {o : Oper} {w w' : World} (h : (execOp ρ o).run P w = .ok .skip w') {ro : Option Nat} : (o.semAt ro ρ).run P w = .ok .skip w' := sem_of h (by simp)
theorem sem_enter {P : Program} {ρ : Operand → Value} {o : Oper} {w w' : World} {f : FuncId} {args : Array Value} (h : (execOp ρ o).run P w = .ok (.enter f args) w') {ro : Option Nat} : (o.semAt ro ρ).run P w = .ok (.enter f args) w' := sem_of h (by simp)
/-- The rest l of a region whose operations are ops. -/
structure L (ro : Option Nat) (P : Program) (n : Nat) (ops : Array Oper) (l : List Oper) (Q : QT) (σ : Fr) (w : World) : Prop where
  run : ∀ a, Rel n a σ → wpListIn (rof ro) 0 P ops (lift n Q) l a w
theorem W_region {id : Nat} {ops : Array Oper} (h : L ro P n ops ops.toList Q σ w) : W ro P n (.region id ops false) Q σ w :=
  ⟨fun a ha => wpIn_region_list (h.run a ha)⟩
theorem W_region_lit {id : Nat} {l : List Oper} (h : L ro P n l.toArray l Q σ w) : W ro P n (.region id l.toArray false) Q σ w :=
  W_region (by simpa using h)
variable {ops : Array Oper} {rest : List Oper}
theorem L_nil (h : Q .normal σ w) : L ro P n ops [] Q σ w := ⟨fun _ ha => ⟨σ, ha, h⟩⟩
/-- An operation without a guard that gives a value. -/
theorem L_val {o : Oper} {d : Nat} {v : Value} {w' : World} (hg : o.guard = none) (hd : o.dst = some d) (hn : Nat.blt d n = true)
    (hr : (execOp (ev σ) o).run P w = .ok (.value v) w') (k : L ro P n ops rest Q (upd σ d v) w') : L ro P n ops (o :: rest) Q σ w := by
  refine ⟨fun a ha => ?_⟩
  unfold wpListIn
  rw [if_pos (by simp [Region.wanted, hg])]
  refine ⟨fun _ _ => trivial, ?_⟩
  rw [ha.eval, sem_val hr, Oper.uponIn_value, hd]
  exact k.run _ (ha.put (by simpa using hn) v)
/-- A quiet operation. -/
theorem Lq {o : Oper} {d : Nat} (v : Value) (hg : o.guard = none) (hd : o.dst = some d) (hn : Nat.blt d n = true)
    (hr : (execOp (ev σ) o).run P w = .ok (.value v) w) (k : L ro P n ops rest Q (upd σ d v) w) : L ro P n ops (o :: rest) Q σ w := L_val hg hd hn hr k
/-- An operation without a guard that gives nothing (a store). -/
theorem L_skip {o : Oper} {w' : World} (hg : o.guard = none) (hd : o.dst = none)
    (hr : (execOp (ev σ) o).run P w = .ok .skip w') (k : L ro P n ops rest Q σ w') : L ro P n ops (o :: rest) Q σ w := by
  refine ⟨fun a ha => ?_⟩
  unfold wpListIn
  rw [if_pos (by simp [Region.wanted, hg])]
  refine ⟨fun _ _ => trivial, ?_⟩
  rw [ha.eval, sem_skip hr, Oper.uponIn_skip, hd]
  exact k.run _ ha
/-- A guard that is met falls away; one that is not met leaves the slot empty. -/
theorem L_guard {o : Oper} {j d : Nat} {b want : Bool} {oj : Oper} (hg : o.guard = some (j, want)) (hj : ops[j]? = some oj) (hdj : oj.dst = some d) (hb : at_ σ d = .bool b) (he : b = want)
    (k : L ro P n ops ({ o with guard := none } :: rest) Q σ w) : L ro P n ops (o :: rest) Q σ w := by
  refine ⟨fun a ha => ?_⟩
  have h := k.run a ha
  unfold wpListIn at h ⊢
  rw [if_pos (by simp [Region.wanted])] at h
  have hy : Region.wanted o (yielded ops a.tmps) = true := by
    have hv : a.tmps.getD d undef = .bool b := by rw [ha.get, hb]
    have hv' : a.tmps[d]? = some (.bool b) := by
      rw [Array.getD_eq_getD_getElem?] at hv
      cases hh : a.tmps[d]? with
      | none => rw [hh] at hv; simp [undef] at hv
      | some x => rw [hh] at hv; simpa using hv
    simp [Region.wanted, hg, yielded, hj, hdj, hv', he]
  rw [if_pos hy]
  exact h
theorem L_unwanted {o : Oper} {j d dd : Nat} {b want : Bool} {oj : Oper} (hg : o.guard = some (j, want)) (hj : ops[j]? = some oj) (hdj : oj.dst = some d) (hb : at_ σ d = .bool b) (he : b = !want)
    (hd : o.dst = some dd) (hn : Nat.blt dd n = true) (k : L ro P n ops rest Q (upd σ dd undef) w) : L ro P n ops (o :: rest) Q σ w := by
  refine ⟨fun a ha => ?_⟩
  unfold wpListIn
  have hy : Region.wanted o (yielded ops a.tmps) = false := by
    have hv : a.tmps.getD d undef = .bool b := by rw [ha.get, hb]
    have hv' : a.tmps[d]? = some (.bool b) := by
      rw [Array.getD_eq_getD_getElem?] at hv
      cases hh : a.tmps[d]? with
      | none => rw [hh] at hv; simp [undef] at hv
      | some x => rw [hh] at hv; simpa using hv
    simp [Region.wanted, hg, yielded, hj, hdj, hv', he]
  rw [if_neg (by simp [hy]), hd]
  refine ⟨fun _ _ => trivial, ?_⟩
  exact k.run _ (ha.put (by simpa using hn) undef)
theorem yielded_undef {a : Act} (ha : Rel n a σ) {j d : Nat} {oj : Oper} (hj : ops[j]? = some oj) (hdj : oj.dst = some d) (hb : at_ σ d = undef) : yielded ops a.tmps j = none := by
  have hv : a.tmps.getD d undef = undef := by rw [ha.get, hb]
  rw [Array.getD_eq_getD_getElem?] at hv
  simp only [yielded, hj, hdj, Option.bind_some]
  cases hh : a.tmps[d]? with
  | none => rfl
  | some x => rw [hh] at hv; simp only [Option.getD_some] at hv; subst hv; rfl
/-- A call of a function by its contract. -/
theorem L_call {o : Oper} {d f : Nat} {args : Array Value} {w' : World} {R : Ending → World → Prop} (hg : o.guard = none) (hd : o.dst = some d) (hn : Nat.blt d n = true)
    (hr : (execOp (ev σ) o).run P w = .ok (.enter f args) w') (hc : Calls P f args w' R)
    (k : ∀ e w'', R e w'' → ∃ v, e = .returned v ∧ L ro P n ops rest Q (upd σ d v) w'') : L ro P n ops (o :: rest) Q σ w := by
  refine ⟨fun a ha => ?_⟩
  unfold wpListIn
  rw [if_pos (by simp [Region.wanted, hg])]
  refine ⟨fun _ _ => trivial, ?_⟩
  rw [ha.eval, sem_enter hr, Oper.uponIn_enter, hd]
  refine ⟨(fun h => by cases h), calls_rof.2 (hc.mono fun e w'' h => ?_)⟩
  obtain ⟨v, rfl, hL⟩ := k e w'' h
  exact hL.run _ (ha.put (by simpa using hn) v)
/-- How a function leaves: with v, in a world w'; marks are taken on the way. -/
def Leaves (P : Program) (fn : Func) (a : Act) (w : World) (v : Value) (w' : World) : Prop :=
  ∀ R : Ending → World → Prop, R (.returned v) w' → LeavesInM (rof none) 0 P fn a.tmps R a.defers .returning w
/-- A function's body. -/
def fpost (P : Program) (n : Nat) (fn : Func) (R : Ending → World → Prop) : QT
  | .normal, σ, w | .ret, σ, w => ∃ v w', (∀ a, Rel n a σ → Leaves P fn a w v w') ∧ R (.returned v) w'
  | _, _, _ => False
def argsFr (args : Array Value) : Fr
  | 0 => undef
  | i + 1 => args.getD i undef
theorem rel_start {args : Array Value} (h : args.size ≤ n) : Rel n { tmps := args ++ Array.replicate (n - args.size) undef, defers := [] } (argsFr args) := by
  refine ⟨by simp; omega, rfl, fun i => ?_⟩
  simp only [argsFr, at_, Array.getD_eq_getD_getElem?]
  by_cases hi : i < args.size
  · rw [Array.getElem?_append_left hi]
  · rw [Array.getElem?_append_right (by omega), Array.getElem?_eq_none (xs := args) (by omega)]
    rw [Array.getElem?_replicate]
    split <;> rfl
theorem calls_of_W {f : FuncId} {fn : Func} {c : Code} {args : Array Value} {R : Ending → World → Prop}
    (hf : P.funcs[f]? = some fn) (hb : fn.body = some c) (hn : fn.ntmps = n) (hs : args.size ≤ n) (h : W none P n c (fpost P n fn R) (argsFr args) w) : Calls P f args w R := by
  subst hn
  refine calls_rof.1 (callsIn_of_wp_marks (F := rof none) (n := 0) hf hb trivial (wpIn_mono (h.run _ (rel_start hs)) ?_) rfl)
  rintro e a w' ⟨σ, ha, q⟩
  cases e with
  | normal => obtain ⟨v, w2, hv, hR⟩ := q; exact hv a ha R hR
  | ret => obtain ⟨v, w2, hv, hR⟩ := q; exact hv a ha R hR
  | _ => exact q.elim
/-- What one result is. -/
inductive Res1 (P : Program) (σ : Fr) (w : World) : ResultVar → Value → Prop
  | tmp {t v} : at_ σ t = v → Res1 P σ w (.tmp t) v
  | cell {a t b off v} : at_ σ a = .pointer (some ⟨b, off, none⟩) → (loadVar t ⟨b, off, none⟩).run P w = .ok v w → Res1 P σ w (.cell a t) v
inductive Res (P : Program) (σ : Fr) (w : World) : List ResultVar → List Value → Prop
  | nil : Res P σ w [] []
  | cons {r v rs vs} : Res1 P σ w r v → Res P σ w rs vs → Res P σ w (r :: rs) (v :: vs)
def retV : List Value → Value
  | [v] => v
  | vs => .tuple vs.toArray
def res1 (tmps : Array Value) : ResultVar → Sem Value
  | .tmp t => pure (tmps.getD t undef)
  | .cell a t => do loadVar t (← asAddr (tmps.getD a undef))
theorem res_run0 {fn : Func} {rs : List ResultVar} {vs : List Value} (hr : fn.results = rs.toArray) (h : Res P σ w rs vs) (a : Act) (ha : Rel n a σ) : (results fn a.tmps).run P w = .ok (retV vs) w := by
  have one : ∀ r v, Res1 P σ w r v → (res1 a.tmps r).run P w = .ok v w := by
    intro r v h1
    cases h1 with
    | tmp ht => simp only [res1, Sem.run_pure, ha.get, ht]
    | cell hb hl => simp only [res1, ha.get, hb, asAddr, Sem.run_bind, Sem.run_pure, Result.andThen_ok, hl]
  have key : (rs.mapM (res1 a.tmps)).run P w = .ok vs w := by
    clear hr
    induction h with
    | nil => rfl
    | cons h1 _ ih => simp only [List.mapM_cons, Sem.run_bind, one _ _ h1, Result.andThen_ok, ih, Sem.run_pure]
  have hf : results fn a.tmps = (do let vs ← fn.results.mapM (res1 a.tmps); pure (if h : vs.size = 1 then vs[0] else .tuple vs)) := by
    unfold results
    congr 1
  rw [hf, hr]
  simp only [Sem.run_bind, List.mapM_toArray, Sem.run_map, key, Result.andThen_ok, Sem.run_pure]
  match vs with
  | [] => rfl
  | [v] => rfl
  | _ :: _ :: _ => simp [retV]
theorem leaves_nil {fn : Func} {a : Act} {v : Value} (hd : a.defers = []) (hv : (results fn a.tmps).run P w = .ok v w) : Leaves P fn a w v w := by
  intro R hR
  rw [hd]
  exact ⟨v, hv, hR⟩
theorem res_run {fn : Func} {rs : List ResultVar} {vs : List Value} (hr : fn.results = rs.toArray) (h : Res P σ w rs vs) (h0 : mks (σ 0) = []) (a : Act) (ha : Rel n a σ) : Leaves P fn a w (retV vs) w :=
  leaves_nil (by rw [ha.defers, h0]; rfl) (res_run0 hr h a ha)
/-- One mark: the block is shut; then the results are read. -/
theorem res_run1 {fn : Func} {rs : List ResultVar} {vs : List Value} {D : Nat} (hr : fn.results = rs.toArray) (hD : w.heap[D]? = some (.deferred (some []))) (h : Res P σ (w.putObj D (.deferred none)) rs vs) (h0 : mks (σ 0) = [D]) (a : Act) (ha : Rel n a σ) :
    Leaves P fn a w (retV vs) (w.putObj D (.deferred none)) := by
  intro R hR
  rw [ha.defers, h0]
  refine ⟨by simp, .inl ⟨D, _, rfl, run_takeDeferred hD, ?_⟩⟩
  exact ⟨_, res_run0 hr h a ha, hR⟩
end
end Go.Fx
set_option linter.unusedSimpArgs false
set_option linter.unusedVariables false
namespace Go.Fx
open Go
abbrev Hp := Nat → Option Obj
def hp (w : World) : Hp := fun b => w.heap[b]?
def Le (A B : Hp) : Prop := ∀ b o, A b = some o → B b = some o
def Dj (A B : Hp) : Prop := ∀ b, A b = none ∨ B b = none
def one (b : Nat) (o : Obj) : Hp := fun i => cond (Nat.beq i b) (some o) none
def non : Hp := fun _ => none
def uni (A B : Hp) : Hp := fun b => (A b).or (B b)
theorem Le.refl (A : Hp) : Le A A := fun _ _ h => h
theorem Le.trans {A B C : Hp} (h : Le A B) (k : Le B C) : Le A C := fun b o e => k b o (h b o e)
theorem Le.non (A : Hp) : Le non A := fun _ _ e => by simp [Fx.non] at e
theorem one_self (b : Nat) (o : Obj) : one b o b = some o := by simp [one]
theorem one_ne {b i : Nat} (o : Obj) (h : i ≠ b) : one b o i = none := by
  have : Nat.beq i b = false := by cases e : Nat.beq i b with
    | false => rfl
    | true => exact absurd (Nat.eq_of_beq_eq_true e) h
  simp [one, this]
theorem one_some {b i : Nat} {o o' : Obj} (h : one b o i = some o') : i = b ∧ o' = o := by
  by_cases e : i = b
  · subst e; rw [one_self] at h; exact ⟨rfl, (Option.some.inj h).symm⟩
  · rw [one_ne o e] at h; cases h
theorem le_one {A : Hp} {b : Nat} {o : Obj} (h : A b = some o) : Le (one b o) A := fun i o' e => by obtain ⟨rfl, rfl⟩ := one_some e; exact h
theorem uni_l (A B : Hp) : Le A (uni A B) := fun b o e => by simp [uni, e]
theorem uni_r {A B : Hp} (h : Dj A B) : Le B (uni A B) := fun b o e => by
  rcases h b with h | h
  · simp [uni, h, e]
  · rw [h] at e; cases e
theorem uni_none {A B : Hp} {b : Nat} : uni A B b = none ↔ A b = none ∧ B b = none := by
  simp only [uni]
  cases A b <;> simp
theorem uni_le {A B C : Hp} (h : Le A C) (k : Le B C) : Le (uni A B) C := fun b o e => by
  simp only [uni] at e
  cases ha : A b with
  | some x => rw [ha] at e; simp at e; subst e; exact h b _ ha
  | none => rw [ha] at e; simp at e; exact k b o e
theorem Dj.symm {A B : Hp} (h : Dj A B) : Dj B A := fun b => (h b).symm
theorem Dj.of_lt {A B : Hp} {n : Nat} (h : ∀ b, A b ≠ none → b < n) (k : ∀ b, B b ≠ none → n ≤ b) : Dj A B := fun b => by
  by_cases e : A b = none
  · exact .inl e
  · by_cases e' : B b = none
    · exact .inr e'
    · have := h b e; have := k b e'; omega
theorem hp_lt {w : World} {b : Nat} (h : hp w b ≠ none) : b < w.heap.size := by
  rcases Nat.lt_or_ge b w.heap.size with h' | h'
  · exact h'
  · exact absurd (Array.getElem?_eq_none h') h
theorem le_lt {A : Hp} {w : World} (h : Le A (hp w)) {b : Nat} (k : A b ≠ none) : b < w.heap.size := by
  cases e : A b with
  | none => exact absurd e k
  | some o => exact hp_lt (by rw [h b o e]; simp)
structure Sats (w : World) (R : Hp) (L : List Hp) : Prop where
  r : Le R (hp w)
  l : ∀ c ∈ L, Le c (hp w)
  dj : L.Pairwise Dj
  rd : ∀ c ∈ L, Dj R c
/-- Nothing that was there has turned. -/
structure Grow (w w' : World) : Prop where
  os : w'.os = w.os
  tape : w'.tape = w.tape
  output : w'.output = w.output
  size : w.heap.size ≤ w'.heap.size
  keep : ∀ b, b < w.heap.size → hp w' b = hp w b
theorem Grow.refl (w : World) : Grow w w := ⟨rfl, rfl, rfl, Nat.le_refl _, fun _ _ => rfl⟩
theorem Grow.trans {a b c : World} (h : Grow a b) (k : Grow b c) : Grow a c :=
  ⟨k.os.trans h.os, k.tape.trans h.tape, k.output.trans h.output, Nat.le_trans h.size k.size, fun i hi => (k.keep i (Nat.lt_of_lt_of_le hi h.size)).trans (h.keep i hi)⟩
theorem Grow.le {w w' : World} (h : Grow w w') : Le (hp w) (hp w') := fun b o e => by
  rw [h.keep b (hp_lt (by rw [e]; simp))]; exact e
structure Step (w0 : World) (R0 : Hp) (L0 : List Hp) (w : World) (R : Hp) (L : List Hp) : Prop where
  sats : Sats w R L
  rle : Le R0 R
  os : w.os = w0.os
  tape : w.tape = w0.tape
  output : w.output = w0.output
  size : w0.heap.size ≤ w.heap.size
  keep : ∀ b, b < w0.heap.size → (∀ c ∈ L0, c b = none) → hp w b = hp w0 b
  newR : ∀ b, R b ≠ none → w0.heap.size ≤ b ∨ R0 b ≠ none ∨ ∃ c ∈ L0, c b ≠ none
  newL : ∀ c ∈ L, ∀ b, c b ≠ none → w0.heap.size ≤ b ∨ R0 b ≠ none ∨ ∃ c ∈ L0, c b ≠ none
section
variable {w0 w w1 : World} {R0 R R1 : Hp} {L0 L La Lb L1 : List Hp} {c : Hp}
theorem Step.refl (h : Sats w R L) : Step w R L w R L :=
  ⟨h, Le.refl _, rfl, rfl, rfl, Nat.le_refl _, fun _ _ _ => rfl, fun _ h => .inr (.inl h), fun c hc _ h => .inr (.inr ⟨c, hc, h⟩)⟩
theorem Step.rle' (h : Step w0 R0 L0 w R L) : Le R (hp w) := h.sats.r
theorem Step.grow (h : Step w0 R0 [] w R L) : Grow w0 w :=
  ⟨h.os, h.tape, h.output, h.size, fun b hb => h.keep b hb (by simp)⟩
/-- What was owned in part goes through a call, the rest stays. -/
theorem Step.call (h : Step w0 R0 L0 w R (La ++ Lb)) (k : Step w R La w1 R1 L1) : Step w0 R0 L0 w1 R1 (L1 ++ Lb) := by
  have hs := h.sats
  have hdj := List.pairwise_append.1 hs.dj
  have frame : ∀ c ∈ Lb, ∀ b, c b ≠ none → ¬ (w.heap.size ≤ b ∨ R b ≠ none ∨ ∃ c ∈ La, c b ≠ none) := by
    intro c hc b hb
    rintro (h1 | h1 | ⟨c', hc', h1⟩)
    · exact absurd (le_lt (hs.l c (by simp [hc])) hb) (by omega)
    · rcases hs.rd c (by simp [hc]) b with e | e
      · exact h1 e
      · exact hb e
    · rcases hdj.2.2 c' hc' c hc b with e | e
      · exact h1 e
      · exact hb e
  have keepb : ∀ c ∈ Lb, Le c (hp w1) := by
    intro c hc b o e
    have hw := hs.l c (by simp [hc]) b o e
    rw [k.keep b (hp_lt (by rw [hw]; simp)) (fun c' hc' => ?_)]
    · exact hw
    · rcases hdj.2.2 c' hc' c hc b with e' | e'
      · exact e'
      · rw [e] at e'; cases e'
  refine ⟨⟨k.sats.r, ?_, ?_, ?_⟩, h.rle.trans k.rle, k.os.trans h.os, k.tape.trans h.tape, k.output.trans h.output, Nat.le_trans h.size k.size, ?_, ?_, ?_⟩
  · intro c hc
    rcases List.mem_append.1 hc with hc | hc
    · exact k.sats.l c hc
    · exact keepb c hc
  · refine List.pairwise_append.2 ⟨k.sats.dj, hdj.2.1, fun c hc c' hc' b => ?_⟩
    by_cases e : c b = none
    · exact .inl e
    · by_cases e' : c' b = none
      · exact .inr e'
      · exact absurd (k.newL c hc b e) (frame c' hc' b e')
  · intro c hc
    rcases List.mem_append.1 hc with hc | hc
    · exact k.sats.rd c hc
    · intro b
      by_cases e : R1 b = none
      · exact .inl e
      · by_cases e' : c b = none
        · exact .inr e'
        · exact absurd (k.newR b e) (frame c hc b e')
  · intro b hb hn
    rw [k.keep b (Nat.lt_of_lt_of_le hb h.size) ?_]
    · exact h.keep b hb hn
    · intro c hc
      by_cases e : c b = none
      · exact e
      · rcases h.newL c (by simp [hc]) b e with h1 | h1 | ⟨c', hc', h1⟩
        · omega
        · rcases hs.rd c (by simp [hc]) b with e' | e'
          · cases eR : R0 b with
            | none => exact absurd eR h1
            | some o => rw [h.rle b o eR] at e'; cases e'
          · exact e'
        · exact absurd (hn c' hc') h1
  · intro b hb
    rcases k.newR b hb with h1 | h1 | ⟨c, hc, h1⟩
    · exact .inl (Nat.le_trans h.size h1)
    · exact h.newR b h1
    · exact h.newL c (by simp [hc]) b h1
  · intro c hc b hb
    rcases List.mem_append.1 hc with hc | hc
    · rcases k.newL c hc b hb with h1 | h1 | ⟨c', hc', h1⟩
      · exact .inl (Nat.le_trans h.size h1)
      · exact h.newR b h1
      · exact h.newL c' (by simp [hc']) b h1
    · exact h.newL c (by simp [hc]) b hb
theorem Step.perm (h : Step w0 R0 L0 w R L) (p : L.Perm L1) : Step w0 R0 L0 w R L1 := by
  have hs := h.sats
  refine ⟨⟨hs.r, fun c hc => hs.l c (p.mem_iff.2 hc), ?_, fun c hc => hs.rd c (p.mem_iff.2 hc)⟩, h.rle, h.os, h.tape, h.output, h.size, h.keep, h.newR, fun c hc => h.newL c (p.mem_iff.2 hc)⟩
  exact (p.pairwise_iff (fun h => Dj.symm h)).1 hs.dj
theorem perm_front {α : Type} : ∀ (L : List α) (i : Nat) (c : α), L[i]? = some c → (c :: L.eraseIdx i).Perm L
  | [], _, _, h => by simp at h
  | a :: L, 0, c, h => by simp at h; subst h; simp
  | a :: L, i + 1, c, h => by
    simp only [List.getElem?_cons_succ] at h
    simp only [List.eraseIdx_cons_succ]
    exact (List.Perm.swap a c _).trans ((perm_front L i c h).cons a)
/-- The piece number i comes to the front. -/
theorem Step.front (h : Step w0 R0 L0 w R L) (i : Nat) {c : Hp} {L' : List Hp} (hi : L[i]? = some c) (he : L.eraseIdx i = L') : Step w0 R0 L0 w R (c :: L') := by
  subst he
  exact h.perm (perm_front L i c hi).symm
theorem Step.drop (h : Step w0 R0 L0 w R (c :: L)) : Step w0 R0 L0 w R L := by
  have hs := h.sats
  exact ⟨⟨hs.r, fun c hc => hs.l c (by simp [hc]), (List.pairwise_cons.1 hs.dj).2, fun c hc => hs.rd c (by simp [hc])⟩, h.rle, h.os, h.tape, h.output, h.size, h.keep, h.newR, fun c hc => h.newL c (by simp [hc])⟩
/-- What is owned is only read from now on. -/
theorem Step.freeze (h : Step w0 R0 L0 w R (c :: L)) : Step w0 R0 L0 w (uni R c) L := by
  have hs := h.sats
  have hp := List.pairwise_cons.1 hs.dj
  refine ⟨⟨uni_le hs.r (hs.l c (by simp)), fun c hc => hs.l c (by simp [hc]), hp.2, ?_⟩, h.rle.trans (uni_l _ _), h.os, h.tape, h.output, h.size, h.keep, ?_, fun c hc => h.newL c (by simp [hc])⟩
  · intro d hd b
    rcases hs.rd d (by simp [hd]) b with e | e
    · rcases hp.1 d hd b with e' | e'
      · exact .inl (uni_none.2 ⟨e, e'⟩)
      · exact .inr e'
    · exact .inr e
  · intro b hb
    by_cases e : R b = none
    · exact h.newL c (by simp) b (fun e' => hb (uni_none.2 ⟨e, e'⟩))
    · exact h.newR b e
theorem Step.get (h : Step w0 R0 L0 w R L) {i : Nat} {c : Hp} (hi : L[i]? = some c) : Le c (hp w) :=
  h.sats.l c (List.mem_of_getElem? hi)
theorem Step.g (h : Step w0 R0 L0 w R L) (i : Nat) {c : Hp} (hi : L[i]? = some c := by rfl) : Le c (hp w) := h.get hi
theorem Step.a1 {c0 : Hp} (h : Step w0 R0 L0 w R [c0]) : Le R (hp w) ∧ Le c0 (hp w) := ⟨h.sats.r, h.get (i := 0) rfl⟩
theorem Step.a2 {c0 c1 : Hp} (h : Step w0 R0 L0 w R [c0, c1]) : Le R (hp w) ∧ Le c0 (hp w) ∧ Le c1 (hp w) := ⟨h.sats.r, h.get (i := 0) rfl, h.get (i := 1) rfl⟩
theorem Step.a3 {c0 c1 c2 : Hp} (h : Step w0 R0 L0 w R [c0, c1, c2]) : Le R (hp w) ∧ Le c0 (hp w) ∧ Le c1 (hp w) ∧ Le c2 (hp w) := ⟨h.sats.r, h.get (i := 0) rfl, h.get (i := 1) rfl, h.get (i := 2) rfl⟩
theorem Step.a4 {c0 c1 c2 c3 : Hp} (h : Step w0 R0 L0 w R [c0, c1, c2, c3]) : Le R (hp w) ∧ Le c0 (hp w) ∧ Le c1 (hp w) ∧ Le c2 (hp w) ∧ Le c3 (hp w) := ⟨h.sats.r, h.get (i := 0) rfl, h.get (i := 1) rfl, h.get (i := 2) rfl, h.get (i := 3) rfl⟩
theorem Step.a5 {c0 c1 c2 c3 c4 : Hp} (h : Step w0 R0 L0 w R [c0, c1, c2, c3, c4]) : Le R (hp w) ∧ Le c0 (hp w) ∧ Le c1 (hp w) ∧ Le c2 (hp w) ∧ Le c3 (hp w) ∧ Le c4 (hp w) := ⟨h.sats.r, h.get (i := 0) rfl, h.get (i := 1) rfl, h.get (i := 2) rfl, h.get (i := 3) rfl, h.get (i := 4) rfl⟩
theorem Step.a6 {c0 c1 c2 c3 c4 c5 : Hp} (h : Step w0 R0 L0 w R [c0, c1, c2, c3, c4, c5]) : Le R (hp w) ∧ Le c0 (hp w) ∧ Le c1 (hp w) ∧ Le c2 (hp w) ∧ Le c3 (hp w) ∧ Le c4 (hp w) ∧ Le c5 (hp w) := ⟨h.sats.r, h.get (i := 0) rfl, h.get (i := 1) rfl, h.get (i := 2) rfl, h.get (i := 3) rfl, h.get (i := 4) rfl, h.get (i := 5) rfl⟩
theorem Step.a7 {c0 c1 c2 c3 c4 c5 c6 : Hp} (h : Step w0 R0 L0 w R [c0, c1, c2, c3, c4, c5, c6]) : Le R (hp w) ∧ Le c0 (hp w) ∧ Le c1 (hp w) ∧ Le c2 (hp w) ∧ Le c3 (hp w) ∧ Le c4 (hp w) ∧ Le c5 (hp w) ∧ Le c6 (hp w) := ⟨h.sats.r, h.get (i := 0) rfl, h.get (i := 1) rfl, h.get (i := 2) rfl, h.get (i := 3) rfl, h.get (i := 4) rfl, h.get (i := 5) rfl, h.get (i := 6) rfl⟩
theorem Step.a8 {c0 c1 c2 c3 c4 c5 c6 c7 : Hp} (h : Step w0 R0 L0 w R [c0, c1, c2, c3, c4, c5, c6, c7]) : Le R (hp w) ∧ Le c0 (hp w) ∧ Le c1 (hp w) ∧ Le c2 (hp w) ∧ Le c3 (hp w) ∧ Le c4 (hp w) ∧ Le c5 (hp w) ∧ Le c6 (hp w) ∧ Le c7 (hp w) := ⟨h.sats.r, h.get (i := 0) rfl, h.get (i := 1) rfl, h.get (i := 2) rfl, h.get (i := 3) rfl, h.get (i := 4) rfl, h.get (i := 5) rfl, h.get (i := 6) rfl, h.get (i := 7) rfl⟩
theorem Step.a9 {c0 c1 c2 c3 c4 c5 c6 c7 c8 : Hp} (h : Step w0 R0 L0 w R [c0, c1, c2, c3, c4, c5, c6, c7, c8]) : Le R (hp w) ∧ Le c0 (hp w) ∧ Le c1 (hp w) ∧ Le c2 (hp w) ∧ Le c3 (hp w) ∧ Le c4 (hp w) ∧ Le c5 (hp w) ∧ Le c6 (hp w) ∧ Le c7 (hp w) ∧ Le c8 (hp w) := ⟨h.sats.r, h.get (i := 0) rfl, h.get (i := 1) rfl, h.get (i := 2) rfl, h.get (i := 3) rfl, h.get (i := 4) rfl, h.get (i := 5) rfl, h.get (i := 6) rfl, h.get (i := 7) rfl, h.get (i := 8) rfl⟩
theorem Step.blk (h : Step w0 R0 L0 w R L) {i b : Nat} {o : Obj} (hi : L[i]? = some (one b o)) : w.heap[b]? = some o :=
  h.get hi b o (one_self b o)
theorem Step.b (h : Step w0 R0 L0 w R L) (i : Nat) {b : Nat} {o : Obj} (hi : L[i]? = some (one b o) := by rfl) : w.heap[b]? = some o := h.blk hi
/-- The world may be another one that reads the same. -/
theorem Step.same (h : Step w0 R0 L0 w R L) (e1 : w1.os = w.os) (e2 : w1.tape = w.tape) (e3 : w1.output = w.output) (e4 : w1.heap = w.heap) : Step w0 R0 L0 w1 R L := by
  have hh : hp w1 = hp w := by unfold hp; rw [e4]
  have hs := h.sats
  exact ⟨⟨by rw [hh]; exact hs.r, by rw [hh]; exact hs.l, hs.dj, hs.rd⟩, h.rle, e1.trans h.os, e2.trans h.tape, e3.trans h.output, by rw [e4]; exact h.size, by rw [hh]; exact h.keep, h.newR, h.newL⟩
/-- New memory, of which a part is owned. -/
theorem Step.grown (h : Step w0 R0 L0 w R L) (g : Grow w w1) : Step w0 R0 L0 w1 R L := by
  have hs := h.sats
  refine ⟨⟨hs.r.trans g.le, fun c hc => (hs.l c hc).trans g.le, hs.dj, hs.rd⟩, h.rle, g.os.trans h.os, g.tape.trans h.tape, g.output.trans h.output, Nat.le_trans h.size g.size, fun b hb hn => ?_, h.newR, h.newL⟩
  rw [g.keep b (Nat.lt_of_lt_of_le hb h.size)]
  exact h.keep b hb hn
theorem Step.own (h : Step w0 R0 L0 w R L) (g : Grow w w1) (hc : Le c (hp w1)) (hn : ∀ b, c b ≠ none → w.heap.size ≤ b) : Step w0 R0 L0 w1 R (c :: L) := by
  have k := h.grown g
  have hs := h.sats
  refine ⟨⟨k.sats.r, ?_, ?_, ?_⟩, k.rle, k.os, k.tape, k.output, k.size, k.keep, k.newR, ?_⟩
  · intro d hd
    rcases List.mem_cons.1 hd with rfl | hd
    · exact hc
    · exact k.sats.l d hd
  · refine List.pairwise_cons.2 ⟨fun d hd => (Dj.of_lt (fun b hb => le_lt (hs.l d hd) hb) hn).symm, hs.dj⟩
  · intro d hd
    rcases List.mem_cons.1 hd with rfl | hd
    · exact Dj.of_lt (fun b hb => le_lt hs.r hb) hn
    · exact hs.rd d hd
  · intro d hd b hb
    rcases List.mem_cons.1 hd with rfl | hd
    · exact .inl (Nat.le_trans h.size (hn b hb))
    · exact h.newL d hd b hb
end
def push (w : World) (o : Obj) : World := { w with heap := w.heap.push o }
def setB (w : World) (b : Nat) (o : Obj) : World := { w with heap := w.heap.setIfInBounds b o }
def draws (w : World) (k : Nat) : World := { w with drawn := k }
theorem hp_push_old {w : World} {o : Obj} {b : Nat} (h : b < w.heap.size) : hp (push w o) b = hp w b := by
  show (w.heap.push o)[b]? = w.heap[b]?
  rw [Array.getElem?_push, if_neg (Nat.ne_of_lt h)]
theorem hp_push_new (w : World) (o : Obj) : hp (push w o) w.heap.size = some o := by
  show (w.heap.push o)[w.heap.size]? = some o
  rw [Array.getElem?_push, if_pos rfl]
theorem grow_push (w : World) (o : Obj) : Grow w (push w o) :=
  ⟨rfl, rfl, rfl, (by show w.heap.size ≤ (w.heap.push o).size; rw [Array.size_push]; omega), fun _ h => hp_push_old h⟩
section
variable {w0 w w1 : World} {R0 R : Hp} {L0 L : List Hp} {c : Hp}
theorem Step.push (h : Step w0 R0 L0 w R L) (o : Obj) : Step w0 R0 L0 (push w o) R (one w.heap.size o :: L) :=
  h.own (grow_push w o) (le_one (hp_push_new w o)) (fun b hb => by
    by_cases e : b = w.heap.size
    · omega
    · exact absurd (one_ne o e) hb)
theorem Step.draws (h : Step w0 R0 L0 w R L) (k : Nat) : Step w0 R0 L0 (draws w k) R L := h.same rfl rfl rfl rfl
theorem hp_setB {w : World} {b : Nat} {o : Obj} (h : b < w.heap.size) : hp (setB w b o) b = some o := by simp [hp, setB, h]
theorem hp_setB_ne {w : World} {b i : Nat} {o : Obj} (h : i ≠ b) : hp (setB w b o) i = hp w i := by
  simp [hp, setB, Ne.symm h]
/-- An owned block is written. -/
theorem Step.set0 {b : Nat} {o : Obj} (h : Step w0 R0 L0 w R (one b o :: L)) (o' : Obj) : Step w0 R0 L0 (setB w b o') R (one b o' :: L) := by
  have hs := h.sats
  have hb : hp w b = some o := hs.l _ (by simp) b o (one_self b o)
  have hlt : b < w.heap.size := hp_lt (by rw [hb]; simp)
  have hp' := List.pairwise_cons.1 hs.dj
  have ne : ∀ {A : Hp}, Dj A (one b o) → ∀ i, A i ≠ none → i ≠ b := by
    intro A hA i hi e
    subst e
    rcases hA i with e | e
    · exact hi e
    · rw [one_self] at e; cases e
  have le : ∀ {A : Hp}, Dj A (one b o) → Le A (hp w) → Le A (hp (setB w b o')) := fun hA hl i x e => by
    rw [hp_setB_ne (ne hA i (by rw [e]; simp))]; exact hl i x e
  have dj : ∀ {A : Hp}, Dj A (one b o) → Dj A (one b o') := fun {A} hA i => by
    by_cases e : A i = none
    · exact .inl e
    · exact .inr (one_ne o' (ne hA i e))
  refine ⟨⟨le (hs.rd _ (by simp)) hs.r, ?_, ?_, ?_⟩, h.rle, h.os, h.tape, h.output, by simpa [setB] using h.size, ?_, h.newR, ?_⟩
  · intro d hd
    rcases List.mem_cons.1 hd with rfl | hd
    · exact le_one (hp_setB hlt)
    · exact le (hp'.1 d hd).symm (hs.l d (by simp [hd]))
  · exact List.pairwise_cons.2 ⟨fun d hd => (dj (hp'.1 d hd).symm).symm, hp'.2⟩
  · intro d hd
    rcases List.mem_cons.1 hd with rfl | hd
    · exact dj (hs.rd _ (by simp))
    · exact hs.rd d (by simp [hd])
  · intro i hi hn
    have : i ≠ b := by
      rintro rfl
      rcases h.newL _ (List.mem_cons_self ..) i (by rw [one_self]; simp) with h1 | h1 | ⟨c', hc', h1⟩
      · omega
      · rcases hs.rd _ (List.mem_cons_self ..) i with e | e
        · cases eR : R0 i with
          | none => exact h1 eR
          | some x => rw [h.rle i x eR] at e; cases e
        · rw [one_self] at e; cases e
      · exact h1 (hn c' hc')
    rw [hp_setB_ne this]
    exact h.keep i hi hn
  · intro d hd i hi
    rcases List.mem_cons.1 hd with rfl | hd
    · by_cases e : i = b
      · subst e; exact h.newL _ (List.mem_cons_self ..) i (by rw [one_self]; simp)
      · exact absurd (one_ne o' e) hi
    · exact h.newL d (by simp [hd]) i hi
theorem perm_set {α : Type} : ∀ (L : List α) (i : Nat) (x : α), i < L.length → (x :: L.eraseIdx i).Perm (L.set i x)
  | _ :: _, 0, _, _ => by simp
  | a :: L, i + 1, x, h => by
    simp only [List.eraseIdx_cons_succ, List.set_cons_succ]
    exact (List.Perm.swap a x _).trans ((perm_set L i x (by simpa using h)).cons a)
theorem Step.set {i b : Nat} {o : Obj} (h : Step w0 R0 L0 w R L) (hi : L[i]? = some (one b o)) (o' : Obj) {L' : List Hp} (he : L.set i (one b o') = L') : Step w0 R0 L0 (setB w b o') R L' := by
  subst he
  have hlt := (List.getElem?_eq_some_iff.1 hi).1
  exact ((h.front i hi rfl).set0 o').perm (perm_set L i _ hlt)
/-- What the whole has done, seen from a list of pieces of which nothing is owned: nothing that was there has turned. -/
theorem Grow.below {w w' : World} (h : Grow w w') : RowKit.Below w.heap.size w w' := ⟨h.os, h.tape, h.output, h.size, fun b hb => h.keep b hb⟩
end
end Go.Fx
set_option linter.unusedSimpArgs false
set_option linter.unusedVariables false
namespace Go.Fx
open Go
abbrev ptr (b off : Nat) : Value := .pointer (some ⟨b, off, none⟩)
abbrev int (n : Int) : Value := .int .i64 n
def aggB : TypeDesc → Bool
  | .struct _ | .array _ _ => true
  | _ => false
/-- What is known of a type: its cells, its bytes, its zero value. -/
structure TI (P : Program) (t : TypeId) (agg : Bool) (sz bytes : Nat) (z : Value) : Prop where
  info : (P.info? t).map (fun i => (i.size, i.bytes, i.zero)) = some (sz, bytes, some z)
  und : (P.underlying t).map aggB = some agg
section
variable {P : Program} {w : World} {t : TypeId} {agg : Bool} {sz bytes : Nat} {z : Value}
theorem TI.run_info (h : TI P t agg sz bytes z) (w : World) : ∃ i, (typeInfo t).run P w = .ok i w ∧ i.size = sz ∧ i.bytes = bytes ∧ i.zero = some z := by
  have h1 := h.info
  cases e : P.info? t with
  | none => rw [e] at h1; simp at h1
  | some i =>
    rw [e] at h1
    simp only [Option.map_some, Option.some.injEq, Prod.mk.injEq] at h1
    exact ⟨i, by simp [typeInfo, e], h1⟩
theorem TI.run_size (h : TI P t agg sz bytes z) (w : World) : (sizeOf t).run P w = .ok sz w := by
  obtain ⟨i, hi, hs, _, _⟩ := h.run_info w
  simp [sizeOf, hi, hs]
theorem TI.run_zero (h : TI P t agg sz bytes z) (w : World) : (zeroValue t).run P w = .ok z w := by
  obtain ⟨i, hi, _, _, hz⟩ := h.run_info w
  simp [zeroValue, hi, hz]
theorem TI.run_isAgg (h : TI P t agg sz bytes z) (w : World) : (isAgg t).run P w = .ok agg w := by
  have h1 := h.und
  cases e : P.underlying t with
  | none => rw [e] at h1; simp at h1
  | some d =>
    rw [e] at h1
    simp only [Option.map_some, Option.some.injEq] at h1
    subst h1
    simp only [isAgg, Sem.run_bind, run_underlying e w, Result.andThen_ok]
    cases d <;> rfl
theorem add_zero_spot (b off n : Nat) : (⟨b, off, none⟩ : Addr).add n = ⟨b, off + n, none⟩ := by
  unfold Addr.add
  split
  · rename_i h; subst h; rfl
  · rfl
/-- Cells of a block from a place on. -/
def seg (cs : Array Value) (off n : Nat) : List Value := (cs.toList.drop off).take n
theorem cell_at {b i : Nat} {cs : Array Value} {T : TypeId} {fz : Nat × Nat} (h : w.heap[b]? = some (.cells cs T fz)) : w.cell? ⟨b, i, none⟩ = cs[i]? := by
  simp [World.cell?, h]
theorem run_loadVar_one (h : TI P t false sz bytes z) {b off : Nat} {cs : Array Value} {T : TypeId} {fz : Nat × Nat} {v : Value}
    (hb : w.heap[b]? = some (.cells cs T fz)) (hv : cs[off]? = some v) : (loadVar t ⟨b, off, none⟩).run P w = .ok v w := by
  simp only [loadVar, Sem.run_bind, h.run_isAgg, Result.andThen_ok]
  simp [run_load, cell_at hb, hv]
theorem run_loadVar_agg (h : TI P t true sz bytes z) {b off : Nat} {cs : Array Value} {T : TypeId} {fz : Nat × Nat} {l : List Value}
    (hb : w.heap[b]? = some (.cells cs T fz)) (hv : seg cs off sz = l) (hl : l.length = sz) : (loadVar t ⟨b, off, none⟩).run P w = .ok (.agg l.toArray) w := by
  have hc : (loadCells ⟨b, off, none⟩ sz).run P w = .ok l.toArray w := by
    rw [← hl]
    refine run_loadCells_list w _ l fun j v hj => ?_
    rw [add_zero_spot, cell_at hb]
    subst hv
    have hlt : j < sz := by
      have := (List.getElem?_eq_some_iff.1 hj).1
      simp [seg] at this
      omega
    simp only [seg, List.getElem?_take, hlt, if_true, List.getElem?_drop] at hj
    simpa using hj
  simp only [loadVar, Sem.run_bind, h.run_isAgg, Result.andThen_ok, h.run_size, if_true, hc]
  rfl
theorem x_load {ρ : Operand → Value} {o : Oper} {x : Operand} {b off : Nat} {v : Value} (ho : o.op = .load t x) (hx : ρ x = ptr b off)
    (h : (loadVar t ⟨b, off, none⟩).run P w = .ok v w) : (execOp ρ o).run P w = .ok (.value v) w := by
  unfold execOp
  simp only [ho, hx, Instr.loadAt, Instr.sureAddr, Sem.run_bind, Sem.run_pure, Result.andThen_ok, h]
/-- New cells in the place of old ones. -/
def put (cs : Array Value) (off : Nat) (vs : List Value) : Array Value := (cs.toList.take off ++ vs ++ cs.toList.drop (off + vs.length)).toArray
theorem setRow_setB {b : Nat} {cs cs' : Array Value} {T : TypeId} {fz : Nat × Nat} (h : w.heap[b]? = some (.cells cs T fz)) : w.setRow b cs' = setB w b (.cells cs' T fz) := by
  have hlt := (Array.getElem?_eq_some_iff.1 h).1
  have hb := (Array.getElem?_eq_some_iff.1 h).2
  unfold World.setRow setB
  congr 1
  apply Array.ext_getElem?
  intro i
  rw [Array.getElem?_modify, Array.getElem?_setIfInBounds]
  by_cases e : b = i
  · subst e; simp [hlt, hb]
  · simp [e]
theorem run_storeVar (h : TI P t agg sz bytes z) {b off : Nat} {cs : Array Value} {T : TypeId} {v : Value} (hb : w.heap[b]? = some (.cells cs T (0, 0)))
    (hs : v.cells.size = sz) (h1 : v.cells.toList.all (·.oneCell') = true) (hf : off + sz ≤ cs.size) :
    (storeVar t ⟨b, off, none⟩ v).run P w = .ok () (setB w b (.cells (put cs off v.cells.toList) T (0, 0))) := by
  have hst := run_storeCells_at P b off T v.cells.toList 0 cs w hb (by simpa [hs] using hf) (fun x hx => List.all_eq_true.1 h1 x hx)
  simp only [storeVar, Sem.run_bind, h.run_size, Result.andThen_ok]
  rw [if_neg (by simp [hs])]
  simp only [hst]
  rw [setRow_setB hb]
  simp [put]
theorem x_store {ρ : Operand → Value} {o : Oper} {x y : Operand} {b off : Nat} {v : Value} {w' : World} (ho : o.op = .store t x y) (hx : ρ x = ptr b off) (hy : ρ y = v)
    (h : (storeVar t ⟨b, off, none⟩ v).run P w = .ok () w') : (execOp ρ o).run P w = .ok .skip w' := by
  unfold execOp
  simp only [ho, hx, hy, Instr.storeAt, Instr.sureAddr, Sem.run_bind, Sem.run_pure, Result.andThen_ok, h]
/-- The type t is a slice of e. -/
def SL (P : Program) (t e : TypeId) : Prop := P.underlying t = some (.slice e)
theorem x_indexAddr {ρ : Operand → Value} {o : Oper} {x ix : Operand} {e : TypeId} {b off len cap : Nat} {i : Int} (ho : o.op = .indexAddr t x ix) (hu : SL P t e) (h : TI P e agg sz bytes z)
    (hx : ρ x = .slice (some ⟨b, off, none⟩) len cap) (hi : ρ ix = int i) (h0 : 0 ≤ i) (h1 : i < len) :
    (execOp ρ o).run P w = .ok (.value (ptr b (off + i.toNat * sz))) w := by
  unfold execOp
  simp only [ho, hx, hi, Instr.indexAt, asIntOf, Sem.run_bind, Sem.run_pure, Result.andThen_ok, run_underlying hu]
  simp [h0, h1, h.run_size, add_zero_spot]
theorem x_len_slice {ρ : Operand → Value} {o : Oper} {x : Operand} {e : TypeId} {a : Option Addr} {len cap : Nat}
    (ho : o.op = .call { callee := .builtin .len, args := #[x], argTypes := #[t] }) (hu : SL P t e) (hx : ρ x = .slice a len cap) :
    (execOp ρ o).run P w = .ok (.value (int len)) w := by
  unfold execOp
  simp [ho, resolve, hx, invoke, builtin, Builtin.len_, run_underlying hu, goInt]
theorem x_len_string {ρ : Operand → Value} {o : Oper} {x : Operand} {s : ByteArray}
    (ho : o.op = .call { callee := .builtin .len, args := #[x], argTypes := #[t] }) (hu : P.underlying t = some .string) (hx : ρ x = .string s) :
    (execOp ρ o).run P w = .ok (.value (int s.size)) w := by
  unfold execOp
  simp [ho, resolve, hx, invoke, builtin, Builtin.len_, run_underlying hu, goInt]
/-- The function f has a body, so that a call enters it. -/
def Ent (P : Program) (f : FuncId) : Prop := ∀ args w, (callFunc f args).run P w = .ok (.enter f args) w
theorem x_call {ρ : Operand → Value} {o : Oper} {f : FuncId} {xs : Array Operand} {ts : Array TypeId} {vs : Array Value}
    (ho : o.op = .call { callee := .value (.func f), args := xs, argTypes := ts }) (hf : ρ (.func f) = .func (.func f) #[] #[]) (hx : xs.map ρ = vs) (he : Ent P f) :
    (execOp ρ o).run P w = .ok (.enter f vs) w := by
  unfold execOp
  have h2 := he vs w
  simp only [ho, resolve, hx, hf, Sem.run_bind, Deferred.ofValue, Sem.run_pure, Result.andThen_ok, invoke]
  simpa using h2
/-- A call of a function value. -/
theorem x_callv {ρ : Operand → Value} {o : Oper} {f : FuncId} {x : Operand} {xs : Array Operand} {ts : Array TypeId} {first cap vs : Array Value}
    (ho : o.op = .call { callee := .value x, args := xs, argTypes := ts }) (hf : ρ x = .func (.func f) first cap) (hx : first ++ xs.map ρ ++ cap = vs) (he : Ent P f) :
    (execOp ρ o).run P w = .ok (.enter f vs) w := by
  unfold execOp
  have h2 := he vs w
  subst hx
  simp only [ho, resolve, hf, Sem.run_bind, Deferred.ofValue, Sem.run_pure, Result.andThen_ok, invoke]
  simpa using h2
end
end Go.Fx
set_option linter.unusedSimpArgs false
set_option linter.unusedVariables false
namespace Go.Fx
open Go
/-- v is a slice of n elements of the type T (sz cells each) whose cells are 'cells' and lie in the piece c. -/
def OwnS (T sz : Nat) (v : Value) (n : Nat) (cells : List Value) (c : Hp) : Prop :=
  (v = .slice none 0 0 ∧ n = 0 ∧ cells = [] ∧ c = non) ∨
  ∃ b cap cs, v = .slice (some ⟨b, 0, none⟩) n cap ∧ c = one b (.cells cs T (0, 0)) ∧ cells = cs.toList.take (n * sz) ∧ n ≤ cap ∧ cap * sz = cs.size ∧ cap ≤ maxLen
theorem OwnS.empty (T sz : Nat) : OwnS T sz (.slice none 0 0) 0 [] non := .inl ⟨rfl, rfl, rfl, rfl⟩
theorem OwnS.len {T sz : Nat} {v : Value} {n : Nat} {cells : List Value} {c : Hp} (h : OwnS T sz v n cells c) : cells.length = n * sz := by
  rcases h with ⟨_, rfl, rfl, _⟩ | ⟨b, cap, cs, _, _, rfl, h1, h2, _⟩
  · simp
  · simp only [List.length_take, Array.length_toList]
    have : n * sz ≤ cap * sz := Nat.mul_le_mul_right _ h1
    omega
section
variable {P : Program} {w w0 : World} {R0 R : Hp} {L0 Lr : List Hp}
/-- append to a slice of one's own: the new one is one's own, too. -/
theorem run_append {t ty e : TypeId} {sz bytes : Nat} {z v : Value} {n m cap2 : Nat} {a : Addr} {agg : Bool} {cells src : List Value} {c : Hp} (hu : SL P t e) (he : TI P e agg sz bytes z) (hz : z.cells.size = sz)
    (ho : OwnS e sz v n cells c) (hst : Step w0 R0 L0 w R (c :: Lr)) (hsl : src.length = m * sz) (hsrc : ∀ j u, src[j]? = some u → w.cell? (a.add j) = some u) (h1 : src.all (·.oneCell') = true)
    (hroom : (n + m) * bytes ≤ 2 ^ 47) (hmax : n + m ≤ maxLen) :
    ∃ v' c' w', (Builtin.append_ #[t, t] ty #[v, .slice (some a) m cap2]).run P w = .ok v' w' ∧ OwnS e sz v' (n + m) (cells ++ src) c' ∧ Step w0 R0 L0 w' R (c' :: Lr) := by
  obtain ⟨i, hi, his, hib, hiz⟩ := he.run_info w
  have hi' : P.info? e = some i := by
    cases hq : P.info? e with
    | none => simp [typeInfo, hq] at hi
    | some j => simp [typeInfo, hq] at hi; rw [hi]
  have h1' : ∀ u ∈ src, u.oneCell' = true := fun u hu => List.all_eq_true.1 h1 u hu
  have hcl := ho.len
  have hsmall : n + m ≤ 9223372036854775807 := by simpa [maxLen] using hmax
  have e48 : (140737488355328 : Nat) = 2 ^ 47 := by decide
  have hnew : ∀ old, ∃ nc row, n + m ≤ nc ∧ nc ≤ maxLen ∧ nc = grownCap w (n + m) old e ∧ row = (cells.toArray ++ src.toArray ++ Builtin.zeroCells z.cells (nc - (n + m))) ∧
      OwnS e sz (.slice (some ⟨w.heap.size, 0, none⟩) (n + m) nc) (n + m) (cells ++ src) (one w.heap.size (.cells row e (0, 0))) ∧
      Step w0 R0 L0 (push (draws w (w.drawn + 1)) (.cells row e (0, 0))) R (one w.heap.size (.cells row e (0, 0)) :: Lr) := by
    intro old
    have hge := grownCap_ge w (n + m) old e
    refine ⟨_, _, hge, grownCap_le_maxLen w (n + m) old e hmax, rfl, rfl, .inr ⟨_, _, _, rfl, rfl, ?_, hge, ?_, grownCap_le_maxLen w (n + m) old e hmax⟩, ((hst.drop).draws (w.drawn + 1)).push _⟩
    · simp only [Array.toList_append, List.toList_toArray]
      rw [Nat.add_mul, ← hcl, ← hsl, ← List.length_append, List.take_left]
    · simp only [Array.size_append, List.size_toArray, size_zeroCells, hz, hcl, hsl, ← Nat.add_mul]
      congr 1
      omega
  rcases ho with ⟨rfl, rfl, rfl, rfl⟩ | ⟨b, cap, cs, rfl, rfl, rfl, h2, h3, h4⟩
  · by_cases hm : m = 0
    · subst hm
      have hs0 : src = [] := by simpa using hsl
      subst hs0
      refine ⟨.slice none 0 0, non, w, ?_, by simpa using OwnS.empty e sz, hst⟩
      simp [Builtin.append_, run_underlying hu, sizeOf, typeInfo, hi', Builtin.lenOf, Builtin.firstCells, loadCells, loadCellsFrom]
    · obtain ⟨nc, row, _, _, hnc, hrow, ho', hst'⟩ := hnew 0
      have hr := run_append_nil (P := P) w t ty e i z hu hi' hiz a m cap2 src (by rw [his]; exact hsl) hsrc (by omega) (by omega) (by rw [hib]; simp only [Nat.zero_add] at hroom; omega)
      refine ⟨_, _, _, ?_, ho', hst'⟩
      rw [hr, hrow, hnc]
      simp only [Nat.zero_add, List.nil_append]
      congr 1
      simp only [push, draws, World.alloc, World.drew]
      congr 3
      simp
  · have hblk : w.heap[b]? = some (.cells cs e (0, 0)) := hst.blk (i := 0) rfl
    by_cases hfit : n + m ≤ cap
    · have hroom2 : n * i.size + src.length ≤ cs.size := by
        rw [hsl, his, ← h3, ← Nat.add_mul]
        exact Nat.mul_le_mul_right _ hfit
      have hr := run_append_room (P := P) w t ty e i hu hi' b n cap cs hblk a m cap2 src (by rw [his]; exact hsl) hsrc h1' hfit hroom2
      rw [setRow_setB hblk] at hr
      refine ⟨_, _, _, hr, .inr ⟨b, cap, _, rfl, rfl, ?_, hfit, ?_, h4⟩, hst.set0 _⟩
      · rw [his]
        have e2 : (n + m) * sz = (cs.toList.take (n * sz) ++ src).length := by rw [List.length_append, hcl, hsl, Nat.add_mul]
        rw [List.toList_toArray, e2, List.take_left]
      · rw [h3]
        rw [his] at hroom2 ⊢
        simp only [List.size_toArray, List.length_append, List.length_take, List.length_drop, Array.length_toList]
        omega
    · obtain ⟨nc, row, _, _, hnc, hrow, ho', hst'⟩ := hnew cap
      have holds : ∀ j u, (cs.toList.take (n * sz))[j]? = some u → w.cell? ((⟨b, 0, none⟩ : Addr).add j) = some u := by
        intro j u hj
        have hlt : j < n * sz := by
          have := (List.getElem?_eq_some_iff.1 hj).1
          simp at this
          omega
        rw [List.getElem?_take, if_pos hlt] at hj
        rw [add_zero_spot, cell_at hblk, Nat.zero_add]
        simpa using hj
      have hr := run_append_grow (P := P) w t ty e i z hu hi' hiz ⟨b, 0, none⟩ n cap (cs.toList.take (n * sz)) (by rw [his]; exact hcl) holds a m cap2 src (by rw [his]; exact hsl) hsrc (by omega) (by omega)
        (growslice_fits (by omega) (by rw [hib]; omega))
      refine ⟨_, _, _, ?_, ho', hst'⟩
      rw [hr, hrow, hnc]
      rfl
/-- append of nothing. -/
theorem run_append_zero {t ty e : TypeId} {sz bytes : Nat} {z v : Value} {n cap2 : Nat} {agg : Bool} {cells : List Value} {c : Hp} (hu : SL P t e) (he : TI P e agg sz bytes z)
    (ho : OwnS e sz v n cells c) : (Builtin.append_ #[t, t] ty #[v, .slice none 0 cap2]).run P w = .ok v w := by
  obtain ⟨i, hi, his, hib, hiz⟩ := he.run_info w
  have hi' : P.info? e = some i := by
    cases hq : P.info? e with
    | none => simp [typeInfo, hq] at hi
    | some j => simp [typeInfo, hq] at hi; rw [hi]
  rcases ho with ⟨rfl, rfl, rfl, rfl⟩ | ⟨b, cap, cs, rfl, rfl, rfl, h2, h3, h4⟩
  · simp [Builtin.append_, run_underlying hu, sizeOf, typeInfo, hi', Builtin.lenOf, Builtin.firstCells]
  · simp [Builtin.append_, run_underlying hu, sizeOf, typeInfo, hi', Builtin.lenOf, Builtin.firstCells, h2, storeCells]
theorem x_append {ρ : Operand → Value} {o : Oper} {s x : Operand} {sT xT : TypeId} {v y v' : Value} {w' : World}
    (ho : o.op = .call { callee := .builtin .append, args := #[s, x], argTypes := #[sT, xT] }) (hs : ρ s = v) (hx : ρ x = y) (h : (Builtin.append_ #[sT, xT] o.type #[v, y]).run P w = .ok v' w') :
    (execOp ρ o).run P w = .ok (.value v') w' := by
  unfold execOp
  simp [ho, resolve, hs, hx, invoke, builtin, h]
end
end Go.Fx
set_option linter.unusedSimpArgs false
set_option linter.unusedVariables false
set_option linter.unusedSectionVars false
namespace Go.Fx
open Go Go.MapKept
namespace AL
variable {κ β : Type} [DecidableEq κ]
def get : List (κ × β) → κ → Option β
  | [], _ => none
  | (a, b) :: m, k => if a = k then some b else get m k
def set : List (κ × β) → κ → β → List (κ × β)
  | [], k, v => [(k, v)]
  | (a, b) :: m, k, v => if a = k then (k, v) :: m else (a, b) :: set m k v
def keys (m : List (κ × β)) : List κ := m.map (·.1)
def Ok (m : List (κ × β)) : Prop := (keys m).Nodup
theorem get_none {m : List (κ × β)} {k : κ} : get m k = none ↔ k ∉ keys m := by
  induction m with
  | nil => simp [get, keys]
  | cons p m ih =>
    obtain ⟨a, b⟩ := p
    simp only [get, keys, List.map_cons, List.mem_cons, not_or] at *
    by_cases h : a = k
    · subst h; simp
    · simp [h, ih, Ne.symm h]
theorem keys_set (m : List (κ × β)) (k : κ) (v : β) : keys (set m k v) = if k ∈ keys m then keys m else keys m ++ [k] := by
  induction m with
  | nil => simp [set, keys]
  | cons p m ih =>
    obtain ⟨a, b⟩ := p
    simp only [keys] at ih ⊢
    simp only [set, List.map_cons, List.mem_cons]
    by_cases h : a = k
    · subst h; simp
    · have h' : ¬ k = a := fun e => h e.symm
      simp only [h, if_false, h', false_or, List.map_cons, ih]
      by_cases hm : k ∈ List.map (fun x => x.fst) m <;> simp [hm]
theorem Ok.set {m : List (κ × β)} (h : Ok m) (k : κ) (v : β) : Ok (set m k v) := by
  unfold Ok at *
  rw [keys_set]
  split
  · exact h
  · rename_i hk
    exact List.nodup_append.2 ⟨h, by simp, fun a ha b hb => by simp at hb; subst hb; exact fun e => hk (e ▸ ha)⟩
theorem Ok.nil : Ok ([] : List (κ × β)) := by simp [Ok, keys]
end AL
section
variable {κ β : Type} [DecidableEq κ]
def EntryIs (kenc : κ → Value) (vr : β → Value → Prop) (e : MapEntry) (p : κ × β) : Prop := e.key = kenc p.1 ∧ vr p.2 e.val
inductive MapIs (kenc : κ → Value) (vr : β → Value → Prop) : List MapEntry → List (κ × β) → Prop
  | nil : MapIs kenc vr [] []
  | cons {e p es m} : EntryIs kenc vr e p → MapIs kenc vr es m → MapIs kenc vr (e :: es) (p :: m)
theorem MapIs.imp {kenc : κ → Value} {vr vr' : β → Value → Prop} {es : List MapEntry} {m : List (κ × β)} (h : MapIs kenc vr es m) (hi : ∀ x v, vr x v → vr' x v) : MapIs kenc vr' es m := by
  induction h with
  | nil => exact .nil
  | cons he _ ih => exact .cons ⟨he.1, hi _ _ he.2⟩ ih
theorem MapIs.length {kenc : κ → Value} {vr : β → Value → Prop} {es : List MapEntry} {m : List (κ × β)} (h : MapIs kenc vr es m) : es.length = m.length := by
  induction h with
  | nil => rfl
  | cons _ _ ih => simp [ih]
theorem MapIs.keys {kenc : κ → Value} {vr : β → Value → Prop} {es : List MapEntry} {m : List (κ × β)} (h : MapIs kenc vr es m) : es.map (·.key) = (AL.keys m).map kenc := by
  induction h with
  | nil => rfl
  | cons he _ ih => simp only [AL.keys, List.map_cons] at ih ⊢; rw [he.1, ih]
/-- Where a key stands. -/
def place (k : κ) : List (κ × β) → Nat → Option Nat
  | [], _ => none
  | (a, _) :: m, i => if a = k then some i else place k m (i + 1)
theorem place_shift (k : κ) (m : List (κ × β)) (i : Nat) : place k m i = (place k m 0).map (· + i) := by
  induction m generalizing i with
  | nil => rfl
  | cons p m ih =>
    obtain ⟨a, b⟩ := p
    simp only [place]
    split
    · simp
    · rw [ih (i + 1), ih (0 + 1)]
      cases place k m 0 <;> simp [Nat.add_comm, Nat.add_left_comm]
/-- What the model's search for a key gives, for a key's type. -/
structure KeyLaw (P : Program) (kT : TypeId) (kenc : κ → Value) : Prop where
  check : ∀ b k w, (Instr.checkKey b 10000 kT (kenc k)).run P w = .ok () w
  find : ∀ (vr : β → Value → Prop) k (es : List MapEntry) (m : List (κ × β)) w, MapIs kenc vr es m →
    (Instr.findKey kT (kenc k) es).run P w = .ok ((place k m 0).map fun i => (i, (es.map (·.val)).getD i undef)) w
  bits : ∀ k, Instr.sameBits 10000 (kenc k) (kenc k) = true
theorem findNow_int {vr : β → Value → Prop} (k : Int) {es : List MapEntry} {m : List (Int × β)} (h : MapIs (Value.int .i64) vr es m) (i : Nat) :
    Instr.findNow (.int .i64) (.int .i64 k) es i = some ((place k m i).map fun j => (j, (es.map (·.val)).getD (j - i) undef)) := by
  induction h generalizing i with
  | nil => rfl
  | @cons e p es m he _ ih =>
    obtain ⟨a, b⟩ := p
    have hk : e.key = .int .i64 a := he.1
    simp only [Instr.findNow, hk, Instr.sameNow, if_true, place]
    by_cases hx : k = a
    · subst hx; simp
    · have : (k == a) = false := by simpa using hx
      simp only [this, Ne.symm hx, if_false, ih (i + 1)]
      rw [place_shift k m (i + 1)]
      cases hp : place k m 0 with
      | none => rfl
      | some j =>
        simp only [Option.map_some, List.map_cons]
        rw [show j + (i + 1) - i = (j + (i + 1) - (i + 1)) + 1 by omega, List.getD_cons_succ]
theorem KeyLaw.int {P : Program} {kT : TypeId} (hu : P.underlying kT = some (.int .i64)) : KeyLaw (β := β) P kT (Value.int .i64) where
  check := fun b k w => run_checkKey (w := w) hu (k := .int .i64 k) (by simp [IsKey]) b 9999
  find := fun vr k es m w h => run_findKey hu (by simpa using findNow_int k h 0)
  bits := fun k => by simp [Instr.sameBits]
theorem findAsking_eq {P : Program} {kT : TypeId} {kenc : κ → Value} (heq : ∀ a b w, (Op.equal kT (kenc a) (kenc b)).run P w = .ok (decide (a = b)) w) {vr : β → Value → Prop} (k : κ) {es : List MapEntry} {m : List (κ × β)}
    (w : World) (h : MapIs kenc vr es m) (i : Nat) :
    (Instr.findAsking kT (kenc k) es i).run P w = .ok ((place k m i).map fun j => (j, (es.map (·.val)).getD (j - i) undef)) w := by
  induction h generalizing i with
  | nil => rfl
  | @cons e p es m he _ ih =>
    obtain ⟨a, b⟩ := p
    have hk : e.key = kenc a := he.1
    simp only [Instr.findAsking, hk, Sem.run_bind, heq, Result.andThen_ok, place, decide_eq_true_eq, Sem.run_ite]
    by_cases hx : k = a
    · subst hx; simp
    · simp only [hx, Ne.symm hx, if_false, ih (i + 1)]
      rw [place_shift k m (i + 1)]
      cases hp : place k m 0 with
      | none => rfl
      | some j =>
        simp only [Option.map_some, List.map_cons]
        rw [show j + (i + 1) - i = (j + (i + 1) - (i + 1)) + 1 by omega, List.getD_cons_succ]
theorem KeyLaw.ofEq {P : Program} {kT : TypeId} {d : TypeDesc} {kenc : κ → Value} (hu : P.underlying kT = some d) (hnow : ∀ a b, Instr.sameNow d (kenc a) (kenc b) = none)
    (hc : ∀ b k w, (Instr.checkKey b 10000 kT (kenc k)).run P w = .ok () w) (heq : ∀ a b w, (Op.equal kT (kenc a) (kenc b)).run P w = .ok (decide (a = b)) w)
    (hb : ∀ k, Instr.sameBits 10000 (kenc k) (kenc k) = true) : KeyLaw (β := β) P kT kenc where
  check := hc
  find := fun vr k es m w h => by
    simp only [Instr.findKey, Sem.run_bind, run_underlying hu, Result.andThen_ok]
    cases h with
    | nil => rfl
    | @cons e p es m he hm =>
      have hk : e.key = kenc p.1 := he.1
      have e1 : Instr.findNow d (kenc k) (e :: es) 0 = none := by simp [Instr.findNow, hk, hnow]
      rw [e1]
      have := findAsking_eq heq k w (MapIs.cons he hm) 0
      simpa using this
  bits := hb
variable {P : Program} {w : World} {kT : TypeId} {kenc : κ → Value} {vr : β → Value → Prop}
theorem place_get (k : κ) {es : List MapEntry} {m : List (κ × β)} (h : MapIs kenc vr es m) :
    (place k m 0 = none ∧ AL.get m k = none) ∨ ∃ i x v, place k m 0 = some i ∧ AL.get m k = some x ∧ (es.map (·.val)).getD i undef = v ∧ vr x v ∧ i < es.length := by
  induction h with
  | nil => exact .inl ⟨rfl, rfl⟩
  | @cons e p es m he _ ih =>
    obtain ⟨a, b⟩ := p
    simp only [place, AL.get]
    by_cases hx : a = k
    · exact .inr ⟨0, b, e.val, by simp [hx], by simp [hx], by simp, he.2, by simp⟩
    · simp only [hx, if_false]
      rw [place_shift k m (0 + 1)]
      rcases ih with ⟨h1, h2⟩ | ⟨i, x, v, h1, h2, h3, h4, h5⟩
      · exact .inl ⟨by simp [h1], h2⟩
      · refine .inr ⟨i + 1, x, v, by simp [h1], h2, ?_, h4, by simp; omega⟩
        rw [List.map_cons, List.getD_cons_succ, h3]
theorem run_lookup {T eT : TypeId} {b : Nat} {es : Array MapEntry} {clock : Nat} {m : List (κ × β)} {agg : Bool} {sz bytes : Nat} {z : Value} (K : KeyLaw (β := β) P kT kenc) (hT : P.underlying T = some (.map kT eT))
    (he : TI P eT agg sz bytes z) (hb : w.heap[b]? = some (.map es clock)) (h : MapIs kenc vr es.toList m) (k : κ) (ok : Bool) :
    ∃ v f, (Instr.lookup T (.map (some b)) (kenc k) ok).run P w = .ok (if ok then .tuple #[v, .bool f] else v) w ∧
      ((∃ x, AL.get m k = some x ∧ vr x v ∧ f = true) ∨ (AL.get m k = none ∧ v = z ∧ f = false)) := by
  have hg : (getObj b).run P w = .ok (.map es clock) w := by simp [getObj, Sem.run, hb]
  unfold Instr.lookup
  simp only [Sem.run_bind, run_underlying hT, Result.andThen_ok, hg, Sem.run_pure, K.check, K.find vr k es.toList m w h]
  rcases place_get k h with ⟨h1, h2⟩ | ⟨i, x, v, h1, h2, h3, h4, _⟩
  · refine ⟨z, false, ?_, .inr ⟨h2, rfl, rfl⟩⟩
    simp only [h1, Option.map_none, Sem.run_bind, he.run_zero, Result.andThen_ok, Sem.run_pure]
  · refine ⟨v, true, ?_, .inl ⟨x, h2, h4, rfl⟩⟩
    simp only [h1, Option.map_some, h3, Sem.run_bind, Sem.run_pure, Result.andThen_ok]
theorem run_lookup_nil {T eT : TypeId} {agg : Bool} {sz bytes : Nat} {z : Value} (K : KeyLaw (β := β) P kT kenc) (hT : P.underlying T = some (.map kT eT)) (he : TI P eT agg sz bytes z) (k : κ) (ok : Bool) :
    (Instr.lookup T (.map none) (kenc k) ok).run P w = .ok (if ok then .tuple #[z, .bool false] else z) w := by
  have hf := K.find (fun _ _ => True) k [] [] w .nil
  unfold Instr.lookup
  simp only [Sem.run_bind, run_underlying hT, Result.andThen_ok, Sem.run_pure, K.check]
  rw [hf]
  simp only [place, Option.map_none, Result.andThen_ok, Sem.run_bind, he.run_zero, Sem.run_pure]
theorem run_setObj_map {b : Nat} {es es' : Array MapEntry} {c c' : Nat} (hb : w.heap[b]? = some (.map es c)) : (setObj b (.map es' c')).run P w = .ok () (setB w b (.map es' c')) := by
  simp [setObj, Sem.run, hb, setB]
theorem MapIs.modify {es : List MapEntry} {m : List (κ × β)} (h : MapIs kenc vr es m) (k : κ) (x : β) (v : Value) (hv : vr x v) (i : Nat) (hi : place k m 0 = some i) :
    MapIs kenc vr (es.modify i fun e => { e with key := kenc k, val := v }) (AL.set m k x) := by
  induction h generalizing i with
  | nil => simp [place] at hi
  | @cons e p es m he hm ih =>
    obtain ⟨a, b⟩ := p
    simp only [place] at hi
    simp only [AL.set]
    by_cases hx : a = k
    · simp only [hx, if_true, Option.some.injEq] at hi ⊢
      subst hi
      exact .cons ⟨rfl, hv⟩ hm
    · simp only [hx, if_false] at hi ⊢
      rw [place_shift] at hi
      cases hp : place k m 0 with
      | none => rw [hp] at hi; simp at hi
      | some j =>
        rw [hp] at hi
        simp only [Option.map_some, Option.some.injEq] at hi
        subst hi
        rw [show j + (0 + 1) = j + 1 by omega, List.modify_succ_cons]
        exact .cons he (ih j hp)
theorem MapIs.push {es : List MapEntry} {m : List (κ × β)} (h : MapIs kenc vr es m) (k : κ) (x : β) (v : Value) (c : Nat) (hv : vr x v) (hi : place k m 0 = none) :
    MapIs kenc vr (es ++ [{ key := kenc k, val := v, born := c }]) (AL.set m k x) := by
  induction h with
  | nil => exact .cons ⟨rfl, hv⟩ .nil
  | @cons e p es m he hm ih =>
    obtain ⟨a, b⟩ := p
    simp only [place] at hi
    simp only [AL.set]
    by_cases hx : a = k
    · simp [hx] at hi
    · simp only [hx, if_false] at hi ⊢
      rw [place_shift] at hi
      exact .cons he (ih (by cases hp : place k m 0 <;> simp_all))
/-- The entries' stamps: no two alike, all in the past. -/
def Born (es : List MapEntry) (k : Nat) : Prop := (es.map (·.born)).Nodup ∧ ∀ e ∈ es, e.born < k
theorem Born.modify {es : List MapEntry} {k : Nat} (h : Born es k) (i : Nat) (f : MapEntry → MapEntry) (hf : ∀ e, (f e).born = e.born) : Born (es.modify i f) k := by
  have hm : (es.modify i f).map (·.born) = es.map (·.born) := by
    apply List.ext_getElem?
    intro j
    simp only [List.getElem?_map, List.getElem?_modify]
    split
    · cases es[j]? <;> simp [hf]
    · simp
  refine ⟨by rw [hm]; exact h.1, fun e he => ?_⟩
  have : e.born ∈ (es.modify i f).map (·.born) := List.mem_map.2 ⟨e, he, rfl⟩
  rw [hm] at this
  obtain ⟨e', he', hb⟩ := List.mem_map.1 this
  rw [← hb]
  exact h.2 e' he'
theorem Born.push {es : List MapEntry} {k : Nat} (h : Born es k) (e : MapEntry) (he : e.born = k) : Born (es ++ [e]) (k + 1) := by
  refine ⟨?_, fun x hx => ?_⟩
  · rw [List.map_append]
    refine List.nodup_append.2 ⟨h.1, by simp, fun a ha b hb => ?_⟩
    obtain ⟨x, hx, rfl⟩ := List.mem_map.1 ha
    simp only [List.map_cons, List.map_nil, List.mem_singleton] at hb
    subst hb
    have := h.2 x hx
    omega
  · rcases List.mem_append.1 hx with hx | hx
    · have := h.2 x hx; omega
    · simp only [List.mem_singleton] at hx; subst hx; omega
theorem Born.empty : Born [] 0 := ⟨by simp, by simp⟩
theorem place_key {m : List (κ × β)} {k : κ} {i : Nat} (h : place k m 0 = some i) : (AL.keys m)[i]? = some k := by
  induction m generalizing i with
  | nil => simp [place] at h
  | cons p m ih =>
    obtain ⟨a, b⟩ := p
    simp only [place] at h
    by_cases hx : a = k
    · simp only [hx, if_true, Option.some.injEq] at h
      subst h; subst hx; simp [AL.keys]
    · simp only [hx, if_false] at h
      rw [place_shift] at h
      cases hp : place k m 0 with
      | none => rw [hp] at h; simp at h
      | some j =>
        rw [hp] at h
        simp only [Option.map_some, Option.some.injEq] at h
        subst h
        have := ih hp
        simpa [AL.keys] using this
theorem key_at {es : Array MapEntry} {m : List (κ × β)} {k : κ} {i : Nat} (h : MapIs kenc vr es.toList m) (h1 : place k m 0 = some i) : (es[i]?).map (·.key) = some (kenc k) := by
  have e1 : (es.toList.map (·.key))[i]? = some (kenc k) := by rw [h.keys]; simp [place_key h1]
  simpa using e1
theorem run_mapUpdate {T eT : TypeId} {b : Nat} {es : Array MapEntry} {clock : Nat} {m : List (κ × β)} (K : KeyLaw (β := β) P kT kenc) (hT : P.underlying T = some (.map kT eT))
    (hb : w.heap[b]? = some (.map es clock)) (h : MapIs kenc vr es.toList m) (hB : Born es.toList clock) (k : κ) (x : β) (v : Value) (hv : vr x v) :
    ∃ es' c', (Instr.mapUpdate T (.map (some b)) (kenc k) v).run P w = .ok () (setB w b (.map es' c')) ∧ MapIs kenc vr es'.toList (AL.set m k x) ∧ Born es'.toList c' := by
  have hg : (getObj b).run P w = .ok (.map es clock) w := by simp [getObj, Sem.run, hb]
  rcases place_get k h with ⟨h1, h2⟩ | ⟨i, y, u, h1, h2, h3, h4, h5⟩
  · refine ⟨es.push { key := kenc k, val := v, born := clock }, clock + 1, ?_, by simpa using h.push k x v clock hv h1, by simpa using hB.push _ rfl⟩
    unfold Instr.mapUpdate
    simp only [Sem.run_bind, run_underlying hT, Result.andThen_ok, hg, K.check, K.find vr k es.toList m w h, h1, Option.map_none, run_setObj_map hb]
  · have hkey : (((es[i]?).map (·.key)).getD (kenc k)) = kenc k := by rw [key_at h h1]; rfl
    refine ⟨es.modify i fun e => { e with key := kenc k, val := v }, clock, ?_, ?_, ?_⟩
    · unfold Instr.mapUpdate
      simp only [Sem.run_bind, run_underlying hT, Result.andThen_ok, hg, K.check, K.find vr k es.toList m w h, h1, Option.map_some, hkey, Instr.keyThatStays, K.bits, if_true, Sem.run_pure, run_setObj_map hb]
    · rw [Array.toList_modify]
      exact h.modify k x v hv i h1
    · rw [Array.toList_modify]
      exact hB.modify i _ fun _ => rfl
theorem findIdx_born : ∀ (es : List MapEntry) (i : Nat) (e : MapEntry), (es.map (·.born)).Nodup → es[i]? = some e → es.findIdx? (fun x => (x.born : Int) == (e.born : Int)) = some i
  | [], _, _, _, h => by simp at h
  | a :: es, 0, e, _, h => by
    simp only [List.getElem?_cons_zero, Option.some.injEq] at h
    subst h
    simp [List.findIdx?_cons]
  | a :: es, i + 1, e, hn, h => by
    simp only [List.getElem?_cons_succ] at h
    simp only [List.map_cons, List.nodup_cons] at hn
    have hne : a.born ≠ e.born := fun he => hn.1 (by rw [he]; exact List.mem_map.2 ⟨e, List.mem_of_getElem? h, rfl⟩)
    have hb : ((a.born : Int) == (e.born : Int)) = false := by simpa using fun he => hne (by omega)
    rw [List.findIdx?_cons, hb, findIdx_born es i e hn.2 h]
    rfl
theorem run_mapEntry {T eT : TypeId} {b : Nat} {es : Array MapEntry} {clock : Nat} {m : List (κ × β)} {agg : Bool} {sz bytes : Nat} {z : Value} (K : KeyLaw (β := β) P kT kenc) (hT : P.underlying T = some (.map kT eT)) (he : TI P eT agg sz bytes z)
    (hb : w.heap[b]? = some (.map es clock)) (h : MapIs kenc vr es.toList m) (hB : Born es.toList clock) (k : κ) :
    ∃ v0 st es1 c1, (Instr.mapEntry T (.map (some b)) (kenc k)).run P w = .ok (.tuple #[v0, int st]) (setB w b (.map es1 c1)) ∧
      (∀ (w' : World) x v, w'.heap[b]? = some (.map es1 c1) → vr x v →
        ∃ es2, (Instr.entryStore T (.map (some b)) (int st) v).run P w' = .ok () (setB w' b (.map es2 c1)) ∧ MapIs kenc vr es2.toList (AL.set m k x) ∧ Born es2.toList c1) ∧ (AL.get m k ≠ none → es1 = es ∧ c1 = clock) := by
  have hg : (getObj b).run P w = .ok (.map es clock) w := by simp [getObj, Sem.run, hb]
  have fin : ∀ (es1 : Array MapEntry) (c1 i : Nat) (e : MapEntry), Born es1.toList c1 → es1[i]? = some e → (∀ x v, vr x v → MapIs kenc vr (es1.toList.modify i fun e => { e with val := v }) (AL.set m k x)) →
      ∀ (w' : World) x v, w'.heap[b]? = some (.map es1 c1) → vr x v →
        ∃ es2, (Instr.entryStore T (.map (some b)) (int e.born) v).run P w' = .ok () (setB w' b (.map es2 c1)) ∧ MapIs kenc vr es2.toList (AL.set m k x) ∧ Born es2.toList c1 := by
    intro es1 c1 i e hB1 hi hm w' x v hb' hv
    have hg' : (getObj b).run P w' = .ok (.map es1 c1) w' := by simp [getObj, Sem.run, hb']
    have hidx : es1.findIdx? (fun x => (x.born : Int) == (e.born : Int)) = some i := by
      rw [show es1 = es1.toList.toArray from rfl, List.findIdx?_toArray]
      exact findIdx_born es1.toList i e hB1.1 (by simpa using hi)
    refine ⟨es1.modify i fun e => { e with val := v }, ?_, ?_, ?_⟩
    · unfold Instr.entryStore
      simp only [Sem.run_bind, Result.andThen_ok, hg', asInt, asIntOf, Sem.run_pure, hidx, run_setObj_map hb']
    · rw [Array.toList_modify]; exact hm x v hv
    · rw [Array.toList_modify]; exact hB1.modify i _ fun _ => rfl
  rcases place_get k h with ⟨h1, h2⟩ | ⟨i, y, u, h1, h2, h3, h4, h5⟩
  · refine ⟨z, clock, es.push { key := kenc k, val := z, born := clock }, clock + 1, ?_, ?_, fun hn => absurd h2 hn⟩
    · unfold Instr.mapEntry
      simp only [Sem.run_bind, run_underlying hT, Result.andThen_ok, hg, K.check, K.find vr k es.toList m w h, h1, Option.map_none, he.run_zero, run_setObj_map hb, Sem.run_pure]
      rfl
    · refine fin _ _ es.size { key := kenc k, val := z, born := clock } (by simpa using hB.push _ rfl) (by simp) fun x v hv => ?_
      have hp := h.push k x v clock hv h1
      have e2 : ((es.push { key := kenc k, val := z, born := clock }).toList.modify es.size fun e => { e with val := v }) = es.toList ++ [{ key := kenc k, val := v, born := clock }] := by
        rw [Array.toList_push, ← Array.length_toList]
        clear hp h hb hB hg
        generalize es.toList = l
        induction l with
        | nil => rfl
        | cons a l ih => simp only [List.cons_append, List.length_cons, List.modify_succ_cons, ih]
      rw [e2]
      exact hp
  · have hkey : (((es[i]?).map (·.key)).getD (kenc k)) = kenc k := by rw [key_at h h1]; rfl
    have hi : i < es.size := by simpa using h5
    refine ⟨u, es[i].born, es.modify i fun e => { e with key := kenc k }, clock, ?_, ?_, fun _ => ⟨?_, rfl⟩⟩
    · unfold Instr.mapEntry
      simp only [Sem.run_bind, run_underlying hT, Result.andThen_ok, hg, K.check, K.find vr k es.toList m w h, h1, Option.map_some, hkey, Instr.keyThatStays, K.bits, if_true, Sem.run_pure, run_setObj_map hb, h3]
      simp [hi, goInt]
    · refine fin _ _ i { es[i] with key := kenc k } (by rw [Array.toList_modify]; exact hB.modify i _ fun _ => rfl) (by rw [Array.getElem?_modify, if_pos rfl]; simp [hi]) fun x v hv => ?_
      have hp := h.modify k x v hv i h1
      have e2 : ((es.modify i fun e => { e with key := kenc k }).toList.modify i fun e => { e with val := v }) = es.toList.modify i fun e => { e with key := kenc k, val := v } := by
        rw [Array.toList_modify]
        apply List.ext_getElem?
        intro j
        simp only [List.getElem?_modify]
        split
        · cases es.toList[j]? <;> simp
        · simp
      rw [e2]
      exact hp
    · have hk2 : es[i].key = kenc k := by
        have := key_at h h1
        rw [Array.getElem?_eq_getElem hi] at this
        simpa using this
      apply Array.ext_getElem?
      intro j
      rw [Array.getElem?_modify]
      split
      · rename_i hij
        subst hij
        rw [Array.getElem?_eq_getElem hi]
        simp only [Option.map_some]
        rw [← hk2]
      · rfl
end
end Go.Fx
set_option linter.unusedSimpArgs false
set_option linter.unusedVariables false
namespace Go.Fx
open Go
/-- A type's data: so many cells, and which cells (over the read-only heap R) tell x. -/
structure Ty (α : Type) where
  sz : Nat
  rel : Hp → α → List Value → Prop
  mono : ∀ {R R' : Hp} {x : α} {cs : List Value}, Le R R' → rel R x cs → rel R' x cs
  len : ∀ {R : Hp} {x : α} {cs : List Value}, rel R x cs → cs.length = sz
  ones : ∀ {R : Hp} {x : α} {cs : List Value}, rel R x cs → cs.all (·.oneCell') = true
namespace Ty
def int : Ty Int where
  sz := 1
  rel _ n cs := cs = [.int .i64 n]
  mono _ h := h
  len h := by subst h; rfl
  ones h := by subst h; rfl
def u8 : Ty Int where
  sz := 1
  rel _ n cs := cs = [.int .u8 n]
  mono _ h := h
  len h := by subst h; rfl
  ones h := by subst h; rfl
def bool : Ty Bool where
  sz := 1
  rel _ b cs := cs = [.bool b]
  mono _ h := h
  len h := by subst h; rfl
  ones h := by subst h; rfl
def str : Ty ByteArray where
  sz := 1
  rel _ s cs := cs = [.string s]
  mono _ h := h
  len h := by subst h; rfl
  ones h := by subst h; rfl
def pair {α β : Type} (a : Ty α) (b : Ty β) : Ty (α × β) where
  sz := a.sz + b.sz
  rel R x cs := ∃ c1 c2, cs = c1 ++ c2 ∧ a.rel R x.1 c1 ∧ b.rel R x.2 c2
  mono h := fun ⟨c1, c2, e, h1, h2⟩ => ⟨c1, c2, e, a.mono h h1, b.mono h h2⟩
  len := fun ⟨c1, c2, e, h1, h2⟩ => by subst e; rw [List.length_append, a.len h1, b.len h2]
  ones := fun ⟨c1, c2, e, h1, h2⟩ => by subst e; rw [List.all_append, a.ones h1, b.ones h2]; rfl
def via {α β : Type} (t : Ty α) (f : β → α) : Ty β where
  sz := t.sz
  rel R x cs := t.rel R (f x) cs
  mono := t.mono
  len := t.len
  ones := t.ones
end Ty
section
variable {α : Type}
/-- A list of data, one behind the other. -/
inductive Encs (t : Ty α) (R : Hp) : List α → List Value → Prop
  | nil : Encs t R [] []
  | cons {x c xs cs} : t.rel R x c → Encs t R xs cs → Encs t R (x :: xs) (c ++ cs)
theorem Encs.mono {t : Ty α} {R R' : Hp} {xs : List α} {cs : List Value} (h : Encs t R xs cs) (l : Le R R') : Encs t R' xs cs := by
  induction h with
  | nil => exact .nil
  | cons hx _ ih => exact .cons (t.mono l hx) ih
theorem Encs.len {t : Ty α} {R : Hp} {xs : List α} {cs : List Value} (h : Encs t R xs cs) : cs.length = xs.length * t.sz := by
  induction h with
  | nil => simp
  | cons hx _ ih => rw [List.length_append, t.len hx, ih, List.length_cons, Nat.add_mul, Nat.one_mul, Nat.add_comm]
theorem Encs.ones {t : Ty α} {R : Hp} {xs : List α} {cs : List Value} (h : Encs t R xs cs) : cs.all (·.oneCell') = true := by
  induction h with
  | nil => rfl
  | cons hx _ ih => rw [List.all_append, t.ones hx, ih]; rfl
theorem Encs.append {t : Ty α} {R : Hp} {xs ys : List α} {cs ds : List Value} (h : Encs t R xs cs) (k : Encs t R ys ds) : Encs t R (xs ++ ys) (cs ++ ds) := by
  induction h with
  | nil => exact k
  | cons hx _ ih => rw [List.append_assoc]; exact .cons hx ih
theorem Encs.one {t : Ty α} {R : Hp} {x : α} {c : List Value} (h : t.rel R x c) : Encs t R [x] c := by
  have := Encs.cons (t := t) h .nil
  simpa using this
theorem Encs.get {t : Ty α} {R : Hp} {xs : List α} {cs : List Value} (h : Encs t R xs cs) (i : Nat) (hi : i < xs.length) : t.rel R xs[i] ((cs.drop (i * t.sz)).take t.sz) := by
  induction h generalizing i with
  | nil => simp at hi
  | @cons x c xs cs hx _ ih =>
    cases i with
    | zero => simp only [Nat.zero_mul, List.drop_zero, List.getElem_cons_zero]; rw [← t.len hx, List.take_left]; exact hx
    | succ i =>
      have e : (i + 1) * t.sz = c.length + i * t.sz := by rw [t.len hx, Nat.add_mul, Nat.one_mul, Nat.add_comm]
      rw [e, List.drop_append, List.drop_eq_nil_of_le (by omega), List.nil_append, Nat.add_sub_cancel_left]
      exact ih i (by simpa using hi)
theorem Encs.set {t : Ty α} {R : Hp} {xs : List α} {cs : List Value} (h : Encs t R xs cs) (i : Nat) (hi : i < xs.length) {y : α} {c : List Value} (hy : t.rel R y c) :
    Encs t R (xs.set i y) (cs.take (i * t.sz) ++ c ++ cs.drop (i * t.sz + t.sz)) := by
  induction h generalizing i with
  | nil => simp at hi
  | @cons x d xs cs hx hr ih =>
    cases i with
    | zero =>
      simp only [Nat.zero_mul, List.take_zero, List.nil_append, Nat.zero_add, List.set_cons_zero]
      rw [← t.len hx, List.drop_left]
      exact .cons hy hr
    | succ i =>
      have e : (i + 1) * t.sz = d.length + i * t.sz := by rw [t.len hx, Nat.add_mul, Nat.one_mul, Nat.add_comm]
      rw [e, List.take_append, List.take_of_length_le (by omega), Nat.add_sub_cancel_left, List.set_cons_succ, Nat.add_assoc, List.drop_append, List.drop_eq_nil_of_le (by omega), List.nil_append, Nat.add_sub_cancel_left, List.append_assoc, List.append_assoc]
      refine .cons hx ?_
      rw [← List.append_assoc]
      exact ih i (by simpa using hi)
theorem Encs.take {t : Ty α} {R : Hp} {xs : List α} {cs : List Value} (h : Encs t R xs cs) (i : Nat) : Encs t R (xs.take i) (cs.take (i * t.sz)) := by
  induction h generalizing i with
  | nil => simpa using Encs.nil
  | @cons x c xs cs hx _ ih =>
    cases i with
    | zero => simpa using Encs.nil
    | succ i =>
      have e : (i + 1) * t.sz = c.length + i * t.sz := by rw [t.len hx, Nat.add_mul, Nat.one_mul, Nat.add_comm]
      have e2 : (c ++ cs).take ((i + 1) * t.sz) = c ++ cs.take (i * t.sz) := by
        rw [e, List.take_append, List.take_of_length_le (by omega), Nat.add_sub_cancel_left]
      rw [e2, List.take_succ_cons]
      exact .cons hx (ih i)
theorem Encs.drop {t : Ty α} {R : Hp} {xs : List α} {cs : List Value} (h : Encs t R xs cs) (i : Nat) : Encs t R (xs.drop i) (cs.drop (i * t.sz)) := by
  induction h generalizing i with
  | nil => simpa using Encs.nil
  | @cons x c xs cs hx hr ih =>
    cases i with
    | zero => simpa using Encs.cons hx hr
    | succ i =>
      have e : (i + 1) * t.sz = c.length + i * t.sz := by rw [t.len hx, Nat.add_mul, Nat.one_mul, Nat.add_comm]
      have e2 : (c ++ cs).drop ((i + 1) * t.sz) = cs.drop (i * t.sz) := by
        rw [e, List.drop_append, List.drop_eq_nil_of_le (by omega), List.nil_append, Nat.add_sub_cancel_left]
      rw [e2, List.drop_succ_cons]
      exact ih i
/-- v is a slice that reads as xs, from now on. -/
def RdS (t : Ty α) (R : Hp) (v : Value) (xs : List α) : Prop :=
  ∃ a cap, v = .slice a xs.length cap ∧ xs.length ≤ cap ∧
    (xs ≠ [] → ∃ b off cs T fz, a = some ⟨b, off, none⟩ ∧ R b = some (.cells cs T fz) ∧ Encs t R xs (seg cs off (xs.length * t.sz)))
theorem RdS.mono {t : Ty α} {R R' : Hp} {v : Value} {xs : List α} (h : RdS t R v xs) (l : Le R R') : RdS t R' v xs := by
  obtain ⟨a, cap, e, hc, h⟩ := h
  refine ⟨a, cap, e, hc, fun hne => ?_⟩
  obtain ⟨b, off, cs, T, fz, ha, hb, he⟩ := h hne
  exact ⟨b, off, cs, T, fz, ha, l _ _ hb, he.mono l⟩
theorem RdS.empty (t : Ty α) (R : Hp) : RdS t R (.slice none 0 0) [] := ⟨_, _, rfl, by simp, fun h => absurd rfl h⟩
/-- A slice in a cell. -/
def Ty.slice (t : Ty α) : Ty (List α) where
  sz := 1
  rel R xs cs := ∃ v, cs = [v] ∧ RdS t R v xs
  mono l := fun ⟨v, e, h⟩ => ⟨v, e, h.mono l⟩
  len := fun ⟨v, e, _⟩ => by subst e; rfl
  ones := fun ⟨v, e, _, _, ev, _⟩ => by subst e; subst ev; rfl
/-- v is a slice of one's own that reads as xs. -/
def OwnL (t : Ty α) (T : Nat) (R : Hp) (v : Value) (xs : List α) (c : Hp) : Prop := ∃ cells, OwnS T t.sz v xs.length cells c ∧ Encs t R xs cells
theorem OwnL.empty (t : Ty α) (T : Nat) (R : Hp) : OwnL t T R (.slice none 0 0) [] non := ⟨[], OwnS.empty _ _, .nil⟩
theorem OwnL.mono {t : Ty α} {T : Nat} {R R' : Hp} {v : Value} {xs : List α} {c : Hp} (h : OwnL t T R v xs c) (l : Le R R') : OwnL t T R' v xs c := by
  obtain ⟨cells, h1, h2⟩ := h
  exact ⟨cells, h1, h2.mono l⟩
/-- What is owned no more may be read for ever. -/
theorem OwnL.freeze {t : Ty α} {T : Nat} {R R' : Hp} {v : Value} {xs : List α} {c : Hp} (h : OwnL t T R v xs c) (l : Le R R') (k : Le c R') : RdS t R' v xs := by
  obtain ⟨cells, h1, h2⟩ := h
  rcases h1 with ⟨rfl, hn, rfl, rfl⟩ | ⟨b, cap, cs, rfl, rfl, rfl, hc, hs⟩
  · have hx : xs = [] := List.eq_nil_of_length_eq_zero hn
    subst hx
    exact RdS.empty _ _
  · refine ⟨_, cap, rfl, hc, fun _ => ⟨b, 0, cs, T, (0, 0), rfl, k b _ (one_self _ _), ?_⟩⟩
    have : seg cs 0 (xs.length * t.sz) = cs.toList.take (xs.length * t.sz) := by simp [seg]
    rw [this]
    exact h2.mono l
theorem OwnL.value {t : Ty α} {T : Nat} {R : Hp} {v : Value} {xs : List α} {c : Hp} (h : OwnL t T R v xs c) : ∃ a cap, v = .slice a xs.length cap ∧ xs.length ≤ cap := by
  obtain ⟨cells, h1, h2⟩ := h
  rcases h1 with ⟨rfl, hn, rfl, rfl⟩ | ⟨b, cap, cs, rfl, rfl, rfl, hc, hs⟩
  · exact ⟨_, _, by rw [hn], by omega⟩
  · exact ⟨_, _, rfl, hc⟩
end
end Go.Fx
set_option linter.unusedSimpArgs false
set_option linter.unusedVariables false
set_option linter.unnecessarySimpa false
namespace Go.Fx
open Go
/-- None of the operations Ts has come up. -/
def unl (Ts : List Nat) (listed : Array Bool) : Bool := Ts.all fun t => listed.getD t true == false
/-- Each of the operations Ts waits for number i. -/
def wait (ops : Array Oper) (Ts : List Nat) (i : Nat) : Bool := Ts.all fun t => match ops[t]? with
  | some o => o.after.any fun e => Region.binds .any e && e.on == i
  | none => false
theorem unl_spec {Ts : List Nat} {listed : Array Bool} (h : unl Ts listed = true) : ∀ t ∈ Ts, listed.getD t true = false := fun t ht => by
  have := List.all_eq_true.1 h t ht
  simpa using this
theorem unl_mk {Ts : List Nat} {listed : Array Bool} (h : ∀ t ∈ Ts, listed.getD t true = false) : unl Ts listed = true :=
  List.all_eq_true.2 fun t ht => by simp [h t ht]
/-- Whatever order is picked from here on; F holds behind every operation, as long as none of Ts has come up. -/
def wpAnyI (P : Program) (ops : Array Oper) (Q : Exit → Act → World → Prop) (Ts : List Nat) (F : World → Prop) : Nat → Array Bool → Act → World → Prop
  | 0, listed, a, w => Region.ready .any ops listed = [] ∧ Q .normal a w
  | fuel + 1, listed, a, w =>
    (Region.ready .any ops listed = [] → Q .normal a w) ∧
    ∀ i ∈ Region.ready .any ops listed, wpOp P ops Q i (fun a' w' => (unl Ts (listed.setIfInBounds i true) = true → F w') ∧ wpAnyI P ops Q Ts F fuel (listed.setIfInBounds i true) a' w') a w
section
variable {P : Program} {ops : Array Oper} {Q : Exit → Act → World → Prop} {Ts : List Nat} {F : World → Prop}
theorem wpAny_of_I : ∀ (fuel : Nat) (listed : Array Bool) (a : Act) (w : World), wpAnyI P ops Q Ts F fuel listed a w → wpAny P .any ops Q fuel listed a w
  | 0, _, _, _, h => h
  | fuel + 1, _, _, _, h => ⟨h.1, fun i hi => wpOp_mono (fun a' w' h' => wpAny_of_I fuel _ a' w' h'.2) (h.2 i hi)⟩
theorem unl_set {listed : Array Bool} {i : Nat} (h : unl Ts listed = true) (hi : i ∉ Ts) : unl Ts (listed.setIfInBounds i true) = true :=
  unl_mk fun t ht => by
    have hne : i ≠ t := fun e => hi (by rw [e]; exact ht)
    rw [getD_set_ne true hne]
    exact unl_spec h t ht
theorem unl_unset {listed : Array Bool} {i : Nat} (h : unl Ts (listed.setIfInBounds i true) = true) : unl Ts listed = true :=
  unl_mk fun t ht => by
    have := unl_spec h t ht
    by_cases e : i = t
    · subst e
      rcases Nat.lt_or_ge i listed.size with h' | h'
      · simp [h'] at this
      · simpa [Array.setIfInBounds, Nat.not_lt.2 h'] using this
    · rwa [getD_set_ne true e] at this
theorem wpAnyI_first {i : Nat} {oi : Oper} {v : Value} (hi : ops[i]? = some oi) (hsel : ∀ (j : Nat) (o : Oper) cs b, ops[j]? = some o → o.op ≠ .select cs b) (hw8 : wait ops Ts i = true)
    (hQ : ∀ c a w, Q (.panic c) (a.put oi.dst v) w → Q (.panic c) a w) :
    ∀ (fuel : Nat) (listed : Array Bool) (a : Act) (w : World),
      (∀ j oj, ops[j]? = some oj → j ≠ i → listed.getD j true = false → (∀ e ∈ oj.after, Region.binds .any e = true → e.on ≠ i) → oi.apart ops oj = true) →
      i ∈ Region.ready .any ops listed → YieldsIf P ops F oi v a → unl Ts listed = true → F w →
      wpAnyI P ops Q Ts F fuel (listed.setIfInBounds i true) (a.put oi.dst v) w → wpAnyI P ops Q Ts F (fuel + 1) listed a w := by
  have hiT : ∀ listed, i ∈ Region.ready .any ops listed → i ∉ Ts := by
    intro listed hr hin
    have h := List.all_eq_true.1 hw8 i hin
    obtain ⟨hun, o, ho, hall⟩ := mem_ready.1 hr
    rw [ho] at h
    simp only at h
    obtain ⟨e, he, hb⟩ := Array.any_eq_true'.1 h
    simp only [Bool.and_eq_true, beq_iff_eq] at hb
    have h2 := hall e he hb.1
    rw [hb.2] at h2
    rcases Nat.lt_or_ge i listed.size with h' | h'
    · simp [h'] at hun h2; rw [hun] at h2; cases h2
    · simp [Array.getElem?_eq_none h'] at h2
  intro fuel
  induction fuel with
  | zero =>
    intro listed a w _ hr hy hT hF H
    refine ⟨fun h => (by rw [h] at hr; cases hr), fun j hj => ?_⟩
    by_cases hji : j = i
    · subst hji; exact hy.wpOp hi hF ⟨fun _ => hF, H⟩
    · have := ready_mono hj hji
      rw [H.1] at this
      cases this
  | succ fuel ih =>
    intro listed a w hfree hr hy hT hF H
    refine ⟨fun h => (by rw [h] at hr; cases hr), fun j hj => ?_⟩
    by_cases hji : j = i
    · subst hji; exact hy.wpOp hi hF ⟨fun _ => hF, H⟩
    · have h1 := H.2 j (ready_mono hj hji)
      obtain ⟨hjun, oj, hoj, hall⟩ := mem_ready.1 hj
      have hnot : ∀ e ∈ oj.after, Region.binds .any e = true → e.on ≠ i := fun e he hb heq => by
        have h1 := hall e he hb
        have h0 := (mem_ready.1 hr).1
        rw [heq] at h1
        rcases Nat.lt_or_ge i listed.size with h' | h'
        · simp [h'] at h0 h1; rw [h0] at h1; cases h1
        · simp [Array.getElem?_eq_none h'] at h1
      have hjT : j ∉ Ts := by
        intro hin
        have h := List.all_eq_true.1 hw8 j hin
        rw [hoj] at h
        simp only at h
        obtain ⟨e, he, hb⟩ := Array.any_eq_true'.1 h
        simp only [Bool.and_eq_true, beq_iff_eq] at hb
        exact hnot e he hb.1 hb.2
      have h2 := wpOp_putIf hoj (hfree j oj hoj hji hjun hnot) (fun cs b => hsel i oi cs b hi) (fun cs b => hsel j oj cs b hoj) hQ hy h1
      have hfree' : ∀ k ok, ops[k]? = some ok → k ≠ i → (listed.setIfInBounds j true).getD k true = false →
          (∀ e ∈ ok.after, Region.binds .any e = true → e.on ≠ i) → oi.apart ops ok = true := fun k ok hk hki hun hno => by
        refine hfree k ok hk hki ?_ hno
        by_cases hjk : j = k
        · subst hjk; exact hjun
        · rw [getD_set_ne true hjk] at hun; exact hun
      have hT' := unl_set hT hjT
      have hF' : ∀ w', (unl Ts ((listed.setIfInBounds i true).setIfInBounds j true) = true → F w') → F w' := fun w' hf => hf (unl_set (unl_set hT (hiT _ hr)) hjT)
      refine wpOp_mono (fun a' w' h3 => ⟨fun _ => hF' _ h3.2.1, ih (listed.setIfInBounds j true) a' w' hfree' (ready_mono hr (Ne.symm hji)) h3.1 hT' (hF' _ h3.2.1) ?_⟩) h2
      rw [Array.setIfInBounds_comm _ _ hji]
      exact h3.2.2
theorem unl_set' {listed : Array Bool} {i : Nat} (h : unl Ts listed = true) (hi : Ts.contains i = false) : unl Ts (listed.setIfInBounds i true) = true :=
  unl_set h (by simpa using hi)
/-- An operation that looks at no world may be taken first whatever has come up. -/
theorem wpAnyI_firstP {i : Nat} {oi : Oper} {v : Value} (hi : ops[i]? = some oi) (hsel : ∀ (j : Nat) (o : Oper) cs b, ops[j]? = some o → o.op ≠ .select cs b) (hiT : Ts.contains i = false)
    (hQ : ∀ c a w, Q (.panic c) (a.put oi.dst v) w → Q (.panic c) a w) :
    ∀ (fuel : Nat) (listed : Array Bool) (a : Act) (w : World),
      (∀ j oj, ops[j]? = some oj → j ≠ i → listed.getD j true = false → (∀ e ∈ oj.after, Region.binds .any e = true → e.on ≠ i) → oi.apart ops oj = true) →
      i ∈ Region.ready .any ops listed → YieldsIf P ops (fun _ => True) oi v a → (unl Ts listed = true → F w) →
      wpAnyI P ops Q Ts F fuel (listed.setIfInBounds i true) (a.put oi.dst v) w → wpAnyI P ops Q Ts F (fuel + 1) listed a w := by
  intro fuel
  induction fuel with
  | zero =>
    intro listed a w _ hr hy hF H
    refine ⟨fun h => (by rw [h] at hr; cases hr), fun j hj => ?_⟩
    by_cases hji : j = i
    · subst hji; exact hy.wpOp hi trivial ⟨fun h => hF (unl_unset h), H⟩
    · have := ready_mono hj hji
      rw [H.1] at this
      cases this
  | succ fuel ih =>
    intro listed a w hfree hr hy hF H
    refine ⟨fun h => (by rw [h] at hr; cases hr), fun j hj => ?_⟩
    by_cases hji : j = i
    · subst hji; exact hy.wpOp hi trivial ⟨fun h => hF (unl_unset h), H⟩
    · have h1 := H.2 j (ready_mono hj hji)
      obtain ⟨hjun, oj, hoj, hall⟩ := mem_ready.1 hj
      have hnot : ∀ e ∈ oj.after, Region.binds .any e = true → e.on ≠ i := fun e he hb heq => by
        have h1 := hall e he hb
        have h0 := (mem_ready.1 hr).1
        rw [heq] at h1
        rcases Nat.lt_or_ge i listed.size with h' | h'
        · simp [h'] at h0 h1; rw [h0] at h1; cases h1
        · simp [Array.getElem?_eq_none h'] at h1
      have h2 := wpOp_putIf hoj (hfree j oj hoj hji hjun hnot) (fun cs b => hsel i oi cs b hi) (fun cs b => hsel j oj cs b hoj) hQ hy h1
      have hfree' : ∀ k ok, ops[k]? = some ok → k ≠ i → (listed.setIfInBounds j true).getD k true = false →
          (∀ e ∈ ok.after, Region.binds .any e = true → e.on ≠ i) → oi.apart ops ok = true := fun k ok hk hki hun hno => by
        refine hfree k ok hk hki ?_ hno
        by_cases hjk : j = k
        · subst hjk; exact hjun
        · rw [getD_set_ne true hjk] at hun; exact hun
      have hF' : ∀ w', (unl Ts ((listed.setIfInBounds i true).setIfInBounds j true) = true → F w') → unl Ts (listed.setIfInBounds j true) = true → F w' := fun w' hf hu => hf (by
        rw [Array.setIfInBounds_comm _ _ (Ne.symm hji)]
        exact unl_set' hu hiT)
      refine wpOp_mono (fun a' w' h3 => ⟨hF' _ h3.2.1, ih (listed.setIfInBounds j true) a' w' hfree' (ready_mono hr (Ne.symm hji)) h3.1 (hF' _ h3.2.1) ?_⟩) h2
      rw [Array.setIfInBounds_comm _ _ hji]
      exact h3.2.2
end
structure LA (P : Program) (n : Nat) (ops : Array Oper) (Ts : List Nat) (F : World → Prop) (Q : QT) (fuel : Nat) (listed : Array Bool) (σ : Fr) (w : World) : Prop where
  run : ∀ a, Rel n a σ → wpAnyI P ops (lift n Q) Ts F fuel listed a w
section
variable {P : Program} {n : Nat} {Q : QT} {σ : Fr} {w : World} {ops : Array Oper} {S F : World → Prop} {Ts : List Nat} {fuel : Nat} {listed : Array Bool}
/-- No operation is a defer statement. -/
def noDefer (ops : Array Oper) : Bool := ops.toList.all fun o => match o.op with
  | .defer _ => false
  | _ => true
theorem rowsIn_of {ro : Option Nat} {n : Nat} {row : String} {args : Array Value} {R : Value → World → Prop} (h : Rows P row args w R) : RowsIn (rof ro) n P row args w R :=
  fun c cs _ => let ⟨v, w', r, s⟩ := h c cs; ⟨v, w', r, stepsIn_wide.2 s⟩
theorem opsIn_of {ro : Option Nat} {Q : Exit → Act → World → Prop} (hd : noDefer ops = true) (hO : ¬ LetsOut Q) : ∀ (l : List Nat) (a : Act) (w : World), wpOps P ops Q l a w → wpOpsIn (rof ro) 0 P ops Q l a w
  | [], _, _, h => h
  | i :: rest, a, w, h => by
    unfold wpOps at h
    unfold wpOpsIn
    cases ho : ops[i]? with
    | none => simp only [ho] at h ⊢; exact opsIn_of hd hO rest _ _ h
    | some o =>
      simp only [ho] at h ⊢
      have hnd : ∀ c, o.op ≠ .defer c := by
        intro c hc
        have hm : o ∈ ops.toList := Array.mem_toList_iff.2 (Array.mem_of_getElem? ho)
        have := List.all_eq_true.1 hd o hm
        rw [hc] at this
        cases this
      split at h
      · rename_i hw
        rw [if_pos hw]
        rcases h with h | ⟨_, h⟩
        · refine ⟨fun _ _ => trivial, ?_⟩
          rw [Oper.semAt_eq ro _ o hnd]
          unfold Oper.wp at h
          generalize (execOp a.eval o).run P w = r at h ⊢
          unfold Oper.upon at h
          unfold Oper.uponIn
          split at h <;> simp only at h ⊢
          · exact opsIn_of hd hO rest _ _ h
          · exact opsIn_of hd hO rest _ _ h
          · exact opsIn_of hd hO rest _ _ h
          · refine ⟨(fun h => by cases h), calls_rof.2 (h.mono fun e w'' q => ?_)⟩
            cases e with
            | returned v => exact opsIn_of hd hO rest _ _ q
            | panicked c => exact q
            | outgrown => exact q
          · exact ⟨(fun h => by cases h), rowsIn_of fun c cs => let ⟨v, w', r, s⟩ := h c cs; ⟨v, w', opsIn_of hd hO rest _ _ r, s⟩⟩
          · exact h
        · exact absurd h hO
      · rename_i hw
        rw [if_neg hw]
        exact ⟨fun _ _ => trivial, opsIn_of hd hO rest _ _ h⟩
theorem W_region_draw {ro : Option Nat} (Ts : List Nat) (F : World → Prop) {id : Nat} (hm : P.follows .mixedOrders = true) (hd : noDefer ops = true) (hO : ∀ σ w, ¬ Q .outgrown σ w) (h : LA P n ops Ts F Q ops.size (Array.replicate ops.size false) σ (draws w (w.drawn + 1))) :
    W ro P n (.region id ops true) Q σ w :=
  ⟨fun a ha => wpIn_region_draw fun t => by
    simp only [Region.schedule, hm, Bool.true_or, if_true]
    exact opsIn_of (Q := lift n Q) hd (fun h => by obtain ⟨a', w', τ, _, q⟩ := h; exact hO τ w' q) _ _ _ (wpAny_sound ops.size t _ a _ (wpAny_of_I _ _ _ _ (h.run a ha)))⟩
theorem yld {a : Act} (ha : Rel n a σ) {j d : Nat} {oj : Oper} {b : Bool} (hj : ops[j]? = some oj) (hdj : oj.dst = some d) (hb : at_ σ d = .bool b) : yielded ops a.tmps j = some b := by
  have hv : a.tmps.getD d undef = .bool b := by rw [ha.get, hb]
  have hv' : a.tmps[d]? = some (.bool b) := by
    rw [Array.getD_eq_getD_getElem?] at hv
    cases hh : a.tmps[d]? with
    | none => rw [hh] at hv; simp [undef] at hv
    | some x => rw [hh] at hv; simpa using hv
  simp [yielded, hj, hdj, hv']
/-- Is this operation carried out? -/
def Want (ops : Array Oper) (σ : Fr) (o : Oper) (y : Bool) : Prop :=
  (o.guard = none ∧ y = true) ∨ (∃ j want oj d b, o.guard = some (j, want) ∧ ops[j]? = some oj ∧ oj.dst = some d ∧ at_ σ d = .bool b ∧ y = (b == want)) ∨
    ∃ j want oj d, o.guard = some (j, want) ∧ ops[j]? = some oj ∧ oj.dst = some d ∧ at_ σ d = undef ∧ y = false
theorem Want.plain {o : Oper} (h : o.guard = none) : Want ops σ o true := .inl ⟨h, rfl⟩
theorem Want.grd {o : Oper} {j d : Nat} {want b : Bool} {oj : Oper} (h : o.guard = some (j, want)) (hj : ops[j]? = some oj) (hd : oj.dst = some d) (hb : at_ σ d = .bool b) : Want ops σ o (b == want) :=
  .inr (.inl ⟨j, want, oj, d, b, h, hj, hd, hb, rfl⟩)
theorem Want.undef {o : Oper} {j d : Nat} {want : Bool} {oj : Oper} (h : o.guard = some (j, want)) (hj : ops[j]? = some oj) (hd : oj.dst = some d) (hb : at_ σ d = undef) : Want ops σ o false :=
  .inr (.inr ⟨j, want, oj, d, h, hj, hd, hb, rfl⟩)
theorem Want.wanted {o : Oper} {y : Bool} (h : Want ops σ o y) {a : Act} (ha : Rel n a σ) : Region.wanted o (yielded ops a.tmps) = y := by
  rcases h with ⟨h, rfl⟩ | ⟨j, want, oj, d, b, h, hj, hd, hb, rfl⟩ | ⟨j, want, oj, d, h, hj, hd, hb, rfl⟩
  · simp [Region.wanted, h]
  · simp only [Region.wanted, h, yld ha hj hd hb]
    cases b <;> cases want <;> rfl
  · simp [Region.wanted, h, yielded_undef ha hj hd hb]
/-- An operation that gives its value in every world that meets F may be taken first. -/
theorem LA_take (i : Nat) {o : Oper} {d : Nat} {v : Value} (hi : ops[i]? = some o) (hd : o.dst = some d) (hn : Nat.blt d n = true) (hs : Region.noSelect ops = true) (hf : Region.free .any ops listed i = true)
    (hr : (Region.ready .any ops listed).contains i = true) (hw8 : wait ops Ts i = true) (hT : unl Ts listed = true) (hQ : ∀ c σ w, ¬ Q (.panic c) σ w) (hw : Want ops σ o true)
    (hv : ∀ w, F w → (execOp (ev σ) o).run P w = .ok (.value v) w) (hF : F w) (k : LA P n ops Ts F Q fuel (listed.setIfInBounds i true) (upd σ d v) w) : LA P n ops Ts F Q (fuel + 1) listed σ w := by
  refine ⟨fun a ha => ?_⟩
  have hp := ha.put (d := d) (by simpa using hn) v
  refine wpAnyI_first hi (Region.noSelect_spec hs) hw8 (v := v) (fun c a w ⟨τ, _, q⟩ => absurd q (hQ c τ w)) fuel listed a w (Region.free_spec hi hf) (by simpa using hr)
    (.inl ⟨hw.wanted ha, fun w hF => by rw [ha.eval]; exact hv w hF⟩) hT hF ?_
  rw [hd]
  exact k.run _ hp
/-- An operation that gives its value in every world may be taken first. -/
theorem LA_takeP (i : Nat) {o : Oper} {d : Nat} {v : Value} (hi : ops[i]? = some o) (hd : o.dst = some d) (hn : Nat.blt d n = true) (hs : Region.noSelect ops = true) (hf : Region.free .any ops listed i = true)
    (hr : (Region.ready .any ops listed).contains i = true) (hiT : Ts.contains i = false) (hQ : ∀ c σ w, ¬ Q (.panic c) σ w) (hw : Want ops σ o true)
    (hv : ∀ w, (execOp (ev σ) o).run P w = .ok (.value v) w) (hF : unl Ts listed = true → F w) (k : LA P n ops Ts F Q fuel (listed.setIfInBounds i true) (upd σ d v) w) : LA P n ops Ts F Q (fuel + 1) listed σ w := by
  refine ⟨fun a ha => ?_⟩
  have hp := ha.put (d := d) (by simpa using hn) v
  refine wpAnyI_firstP hi (Region.noSelect_spec hs) hiT (v := v) (fun c a w ⟨τ, _, q⟩ => absurd q (hQ c τ w)) fuel listed a w (Region.free_spec hi hf) (by simpa using hr)
    (.inl ⟨hw.wanted ha, fun w _ => by rw [ha.eval]; exact hv w⟩) hF ?_
  rw [hd]
  exact k.run _ hp
theorem LA_leaveP (i : Nat) {o : Oper} {d : Nat} (hi : ops[i]? = some o) (hd : o.dst = some d) (hn : Nat.blt d n = true) (hs : Region.noSelect ops = true) (hf : Region.free .any ops listed i = true)
    (hr : (Region.ready .any ops listed).contains i = true) (hiT : Ts.contains i = false) (hQ : ∀ c σ w, ¬ Q (.panic c) σ w) (hw : Want ops σ o false) (hF : unl Ts listed = true → F w)
    (k : LA P n ops Ts F Q fuel (listed.setIfInBounds i true) (upd σ d undef) w) : LA P n ops Ts F Q (fuel + 1) listed σ w := by
  refine ⟨fun a ha => ?_⟩
  have hp := ha.put (d := d) (by simpa using hn) undef
  refine wpAnyI_firstP hi (Region.noSelect_spec hs) hiT (v := undef) (fun c a w ⟨τ, _, q⟩ => absurd q (hQ c τ w)) fuel listed a w (Region.free_spec hi hf) (by simpa using hr)
    (.inr ⟨hw.wanted ha, rfl⟩) hF ?_
  rw [hd]
  exact k.run _ hp
/-- The same three, what a program checks left to it. -/
theorem LT (v : Value) (i : Nat) {o : Oper} {d : Nat} (hi : ops[i]? = some o) (hd : o.dst = some d) (hn : Nat.blt d n = true)
    (hv : ∀ w, F w → (execOp (ev σ) o).run P w = .ok (.value v) w) (hF : F w) (k : LA P n ops Ts F Q fuel (listed.setIfInBounds i true) (upd σ d v) w)
    (hw : Want ops σ o true := by exact Want.plain rfl)
    (hs : Region.noSelect ops = true := by decide +kernel) (hf : Region.free .any ops listed i = true := by decide +kernel) (hr : (Region.ready .any ops listed).contains i = true := by decide +kernel)
    (hw8 : wait ops Ts i = true := by decide +kernel) (hT : unl Ts listed = true := by decide +kernel) (hQ : ∀ c σ w, ¬ Q (.panic c) σ w := by intro _ _ _ h; exact h) : LA P n ops Ts F Q (fuel + 1) listed σ w :=
  LA_take i hi hd hn hs hf hr hw8 hT hQ hw hv hF k
theorem LP (v : Value) (i : Nat) {o : Oper} {d : Nat} (hi : ops[i]? = some o) (hd : o.dst = some d) (hn : Nat.blt d n = true)
    (hv : ∀ w, (execOp (ev σ) o).run P w = .ok (.value v) w) (hF : F w) (k : LA P n ops Ts F Q fuel (listed.setIfInBounds i true) (upd σ d v) w)
    (hw : Want ops σ o true := by exact Want.plain rfl)
    (hs : Region.noSelect ops = true := by decide +kernel) (hf : Region.free .any ops listed i = true := by decide +kernel) (hr : (Region.ready .any ops listed).contains i = true := by decide +kernel)
    (hiT : Ts.contains i = false := by decide +kernel) (hQ : ∀ c σ w, ¬ Q (.panic c) σ w := by intro _ _ _ h; exact h) : LA P n ops Ts F Q (fuel + 1) listed σ w :=
  LA_takeP i hi hd hn hs hf hr hiT hQ hw hv (fun _ => hF) k
theorem LV (i : Nat) {o : Oper} {d : Nat} (hi : ops[i]? = some o) (hd : o.dst = some d) (hn : Nat.blt d n = true) (hF : F w)
    (k : LA P n ops Ts F Q fuel (listed.setIfInBounds i true) (upd σ d undef) w)
    (hw : Want ops σ o false := by exact Want.plain rfl)
    (hs : Region.noSelect ops = true := by decide +kernel) (hf : Region.free .any ops listed i = true := by decide +kernel) (hr : (Region.ready .any ops listed).contains i = true := by decide +kernel)
    (hiT : Ts.contains i = false := by decide +kernel) (hQ : ∀ c σ w, ¬ Q (.panic c) σ w := by intro _ _ _ h; exact h) : LA P n ops Ts F Q (fuel + 1) listed σ w :=
  LA_leaveP i hi hd hn hs hf hr hiT hQ hw (fun _ => hF) k
/-- One of those that may come up. -/
structure One (P : Program) (n : Nat) (ops : Array Oper) (S : World → Prop) (Q : QT) (i : Nat) (K : Fr → World → Prop) (σ : Fr) (w : World) : Prop where
  run : ∀ a, Rel n a σ → wpOp P ops (lift n Q) i (fun a' w' => S w' ∧ ∃ σ', Rel n a' σ' ∧ K σ' w') a w
theorem LA_all (rs : List Nat) (hr : Region.ready .any ops listed = rs) (hne : rs ≠ [])
    (h : ∀ i ∈ rs, One P n ops (fun w' => unl Ts (listed.setIfInBounds i true) = true → F w') Q i (fun σ' w' => LA P n ops Ts F Q fuel (listed.setIfInBounds i true) σ' w') σ w) : LA P n ops Ts F Q (fuel + 1) listed σ w := by
  refine ⟨fun a ha => ⟨fun h0 => absurd (hr ▸ h0) hne, fun i hi => ?_⟩⟩
  rw [hr] at hi
  exact wpOp_mono (fun a' w' ⟨h1, τ, h2, h3⟩ => ⟨h1, h3.run _ h2⟩) ((h i hi).run a ha)
theorem LA_done (hr : Region.ready .any ops listed = []) (h : Q .normal σ w) : LA P n ops Ts F Q fuel listed σ w := by
  refine ⟨fun a ha => ?_⟩
  cases fuel with
  | zero => exact ⟨hr, σ, ha, h⟩
  | succ fuel => exact ⟨fun _ => ⟨σ, ha, h⟩, fun i hi => by rw [hr] at hi; cases hi⟩
theorem One_val {i : Nat} {o : Oper} {d : Nat} {v : Value} {w' : World} {K : Fr → World → Prop} (hi : ops[i]? = some o) (hd : o.dst = some d) (hn : Nat.blt d n = true) (hw : Want ops σ o true)
    (hr : (execOp (ev σ) o).run P w = .ok (.value v) w') (hS : S w') (k : K (upd σ d v) w') : One P n ops S Q i K σ w := by
  refine ⟨fun a ha => ?_⟩
  have hp := ha.put (d := d) (by simpa using hn) v
  unfold wpOp
  simp only [hi, hw.wanted ha, if_true]
  refine .inl ?_
  simp only [Oper.wp, ha.eval, hr, Oper.upon, hd]
  exact ⟨hS, _, hp, k⟩
theorem One_skip {i : Nat} {o : Oper} {w' : World} {K : Fr → World → Prop} (hi : ops[i]? = some o) (hd : o.dst = none) (hw : Want ops σ o true)
    (hr : (execOp (ev σ) o).run P w = .ok .skip w') (hS : S w') (k : K σ w') : One P n ops S Q i K σ w := by
  refine ⟨fun a ha => ?_⟩
  unfold wpOp
  simp only [hi, hw.wanted ha, if_true]
  refine .inl ?_
  simp only [Oper.wp, ha.eval, hr, Oper.upon, hd]
  exact ⟨hS, _, ha, k⟩
theorem One_call {i : Nat} {o : Oper} {d f : Nat} {args : Array Value} {w' : World} {R : Ending → World → Prop} {K : Fr → World → Prop} (hi : ops[i]? = some o) (hd : o.dst = some d) (hn : Nat.blt d n = true) (hw : Want ops σ o true)
    (hr : (execOp (ev σ) o).run P w = .ok (.enter f args) w') (hc : Calls P f args w' R)
    (k : ∀ e w'', R e w'' → ∃ v, e = .returned v ∧ S w'' ∧ K (upd σ d v) w'') : One P n ops S Q i K σ w := by
  refine ⟨fun a ha => ?_⟩
  unfold wpOp
  simp only [hi, hw.wanted ha, if_true]
  refine .inl ?_
  simp only [Oper.wp, ha.eval, hr, Oper.upon, hd]
  refine hc.mono fun e w'' h => ?_
  obtain ⟨v, rfl, hS, hK⟩ := k e w'' h
  exact ⟨hS, _, ha.put (d := d) (by simpa using hn) v, hK⟩
end
end Go.Fx
set_option linter.unusedSimpArgs false
set_option linter.unusedVariables false
set_option linter.unusedSectionVars false
namespace Go.Fx
open Go
section
variable {ro : Option Nat} {P : Program} {n : Nat} {Q : QT} {σ : Fr} {w : World} {ops : Array Oper} {rest : List Oper}
/-- A number that an int holds. -/
def I64 (n : Int) : Prop := -9223372036854775808 ≤ n ∧ n ≤ 9223372036854775807
theorem wrap_id {n : Int} (h : I64 n) : IntKind.i64.wrap n = n := by
  obtain ⟨h1, h2⟩ := h
  simp only [IntKind.wrap, IntKind.bits, IntKind.signed, Bool.true_and]
  simp only [Nat.reduceSub, Int.reducePow, ge_iff_le, decide_eq_true_eq]
  split <;> omega
variable {ρ : Operand → Value} {o : Oper} {x y : Operand} {t yt : TypeId} {a b : Int}
theorem x_add (ho : o.op = .binOp .add t x y yt) (hx : ρ x = int a) (hy : ρ y = int b) (h : I64 (a + b)) : (execOp ρ o).run P w = .ok (.value (int (a + b))) w := by
  unfold execOp
  simp only [ho, hx, hy, eqGuard, binOp, Op.intArith, Sem.run_bind, Sem.run_pure, Result.andThen_ok, if_true]
  simp [wrap_id h]
theorem x_sub (ho : o.op = .binOp .sub t x y yt) (hx : ρ x = int a) (hy : ρ y = int b) (h : I64 (a - b)) : (execOp ρ o).run P w = .ok (.value (int (a - b))) w := by
  unfold execOp
  simp only [ho, hx, hy, eqGuard, binOp, Op.intArith, Sem.run_bind, Sem.run_pure, Result.andThen_ok, if_true]
  simp [wrap_id h]
theorem x_rem (ho : o.op = .binOp .rem t x y yt) (hx : ρ x = int a) (hy : ρ y = int b) (h : b ≠ 0) : (execOp ρ o).run P w = .ok (.value (int (a.tmod b))) w := by
  unfold execOp
  simp only [ho, hx, hy, eqGuard, binOp, Op.intDiv, Sem.run_bind, Sem.run_pure, Result.andThen_ok, if_true]
  simp [h]
theorem x_quo (ho : o.op = .binOp .quo t x y yt) (hx : ρ x = int a) (hy : ρ y = int b) (h : b ≠ 0) (hi : I64 (a.tdiv b)) : (execOp ρ o).run P w = .ok (.value (int (a.tdiv b))) w := by
  unfold execOp
  simp only [ho, hx, hy, eqGuard, binOp, Op.intDiv, Sem.run_bind, Sem.run_pure, Result.andThen_ok, if_true]
  simp [h, wrap_id hi]
/-- A choice whose test is decided. -/
theorem x_pick {c : Operand} {p : Bool} {v : Value} (ho : o.op = .pick c x y) (hc : ρ c = .bool p) (hv : (if p = true then ρ x else ρ y) = v) : (execOp ρ o).run P w = .ok (.value v) w := by
  unfold execOp
  simp [ho, hc, asBool, hv]
end
section
variable {α : Type} {t : Ty α} {R : Hp} {v : Value} {xs : List α}
theorem seg_seg (cs : Array Value) (off n i k : Nat) (h : i + k ≤ n) : ((seg cs off n).drop i).take k = seg cs (off + i) k := by
  simp only [seg, List.drop_take, List.drop_drop, List.take_take]
  congr 1
  omega
/-- The row of a slice that has elements. -/
theorem RdS.open (h : RdS t R v xs) (hne : 0 < xs.length) : ∃ b off cap cs T fz, v = .slice (some ⟨b, off, none⟩) xs.length cap ∧ xs.length ≤ cap ∧ R b = some (.cells cs T fz) ∧ Encs t R xs (seg cs off (xs.length * t.sz)) := by
  obtain ⟨a, cap, e, hc, h⟩ := h
  obtain ⟨b, off, cs, T, fz, ha, hb, he⟩ := h (fun e => by rw [e] at hne; simp at hne)
  exact ⟨b, off, cap, cs, T, fz, by rw [e, ha], hc, hb, he⟩
theorem RdS.shape (h : RdS t R v xs) : ∃ a cap, v = .slice a xs.length cap ∧ xs.length ≤ cap := by
  obtain ⟨a, cap, e, hc, _⟩ := h
  exact ⟨a, cap, e, hc⟩
theorem Encs.at {cs : Array Value} {off : Nat} (h : Encs t R xs (seg cs off (xs.length * t.sz))) (i : Nat) (hi : i < xs.length) : ∃ c, seg cs (off + i * t.sz) t.sz = c ∧ t.rel R xs[i] c := by
  have := h.get i hi
  rw [seg_seg] at this
  · exact ⟨_, rfl, this⟩
  · have : (i + 1) * t.sz ≤ xs.length * t.sz := Nat.mul_le_mul_right _ hi
    rw [Nat.add_mul, Nat.one_mul] at this
    exact this
variable {P : Program} {w : World} {ρ : Operand → Value} {o : Oper} {x ix : Operand} {T e : TypeId} {agg : Bool} {sz bytes : Nat} {z : Value}
theorem x_indexAddr' {b off len cap k : Nat} (ho : o.op = .indexAddr T x ix) (hu : SL P T e) (h : TI P e agg sz bytes z)
    (hx : ρ x = .slice (some ⟨b, off, none⟩) len cap) (hi : ρ ix = int (k : Int)) (h1 : k < len) :
    (execOp ρ o).run P w = .ok (.value (ptr b (off + k * sz))) w := by
  have := x_indexAddr (w := w) ho hu h hx hi (by omega) (by omega)
  simpa using this
end
section
variable {κ β : Type} [DecidableEq κ]
/-- bo is a map that holds m, in the piece c; nil, and m holds nothing. -/
def MapC (kenc : κ → Value) (vr : β → Value → Prop) (bo : Option Nat) (m : List (κ × β)) (c : Hp) : Prop :=
  (bo = none ∧ m = [] ∧ c = non) ∨ ∃ b es k, bo = some b ∧ c = one b (.map es k) ∧ MapIs kenc vr es.toList m ∧ Born es.toList k
theorem MapC.imp {kenc : κ → Value} {vr vr' : β → Value → Prop} {bo : Option Nat} {m : List (κ × β)} {c : Hp} (h : MapC kenc vr bo m c) (hi : ∀ x v, vr x v → vr' x v) : MapC kenc vr' bo m c := by
  rcases h with ⟨h1, h2, h3⟩ | ⟨b, es, k, h1, h2, h3, h4⟩
  · exact .inl ⟨h1, h2, h3⟩
  · exact .inr ⟨b, es, k, h1, h2, h3.imp hi, h4⟩
variable {P : Program} {w w0 : World} {R0 R : Hp} {L0 Lr : List Hp} {kT eT T : TypeId} {kenc : κ → Value} {vr : β → Value → Prop} {bo : Option Nat} {m : List (κ × β)} {c : Hp} {agg : Bool} {sz bytes : Nat} {z : Value}
theorem MapC.lookup (h : MapC kenc vr bo m c) (hc : Le c (hp w)) (K : KeyLaw (β := β) P kT kenc) (hT : P.underlying T = some (.map kT eT)) (he : TI P eT agg sz bytes z) (k : κ) (ok : Bool) :
    ∃ v f, (Instr.lookup T (.map bo) (kenc k) ok).run P w = .ok (if ok then .tuple #[v, .bool f] else v) w ∧
      ((∃ x, AL.get m k = some x ∧ vr x v ∧ f = true) ∨ (AL.get m k = none ∧ v = z ∧ f = false)) := by
  rcases h with ⟨rfl, rfl, rfl⟩ | ⟨b, es, ck, rfl, rfl, h3, _⟩
  · exact ⟨z, false, run_lookup_nil K hT he k ok, .inr ⟨rfl, rfl, rfl⟩⟩
  · exact run_lookup K hT he (hc b _ (one_self _ _)) h3 k ok
/-- A look-up, the element told as a datum. -/
theorem MapC.lookupD (h : MapC kenc vr bo m c) (hc : Le c (hp w)) (K : KeyLaw (β := β) P kT kenc) (hT : P.underlying T = some (.map kT eT)) (he : TI P eT agg sz bytes z) (k : κ) (ok : Bool) (d : β) (hd : vr d z) :
    ∃ v, (Instr.lookup T (.map bo) (kenc k) ok).run P w = .ok (if ok then .tuple #[v, .bool (AL.get m k).isSome] else v) w ∧ vr ((AL.get m k).getD d) v := by
  obtain ⟨v, f, hr, h1⟩ := h.lookup hc K hT he k ok
  rcases h1 with ⟨x, hx, hv, rfl⟩ | ⟨hx, rfl, rfl⟩
  · exact ⟨v, by rw [hr, hx]; rfl, by rw [hx]; exact hv⟩
  · exact ⟨v, by rw [hr, hx]; rfl, by rw [hx]; exact hd⟩
theorem MapC.entry {b : Nat} (h : MapC kenc vr (some b) m c) (hst : Step w0 R0 L0 w R (c :: Lr)) (K : KeyLaw (β := β) P kT kenc) (hT : P.underlying T = some (.map kT eT)) (he : TI P eT agg sz bytes z) (k : κ) :
    ∃ v0 st ob w', (Instr.mapEntry T (.map (some b)) (kenc k)).run P w = .ok (.tuple #[v0, int st]) w' ∧ Step w0 R0 L0 w' R (one b ob :: Lr) ∧
      (∀ (w' : World) (R : Hp) (Lr : List Hp) x v, Step w0 R0 L0 w' R (one b ob :: Lr) → vr x v →
        ∃ c' w'', (Instr.entryStore T (.map (some b)) (int st) v).run P w' = .ok () w'' ∧ MapC kenc vr (some b) (AL.set m k x) c' ∧ Step w0 R0 L0 w'' R (c' :: Lr)) ∧
      (AL.get m k ≠ none → MapC kenc vr (some b) m (one b ob)) := by
  rcases h with ⟨h1, _, _⟩ | ⟨b', es, ck, h1, rfl, h3, h4⟩
  · cases h1
  · cases h1
    obtain ⟨v0, st, es1, c1, hr, hk, hsame⟩ := run_mapEntry (w := w) K hT he (hst.blk (i := 0) rfl) h3 h4 k
    refine ⟨v0, st, _, _, hr, hst.set0 _, fun w' R Lr x v hst' hv => ?_, fun hn => by obtain ⟨rfl, rfl⟩ := hsame hn; exact .inr ⟨b, es1, c1, rfl, rfl, h3, h4⟩⟩
    obtain ⟨es2, hr2, hm, hB⟩ := hk w' x v (hst'.blk (i := 0) rfl) hv
    exact ⟨_, _, hr2, .inr ⟨b, es2, c1, rfl, rfl, hm, hB⟩, hst'.set0 _⟩
theorem MapC.update {b : Nat} (h : MapC kenc vr (some b) m c) (hst : Step w0 R0 L0 w R (c :: Lr)) (K : KeyLaw (β := β) P kT kenc) (hT : P.underlying T = some (.map kT eT)) (k : κ) (x : β) (v : Value) (hv : vr x v) :
    ∃ c' w', (Instr.mapUpdate T (.map (some b)) (kenc k) v).run P w = .ok () w' ∧ MapC kenc vr (some b) (AL.set m k x) c' ∧ Step w0 R0 L0 w' R (c' :: Lr) := by
  rcases h with ⟨h1, _, _⟩ | ⟨b', es, ck, h1, rfl, h3, h4⟩
  · cases h1
  · cases h1
    obtain ⟨es', c', hr, hm, hB⟩ := run_mapUpdate (w := w) K hT (hst.blk (i := 0) rfl) h3 h4 k x v hv
    exact ⟨_, _, hr, .inr ⟨b, es', c', rfl, rfl, hm, hB⟩, hst.set0 _⟩
theorem MapC.made (b : Nat) : MapC kenc vr (some b) ([] : List (κ × β)) (one b (.map #[] 0)) := .inr ⟨b, #[], 0, rfl, rfl, .nil, Born.empty⟩
variable {ρ : Operand → Value} {o : Oper} {x y u : Operand} {v : Value}
theorem x_lookup {kv : Value} {ok : Bool} (ho : o.op = .lookup T x y ok) (hx : ρ x = .map bo) (hy : ρ y = kv) (h : (Instr.lookup T (.map bo) kv ok).run P w = .ok v w) :
    (execOp ρ o).run P w = .ok (.value v) w := by
  unfold execOp
  simp [ho, hx, hy, h]
theorem x_mapUpdate {kv vv : Value} {w' : World} (ho : o.op = .mapUpdate T x y u) (hx : ρ x = .map bo) (hy : ρ y = kv) (hu : ρ u = vv) (h : (Instr.mapUpdate T (.map bo) kv vv).run P w = .ok () w') :
    (execOp ρ o).run P w = .ok .skip w' := by
  unfold execOp
  simp [ho, hx, hy, hu, h]
end
end Go.Fx
set_option linter.unusedSimpArgs false
set_option linter.unusedVariables false
set_option linter.unusedSectionVars false
namespace Go.Fx
open Go
section
variable {w0 w : World} {R0 R : Hp} {L0 Lc : List Hp}
theorem Step.keepN (h : Step w0 R0 L0 w R Lc) (k : Nat) {L' : List Hp} (e : Lc.take k = L') : Step w0 R0 L0 w R L' := by
  subst e
  have hs := h.sats
  have hm : ∀ c, c ∈ Lc.take k → c ∈ Lc := fun c hc => List.mem_of_mem_take hc
  exact ⟨⟨hs.r, fun c hc => hs.l c (hm c hc), hs.dj.sublist (List.take_sublist k Lc), fun c hc => hs.rd c (hm c hc)⟩, h.rle, h.os, h.tape, h.output, h.size, h.keep, h.newR, fun c hc => h.newL c (hm c hc)⟩
theorem Step.trans {w1 w2 : World} {R1 R2 : Hp} {L1 L2 : List Hp} (h : Step w0 R0 L0 w1 R1 L1) (k : Step w1 R1 L1 w2 R2 L2) : Step w0 R0 L0 w2 R2 L2 := by
  have := Step.call (La := L1) (Lb := []) (by simpa using h) k
  simpa using this
theorem Step.start (h : Step w0 R0 L0 w R Lc) : Step w R Lc w R Lc := Step.refl h.sats
variable {ro : Option Nat} {P : Program} {n : Nat} {Q : QT} {σ : Fr} {ops : Array Oper} {rest : List Oper} {o : Oper} {d : Nat}
/-- A new block. -/
theorem L_new (hst : Step w0 R0 L0 w R Lc) {ob : Obj} {v : Nat → Value} (hg : o.guard = none) (hd : o.dst = some d) (hn : Nat.blt d n = true)
    (hr : (execOp (ev σ) o).run P w = .ok (.value (v w.heap.size)) (push w ob)) (k : ∀ b w', Step w0 R0 L0 w' R (one b ob :: Lc) → L ro P n ops rest Q (upd σ d (v b)) w') : L ro P n ops (o :: rest) Q σ w :=
  L_val hg hd hn hr (k _ _ (hst.push ob))
/-- A store into a block of one's own. -/
theorem run_store1 (hst : Step w0 R0 L0 w R Lc) {t : TypeId} {agg : Bool} {sz bytes : Nat} {z v : Value} {x y : Operand} {b off : Nat} {cs cs' : Array Value} {T : TypeId} (i : Nat) {L' : List Hp} (ti : TI P t agg sz bytes z)
    (hi : Lc[i]? = some (one b (.cells cs T (0, 0)))) (ho : o.op = .store t x y) (hx : ev σ x = ptr b off) (hy : ev σ y = v) (hs : v.cells.size = sz) (h1 : v.cells.toList.all (·.oneCell') = true) (hf : Nat.ble (off + sz) cs.size = true)
    (hc : put cs off v.cells.toList = cs') (hL : Lc.set i (one b (.cells cs' T (0, 0))) = L') : ∃ w', (execOp (ev σ) o).run P w = .ok .skip w' ∧ Step w0 R0 L0 w' R L' := by
  subst hc
  have hr := run_storeVar (P := P) ti (hst.blk hi) hs h1 (Nat.le_of_ble_eq_true hf)
  exact ⟨_, x_store ho hx hy hr, hst.set hi _ hL⟩
theorem L_store (hst : Step w0 R0 L0 w R Lc) {t : TypeId} {agg : Bool} {sz bytes : Nat} {z v : Value} {x y : Operand} {b off : Nat} {cs cs' : Array Value} {T : TypeId} (i : Nat) {L' : List Hp} (ti : TI P t agg sz bytes z)
    (hg : o.guard = none) (hd : o.dst = none) (hi : Lc[i]? = some (one b (.cells cs T (0, 0)))) (ho : o.op = .store t x y) (hx : ev σ x = ptr b off) (hy : ev σ y = v) (hs : v.cells.size = sz) (h1 : v.cells.toList.all (·.oneCell') = true) (hf : Nat.ble (off + sz) cs.size = true)
    (hc : put cs off v.cells.toList = cs') (hL : Lc.set i (one b (.cells cs' T (0, 0))) = L') (k : ∀ w', Step w0 R0 L0 w' R L' → L ro P n ops rest Q σ w') : L ro P n ops (o :: rest) Q σ w := by
  obtain ⟨w', hr, hs'⟩ := run_store1 (P := P) hst i ti hi ho hx hy hs h1 hf hc hL
  exact L_skip hg hd hr (k _ hs')
/-- A call that leaves all that was there as it was, and gives v. -/
theorem L_callG (hst : Step w0 R0 L0 w R Lc) {f : FuncId} {args : Array Value} {v : Value} (hg : o.guard = none) (hd : o.dst = some d) (hn : Nat.blt d n = true)
    (hr : (execOp (ev σ) o).run P w = .ok (.enter f args) w) (hc : Calls P f args w fun e w' => e = .returned v ∧ Grow w w') (k : ∀ w', Step w0 R0 L0 w' R Lc → L ro P n ops rest Q (upd σ d v) w') :
    L ro P n ops (o :: rest) Q σ w :=
  L_call hg hd hn hr hc fun e w' ⟨he, hw⟩ => ⟨v, he, k w' (hst.grown hw)⟩
/-- What a call comes to: a value, read-only memory, pieces of its own. -/
def Comes' (w : World) (R : Hp) (La : List Hp) (post : Value → Hp → List Hp → Prop) : Ending → World → Prop :=
  fun e w' => ∃ v R' L', e = .returned v ∧ Step w R La w' R' L' ∧ post v R' L'
theorem L_callS (La Lb : List Hp) (hst : Step w0 R0 L0 w R (La ++ Lb)) {f : FuncId} {args : Array Value} {post : Value → Hp → List Hp → Prop} (hg : o.guard = none) (hd : o.dst = some d) (hn : Nat.blt d n = true)
    (hr : (execOp (ev σ) o).run P w = .ok (.enter f args) w) (hc : Calls P f args w (Comes' w R La post))
    (k : ∀ v w' R' L', post v R' L' → Le R R' → Step w0 R0 L0 w' R' (L' ++ Lb) → L ro P n ops rest Q (upd σ d v) w') : L ro P n ops (o :: rest) Q σ w :=
  L_call hg hd hn hr hc fun e w' ⟨v, R', L', he, hs, hp⟩ => ⟨v, he, k v w' R' L' hp hs.rle (hst.call hs)⟩
/-- append. -/
theorem L_append (hst : Step w0 R0 L0 w R Lc) {α : Type} {ty : Ty α} {t e : TypeId} {bytes : Nat} {z v : Value} {agg : Bool} {x y : Operand} {a : Addr} {m cap2 : Nat} {xs ys : List α} {src : List Value} {c : Hp} {L' : List Hp} (i : Nat)
    (hg : o.guard = none) (hd : o.dst = some d) (hn : Nat.blt d n = true) (ho : o.op = .call { callee := .builtin .append, args := #[x, y], argTypes := #[t, t] }) (hx : ev σ x = v) (hy : ev σ y = .slice (some a) m cap2)
    (hu : SL P t e) (he : TI P e agg ty.sz bytes z) (hz : z.cells.size = ty.sz) (hi : Lc[i]? = some c) (hL : Lc.eraseIdx i = L') (how : OwnL ty e R v xs c) (hsrc : ∀ j u, src[j]? = some u → w.cell? (a.add j) = some u) (hsr : Encs ty R ys src)
    (hm : ys.length = m) (hroom : (xs.length + m) * bytes ≤ 2 ^ 47) (hmax : xs.length + m ≤ maxLen)
    (k : ∀ v' c' w', OwnL ty e R v' (xs ++ ys) c' → Step w0 R0 L0 w' R (c' :: L') → L ro P n ops rest Q (upd σ d v') w') : L ro P n ops (o :: rest) Q σ w := by
  obtain ⟨cells, h1, h2⟩ := how
  subst hm
  obtain ⟨v', c', w', hr, ho', hst'⟩ := run_append (ty := o.type) (cap2 := cap2) hu he hz h1 (hst.front i hi hL) hsr.len hsrc hsr.ones hroom hmax
  exact L_val hg hd hn (x_append ho hx hy hr) (k v' c' w' ⟨cells ++ src, by simpa using ho', h2.append hsr⟩ hst')
/-- What is read of a slice literal that lies in a block of one's own. -/
theorem src_own {b : Nat} {cs : List Value} {T : TypeId} (h : w.heap[b]? = some (.cells cs.toArray T (0, 0))) : ∀ j u, cs[j]? = some u → w.cell? ((⟨b, 0, none⟩ : Addr).add j) = some u := by
  intro j u hj
  rw [add_zero_spot, cell_at h]
  simpa using hj
end
end Go.Fx
set_option linter.unusedSimpArgs false
set_option linter.unusedVariables false
set_option linter.unusedSectionVars false
namespace Go.Fx
open Go
theorem x_add_nat {P : Program} {w : World} {ρ : Operand → Value} {o : Oper} {x y : Operand} {t yt : TypeId} {a b : Nat} (ho : o.op = .binOp .add t x y yt) (hx : ρ x = int (a : Int)) (hy : ρ y = int (b : Int)) (h : a + b ≤ 9223372036854775807) :
    (execOp ρ o).run P w = .ok (.value (int ((a + b : Nat) : Int))) w := by
  have := x_add (P := P) (w := w) ho hx hy (by constructor <;> omega)
  rw [this]
  rfl
theorem seg_get {cs : Array Value} {off n j : Nat} {l : List Value} {u : Value} (h : seg cs off n = l) (hj : l[j]? = some u) : cs[off + j]? = some u := by
  subst h
  have hlt : j < n := by
    have := (List.getElem?_eq_some_iff.1 hj).1
    simp [seg] at this
    omega
  simp only [seg, List.getElem?_take, hlt, if_true, List.getElem?_drop] at hj
  simpa using hj
theorem Want.of {ops : Array Oper} {σ : Fr} {o : Oper} {j d : Nat} {want b y : Bool} {oj : Oper} (h : o.guard = some (j, want)) (hj : ops[j]? = some oj) (hd : oj.dst = some d) (hb : at_ σ d = .bool b) (hy : (b == want) = y) : Want ops σ o y := by
  subst hy
  exact Want.grd h hj hd hb
section
variable {w0 w : World} {R0 R : Hp} {L0 Lc : List Hp}
theorem Step.keepB {B : Hp} (h : Step w0 R0 L0 w R Lc) (hB : Le B (hp w0)) (hd : ∀ c ∈ L0, Dj B c) : Le B (hp w) := fun b o e => by
  have h0 := hB b o e
  rw [h.keep b (hp_lt (by rw [h0]; simp)) (fun c hc => ?_)]
  · exact h0
  · rcases hd c hc b with e' | e'
    · rw [e] at e'; cases e'
    · exact e'
theorem Step.nothing (h : Step w0 R0 L0 w R Lc) : Step w0 R0 L0 w R (non :: Lc) := by
  have hs := h.sats
  have hn : ∀ A : Hp, Dj A non := fun A b => .inr rfl
  refine ⟨⟨hs.r, ?_, List.pairwise_cons.2 ⟨fun d _ => (hn d).symm, hs.dj⟩, ?_⟩, h.rle, h.os, h.tape, h.output, h.size, h.keep, h.newR, ?_⟩
  · intro d hd
    rcases List.mem_cons.1 hd with rfl | hd
    · exact Le.non _
    · exact hs.l d hd
  · intro d hd
    rcases List.mem_cons.1 hd with rfl | hd
    · exact hn _
    · exact hs.rd d hd
  · intro d hd b hb
    rcases List.mem_cons.1 hd with rfl | hd
    · exact absurd rfl hb
    · exact h.newL d hd b hb
theorem Sats.take (h : Sats w R Lc) (k : Nat) {L' : List Hp} (e : Lc.take k = L') : Sats w R L' := (Step.keepN (Step.refl h) k e).sats
theorem Step.ro (h : Le R (hp w)) : Step w R [] w R [] := Step.refl ⟨h, by simp, by simp, by simp⟩
end
section
variable {κ β : Type} [DecidableEq κ] {P : Program} {w : World} {kT eT T : TypeId} {kenc : κ → Value} {venc : β → Value} {bo : Option Nat} {m : List (κ × β)} {c : Hp} {agg : Bool} {sz bytes : Nat} {z : Value}
/-- An element that a function tells. -/
def vE (venc : β → Value) : β → Value → Prop := fun x v => v = venc x
/-- A look-up whose element is told by a function. -/
theorem MapC.lookupP (h : MapC kenc (vE venc) bo m c) (hc : Le c (hp w)) (K : KeyLaw (β := β) P kT kenc) (hT : P.underlying T = some (.map kT eT)) (he : TI P eT agg sz bytes z) (k : κ) (ok : Bool) (d : β) (hd : z = venc d) :
    (Instr.lookup T (.map bo) (kenc k) ok).run P w = .ok (if ok then .tuple #[venc ((AL.get m k).getD d), .bool (AL.get m k).isSome] else venc ((AL.get m k).getD d)) w := by
  obtain ⟨v, hr, hv⟩ := h.lookupD hc K hT he k ok d hd
  have hv' : v = venc ((AL.get m k).getD d) := hv
  rw [hr, hv']
end
theorem ret_int {a b : Int} (h : a = b) : Ending.returned (retV [.int .i64 a]) = .returned (int b) := by rw [h]; rfl
theorem ret_bool {a b : Bool} (h : a = b) : Ending.returned (retV [.bool a]) = .returned (.bool b) := by rw [h]; rfl
end Go.Fx
set_option linter.unusedSimpArgs false
set_option linter.unusedVariables false
set_option linter.unusedSectionVars false
namespace Go.Fx
open Go
/-- A call of the yield of loop l. -/
def RoundC (P : Program) (l : Nat) (args : Array Value) (w : World) (R : Ending → World → Prop) : Prop :=
  ∃ fn tmps assign body, (Instr.yield l args).run P w = .ok (.round l fn tmps assign body) w ∧ RoundIn (rof none) 0 P l fn tmps assign body w R
theorem RoundC.mono {P : Program} {l : Nat} {args : Array Value} {w : World} {R R' : Ending → World → Prop} (h : RoundC P l args w R) (hr : ∀ e w', R e w' → R' e w') : RoundC P l args w R' := by
  obtain ⟨fn, tmps, assign, body, h1, h2⟩ := h
  exact ⟨fn, tmps, assign, body, h1, h2.mono hr⟩
theorem x_yield {P : Program} {w : World} {ρ : Operand → Value} {o : Oper} {l : Nat} {x : Operand} {xs : Array Operand} {ts : Array TypeId} {vs : Array Value}
    (ho : o.op = .call { callee := .value x, args := xs, argTypes := ts }) (hf : ρ x = .func (.yield l) #[] #[]) (hx : xs.map ρ = vs) :
    (execOp ρ o).run P w = (Instr.yield l vs).run P w := by
  unfold execOp
  subst hx
  simp only [ho, resolve, hf, Sem.run_bind, Deferred.ofValue, Sem.run_pure, Result.andThen_ok, invoke]
  simp
section
variable {ro : Option Nat} {P : Program} {n : Nat} {Q : QT} {σ : Fr} {w w0 : World} {ops : Array Oper} {rest : List Oper} {R0 R : Hp} {L0 Lc : List Hp}
theorem L_yield {o : Oper} {d l : Nat} {args : Array Value} {R : Ending → World → Prop} (hg : o.guard = none) (hd : o.dst = some d) (hn : Nat.blt d n = true)
    (hr : (execOp (ev σ) o).run P w = (Instr.yield l args).run P w) (hc : RoundC P l args w R)
    (k : ∀ e w'', R e w'' → ∃ v, e = .returned v ∧ L ro P n ops rest Q (upd σ d v) w'') : L ro P n ops (o :: rest) Q σ w := by
  obtain ⟨fn, tmps, assign, body, hy, hR⟩ := hc
  refine ⟨fun a ha => ?_⟩
  unfold wpListIn
  rw [if_pos (by simp [Region.wanted, hg])]
  refine ⟨fun _ _ => trivial, ?_⟩
  have hr2 : (o.semAt ro (ev σ)).run P w = .ok (.round l fn tmps assign body) w := sem_of (hr.trans hy) (by simp)
  rw [ha.eval, hr2, Oper.uponIn_round, hd]
  refine ⟨(fun h => by cases h), ?_⟩
  have hR2 : RoundIn (rof ro) 0 P l fn tmps assign body w R := hR
  refine hR2.mono fun e w'' h => ?_
  obtain ⟨v, rfl, hL⟩ := k e w'' h
  exact hL.run _ (ha.put (by simpa using hn) v)
/-- What one round does to the pieces of the loop's owner. -/
def YieldS (P : Program) (l : Nat) (args : Array Value) (w : World) (R : Hp) (Lb : List Hp) (post : Bool → Hp → List Hp → Prop) : Prop :=
  RoundC P l args w fun e w' => ∃ b R' L', e = .returned (.bool b) ∧ Step w R Lb w' R' L' ∧ post b R' L'
/-- yield, called by an iterator that owns Lb; La is the loop's. -/
theorem L_yieldS (La Lb : List Hp) (hst : Step w0 R0 L0 w R (La ++ Lb)) {o : Oper} {d l : Nat} {args : Array Value} {post : Bool → Hp → List Hp → Prop} (hg : o.guard = none) (hd : o.dst = some d) (hn : Nat.blt d n = true)
    (hr : (execOp (ev σ) o).run P w = (Instr.yield l args).run P w) (hc : YieldS P l args w R La post)
    (k : ∀ b w' R' L', post b R' L' → Le R R' → Step w0 R0 L0 w' R' (L' ++ Lb) → L ro P n ops rest Q (upd σ d (.bool b)) w') : L ro P n ops (o :: rest) Q σ w :=
  L_yield hg hd hn hr hc fun e w' ⟨b, R', L', he, hs, hp⟩ => ⟨_, he, k b w' R' L' hp hs.rle (hst.call hs)⟩
end
/-- What the value '.func (.func g) #[] lb' is as an iterator: it gives the elements xs of some list that S lets in, one by one; or a part that Sp lets in, and then a round has said no. It owns Lit. -/
def Gives {α : Type} (P : Program) (g : Nat) (lb : Array Value) (N : Nat) (S Sp : List α → Prop) (enc : α → Array Value) (R : Hp) (Lit : List Hp) (post : Hp → List Hp → Prop) : Prop :=
  ∀ (l : Nat) (J Jx : List α → Hp → List Hp → Prop) (w : World) (Lb : List Hp), Sats w R (Lit ++ Lb) → (∀ pre R1 R2 L1, Le R1 R2 → J pre R1 L1 → J pre R2 L1) → (∀ pre R1 R2 L1, Le R1 R2 → Jx pre R1 L1 → Jx pre R2 L1) →
    (∀ pre x w1 R1 L1, J pre R1 L1 → Le R R1 → Sats w1 R1 L1 → pre.length < N → YieldS P l (enc x) w1 R1 L1 fun b R' L' => if b = true then J (pre ++ [x]) R' L' else Jx (pre ++ [x]) R' L') →
    J [] R Lb →
    Calls P g (#[.func (.yield l) #[] #[]] ++ lb) w fun e w' => (∃ v, e = .returned v) ∧ ∃ R' Lit' Lb', Step w R (Lit ++ Lb) w' R' (Lit' ++ Lb') ∧ post R' Lit' ∧
      ((∃ xs, S xs ∧ J xs R' Lb') ∨ (∃ pre, Sp pre ∧ Jx pre R' Lb'))
/-- A frame with one mark more. -/
def pushM (D : Nat) : Value → Value
  | .tuple vs => .tuple (#[.int .i64 (D : Int)] ++ vs)
  | _ => .tuple #[.int .i64 (D : Int)]
theorem mks_push (D : Nat) (v : Value) : mks (pushM D v) = D :: mks v := by
  cases v <;> simp [pushM, mks]
def mark (D : Nat) (σ : Fr) : Fr
  | 0 => pushM D (σ 0)
  | i + 1 => σ (i + 1)
/-- A frame without marks. -/
def clr (σ : Fr) : Fr
  | 0 => undef
  | i + 1 => σ (i + 1)
theorem Rel.mark {n : Nat} {a : Act} {σ : Fr} (h : Rel n a σ) (D : Nat) : Rel n { a with defers := [{ target := .collected D, args := #[] }] ++ a.defers } (mark D σ) :=
  ⟨h.size, by show _ = (mks (pushM D (σ 0))).map mkD; rw [mks_push, h.defers]; rfl, fun i => h.get i⟩
theorem Rel.clr {n : Nat} {a : Act} {σ : Fr} (h : Rel n a σ) : Rel n { tmps := a.tmps, defers := [] } (clr σ) := ⟨h.size, rfl, fun i => h.get i⟩
/-- The frame in which a round begins. -/
def setp (σ : Fr) : List Nat → List Value → Fr
  | p :: ps, v :: vs => setp (upd σ p v) ps vs
  | _, _ => σ
theorem rel_setp {n : Nat} : ∀ (ps : List Nat) (vs : List Value) (a : Act) (σ : Fr), (ps.all fun p => Nat.blt p n) = true → Rel n a σ →
    Rel n { tmps := (ps.zip vs).foldl (fun t (p, v) => t.setIfInBounds p v) a.tmps, defers := a.defers } (setp σ ps vs)
  | [], _, a, σ, _, h => h
  | _ :: _, [], a, σ, _, h => h
  | p :: ps, v :: vs, a, σ, hp, h => by
    simp only [List.all_cons, Bool.and_eq_true] at hp
    have := rel_setp ps vs _ _ hp.2 (h.put (d := p) (by simpa using hp.1) v)
    exact this
/-- How a round may end. -/
def roundQ {α : Type} (w : World) (R : Hp) (Lc : List Hp) (J : List α → Hp → List Hp → Prop) (Jx : Code → List α → Hp → List Hp → Prop) (xs : List α) : QT
  | .normal, _, w' => ∃ R' L', Step w R Lc w' R' L' ∧ J xs R' L'
  | .ret, _, w' => ∃ R' L', Step w R Lc w' R' L' ∧ Jx .ret xs R' L'
  | .exit id, _, w' => ∃ R' L', Step w R Lc w' R' L' ∧ Jx (.exit id) xs R' L'
  | _, _, _ => False
section
variable {P : Program} {n : Nat} {Q : QT} {σ : Fr} {w w0 : World} {R0 R : Hp} {L0 Lc : List Hp}
theorem Step.toEnd {x y : Hp} {Lr : List Hp} (h : Step w0 R0 L0 w R (x :: y :: Lr)) : Step w0 R0 L0 w R (Lr ++ [x, y]) := h.perm (by simpa using (List.perm_append_comm (l₁ := [x, y]) (l₂ := Lr)))
theorem Step.fromEnd {x y : Hp} {Lr : List Hp} (h : Step w0 R0 L0 w R (Lr ++ [x, y])) : Step w0 R0 L0 w R (x :: y :: Lr) := h.perm (by simpa using (List.perm_append_comm (l₁ := Lr) (l₂ := [x, y])))
theorem Sats.tail2 {x y : Hp} {Lr : List Hp} (h : Sats w R (x :: y :: Lr)) : Sats w R Lr := ((Step.refl h).drop.drop).sats
theorem W_rangeFunc {α : Type} {g : Operand} {ps : Array Nat} {assign body : Code} {gf : Nat} {lb : Array Value} {N : Nat} {S Sp : List α → Prop} {enc : α → Array Value} {Lit Lb : List Hp} {post : Hp → List Hp → Prop}
    (hg : ev σ g = .func (.func gf) #[] lb) (eg : Ent P gf) (hst : Step w0 R0 L0 w R (Lit ++ Lb)) (hgives : Gives P gf lb N S Sp enc R Lit post)
    (J : List α → Hp → List Hp → Prop) (Jx : Code → List α → Hp → List Hp → Prop) (hJ : ∀ pre R1 R2 L1, Le R1 R2 → J pre R1 L1 → J pre R2 L1) (hJx : ∀ c pre R1 R2 L1, Le R1 R2 → Jx c pre R1 L1 → Jx c pre R2 L1)
    (h0 : J [] R Lb) (hps : (ps.toList.all fun p => Nat.blt p n) = true) (hsz : ∀ x, (enc x).size = ps.size)
    (hround : ∀ l pre x w1 R1 L1, J pre R1 L1 → Le R R1 → pre.length < N →
      W (some l) P n assign (thenQ (fun τ w2 => w2 = w1 ∧ ∀ w3, Sats w3 R1 L1 → W (some l) P n body (roundQ w3 R1 L1 J Jx (pre ++ [x])) τ w3) (fun _ _ _ => False)) (setp (clr σ) ps.toList (enc x).toList) w1)
    (hdone : ∀ D xs w' R' Lit' Lb', S xs → J xs R' Lb' → post R' Lit' → Le R R' → Step w0 R0 L0 w' R' (one D (.deferred (some [])) :: (Lit' ++ Lb')) → Q .normal (mark D σ) w')
    (hstop : ∀ D c pre w' R' Lit' Lb', Sp pre → Jx c pre R' Lb' → post R' Lit' → Le R R' → Step w0 R0 L0 w' R' (one D (.deferred (some [])) :: (Lit' ++ Lb')) → W none P n c Q (mark D σ) w') :
    W none P n (.rangeFunc g ps assign body) Q σ w := by
  refine ⟨fun a ha => wpIn_rangeFunc fun fn _ => ?_⟩
  obtain ⟨rec, hrec⟩ : ∃ rec : LoopState → Option Code → Loop, rec = fun st pe => { state := st, pending := pe, fn, tmps := a.tmps, params := ps, assign, body, defers := w.heap.size } := ⟨_, rfl⟩
  obtain ⟨W1, hW1⟩ : ∃ W1, (w.alloc (.deferred (some []))).alloc (.loop (rec .ready none)) = W1 := ⟨_, rfl⟩
  have hst1 : Step w0 R0 L0 W1 R (one (w.heap.size + 1) (.loop (rec .ready none)) :: one w.heap.size (.deferred (some [])) :: (Lit ++ Lb)) := by
    have h1 := (hst.push (.deferred (some []))).push (.loop (rec .ready none))
    rw [show (push w (.deferred (some []))).heap.size = w.heap.size + 1 by simp [push]] at h1
    rw [← hW1]
    exact h1
  refine ⟨w.heap.size + 1, [{ target := .collected w.heap.size, args := #[] }], W1, { target := .fn (.func gf) lb, args := #[.func (.yield (w.heap.size + 1)) #[] #[]] }, W1, gf,
    #[.func (.yield (w.heap.size + 1)) #[] #[]] ++ lb, W1, ?_, ?_, fun _ _ => trivial, ?_, (fun h => by cases h), ?_⟩
  · rw [← hW1, hrec]; exact run_enterLoop_outer _ _ _ _ _
  · simp only [resolve, ha.eval, hg]
    simp [go_sem, ev]
  · have := eg (#[.func (.yield (w.heap.size + 1)) #[] #[]] ++ lb) W1
    simp [invoke, go_sem, this]
  · generalize hl : w.heap.size + 1 = l at *
    generalize hD : w.heap.size = D at *
    have hperm : Step w0 R0 L0 W1 R (Lit ++ (one l (.loop (rec .ready none)) :: one D (.deferred (some [])) :: Lb)) := hst1.perm (by
      have := List.perm_append_comm (l₁ := [one l (.loop (rec .ready none)), one D (.deferred (some []))]) (l₂ := Lit)
      simpa using this.append_right Lb)
    refine calls_rof.2 ((hgives l (fun pre R1 L1 => ∃ Lq, L1 = one l (.loop (rec .ready none)) :: one D (.deferred (some [])) :: Lq ∧ J pre R1 Lq)
      (fun pre R1 L1 => ∃ c Lq, L1 = one l (.loop (rec .done (some c))) :: one D (.deferred (some [])) :: Lq ∧ Jx c pre R1 Lq) W1 (one l (.loop (rec .ready none)) :: one D (.deferred (some [])) :: Lb) hperm.sats
      (fun pre R1 R2 L1 hle ⟨Lq, e, h⟩ => ⟨Lq, e, hJ _ _ _ _ hle h⟩) (fun pre R1 R2 L1 hle ⟨c, Lq, e, h⟩ => ⟨c, Lq, e, hJx _ _ _ _ _ hle h⟩) ?_ ⟨Lb, rfl, h0⟩).mono ?_)
    · rintro pre x w1 R1 L1 ⟨Lq, rfl, hJ1⟩ hle hs hlen
      have hs1 := Step.refl hs
      have hb1 := hs1.blk (i := 0) rfl
      have hpar : (rec .ready none).params = ps := by rw [hrec]
      have htm : (rec .ready none).tmps = a.tmps := by rw [hrec]
      refine ⟨_, _, _, _, run_yield hb1 (by rw [hpar]; exact hsz x), roundIn_of_wpIn (F := rof none) trivial ?_⟩
      rw [show (rec .ready none).assign = assign by rw [hrec], show (rec .ready none).body = body by rw [hrec], htm, hpar]
      have hrel := rel_setp (n := n) ps.toList (enc x).toList _ _ hps ha.clr
      have hzip : (ps.zip (enc x)).foldl (fun tmps (t, v) => tmps.setIfInBounds t v) a.tmps = (ps.toList.zip (enc x).toList).foldl (fun t (p, v) => t.setIfInBounds p v) a.tmps := by
        rw [← Array.foldl_toList, Array.toList_zip]
      rw [hzip]
      refine wpIn_mono ((hround l pre x w1 R1 Lq hJ1 hle hlen).run _ hrel) ?_
      rintro e a1 w2 ⟨τ, hτ, q⟩
      cases e with
      | normal =>
        obtain ⟨rfl, hbody⟩ := q
        refine ⟨_, run_beginRound hb1 (by rw [hrec]), ?_⟩
        have hs2 := (hs1.set0 (.loop { rec .ready none with state := .busy }))
        refine wpIn_mono ((hbody _ hs2.sats.tail2).run _ hτ) ?_
        rintro e a2 w3 ⟨τ2, _, q2⟩
        have fin : ∀ {R' : Hp} {L' : List Hp} (jump : Option Code), Step (setB w2 l (.loop { rec .ready none with state := .busy })) R1 Lq w3 R' L' →
            ∃ w4, (Instr.endRound l jump).run P w3 = .ok (.bool jump.isNone) w4 ∧ Step w2 R1 (one l (.loop (rec .ready none)) :: one D (.deferred (some [])) :: Lq) w4 R' (one l (.loop (rec (if jump.isNone then .ready else .done) jump)) :: one D (.deferred (some [])) :: L') := by
          intro R' L' jump k
          have hs3 := (hs2.toEnd.call k).fromEnd
          refine ⟨_, run_endRound jump (hs3.blk (i := 0) rfl), ?_⟩
          have := hs3.set0 (.loop { { rec .ready none with state := .busy } with state := if jump.isNone then .ready else .done, pending := jump })
          rw [hrec] at this ⊢
          exact this
        cases e with
        | normal =>
          obtain ⟨R', L', k, hj⟩ := q2
          obtain ⟨w4, hr, hs4⟩ := fin none k
          exact ⟨_, w4, hr, true, R', _, rfl, hs4, ⟨L', rfl, hj⟩⟩
        | ret =>
          obtain ⟨R', L', k, hj⟩ := q2
          obtain ⟨w4, hr, hs4⟩ := fin (some .ret) k
          exact ⟨_, w4, hr, false, R', _, rfl, hs4, ⟨.ret, L', rfl, hj⟩⟩
        | exit id =>
          obtain ⟨R', L', k, hj⟩ := q2
          obtain ⟨w4, hr, hs4⟩ := fin (some (.exit id)) k
          exact ⟨_, w4, hr, false, R', _, rfl, hs4, ⟨.exit id, L', rfl, hj⟩⟩
        | _ => exact q2.elim
      | _ => exact q.elim
    · rintro e w2 ⟨⟨v, rfl⟩, R', Lit', Lb', hstep, hpost, hor⟩
      have hle : Le R R' := hstep.rle
      have hfull : Step w0 R0 L0 w2 R' (Lit' ++ Lb') := by
        have := Step.call (Lb := []) (by simpa using hperm) hstep
        simpa using this
      have fin : ∀ {r : Loop} {Lq : List Hp}, Lb' = one l (.loop r) :: one D (.deferred (some [])) :: Lq → r.state ≠ .busy → ∃ w3, (Instr.endLoop l).run P w2 = .ok r.pending w3 ∧ Step w0 R0 L0 w3 R' (one D (.deferred (some [])) :: (Lit' ++ Lq)) := by
        intro r Lq e hb
        subst e
        have h1 : Step w0 R0 L0 w2 R' (one l (.loop r) :: one D (.deferred (some [])) :: (Lit' ++ Lq)) := hfull.perm (by
          have := List.perm_append_comm (l₁ := Lit') (l₂ := [one l (.loop r), one D (.deferred (some []))])
          simpa using this.append_right Lq)
        exact ⟨_, run_endLoop (h1.blk (i := 0) rfl) hb, (h1.set0 (.loop { r with state := .exhausted })).drop⟩
      rcases hor with ⟨xs, hS, Lq, e, hj⟩ | ⟨pre, hSp, c, Lq, e, hj⟩
      · obtain ⟨w3, hr, hs3⟩ := fin e (by rw [hrec]; simp)
        refine ⟨none, w3, by rw [hr, hrec], ?_⟩
        exact ⟨_, ha.mark D, hdone D xs w3 R' Lit' Lq hS hj hpost hle hs3⟩
      · obtain ⟨w3, hr, hs3⟩ := fin e (by rw [hrec]; simp)
        refine ⟨some c, w3, by rw [hr, hrec], ?_⟩
        exact (hstop D c pre w3 R' Lit' Lq hSp hj hpost hle hs3).run _ (ha.mark D)
end
end Go.Fx
set_option linter.unusedSimpArgs false
set_option linter.unusedVariables false
set_option linter.unusedSectionVars false
namespace Go.Fx
open Go
section
variable {κ β : Type} [DecidableEq κ]
/-- A map that is not nil, its entries told. -/
structure MapE (kenc : κ → Value) (vr : β → Value → Prop) (b : Nat) (es : Array MapEntry) (k : Nat) (m : List (κ × β)) (c : Hp) : Prop where
  eq : c = one b (.map es k)
  is : MapIs kenc vr es.toList m
  born : Born es.toList k
theorem MapC.open {kenc : κ → Value} {vr : β → Value → Prop} {b : Nat} {m : List (κ × β)} {c : Hp} (h : MapC kenc vr (some b) m c) : ∃ es k, MapE kenc vr b es k m c := by
  rcases h with ⟨h, _⟩ | ⟨b', es, k, h1, h2, h3, h4⟩
  · cases h
  · cases h1; exact ⟨es, k, h2, h3, h4⟩
theorem MapE.close {kenc : κ → Value} {vr : β → Value → Prop} {b k : Nat} {es : Array MapEntry} {m : List (κ × β)} {c : Hp} (h : MapE kenc vr b es k m c) : MapC kenc vr (some b) m c := .inr ⟨b, es, k, rfl, h.eq, h.is, h.born⟩
theorem MapIs.at {kenc : κ → Value} {vr : β → Value → Prop} {es : List MapEntry} {m : List (κ × β)} (h : MapIs kenc vr es m) (i : Nat) (hi : i < es.length) : ∃ p, m[i]? = some p ∧ EntryIs kenc vr es[i] p := by
  induction h generalizing i with
  | nil => simp at hi
  | @cons e p es m he _ ih =>
    cases i with
    | zero => exact ⟨p, rfl, he⟩
    | succ i => obtain ⟨q, h1, h2⟩ := ih i (by simpa using hi); exact ⟨q, by simpa using h1, by simpa using h2⟩
/-- The iterator r of a range over the map b, from which xs have come. -/
def It (b r : Nat) (es : Array MapEntry) (k : Nat) (m xs : List (κ × β)) (c : Hp) : Prop :=
  ∃ is : List Nat, c = one r (.mapIter (some b) k (is.map fun i => (es.toList.map (·.born)).getD i 0).toArray k) ∧ is.Nodup ∧ (∀ i ∈ is, i < es.toList.length) ∧ xs.map some = is.map (fun i => m[i]?)
variable {P : Program} {w w0 : World} {R0 R : Hp} {L0 Lr : List Hp} {kT eT T : TypeId} {kenc : κ → Value} {vr : β → Value → Prop} {b r k : Nat} {es : Array MapEntry} {m xs : List (κ × β)} {c ci : Hp}
theorem It.start (b r : Nat) (es : Array MapEntry) (k : Nat) (m : List (κ × β)) : It b r es k m [] (one r (.mapIter (some b) k #[] k)) := ⟨[], rfl, by simp, by simp, rfl⟩
theorem run_range (hT : P.underlying T = some (.map kT eT)) (h : MapE kenc vr b es k m c) (hc : Le c (hp w)) : (Instr.range T (.map (some b))).run P w = .ok (ptr w.heap.size 0) (push w (.mapIter (some b) k #[] k)) :=
  run_range_map w T kT eT b es k hT (hc b _ (by rw [h.eq]; exact one_self _ _))
/-- Where nothing is left. -/
theorem It.all (h : MapE kenc vr b es k m c) (hi : It b r es k m xs ci) (hl : (leftOf es (((Classical.choose hi).map fun i => (es.toList.map (·.born)).getD i 0).toArray)).size = 0) : xs.Perm m := by
  obtain ⟨_, hnd, hlt, hxs⟩ := Classical.choose_spec hi
  generalize Classical.choose hi = is at *
  have hlen : es.toList.length = m.length := h.is.length
  have hall : ∀ i, i < es.toList.length → i ∈ is := by
    intro i hil
    have h0 : leftOf es ((is.map fun i => (es.toList.map (·.born)).getD i 0).toArray) = #[] := Array.eq_empty_of_size_eq_zero hl
    unfold leftOf at h0
    rw [Array.filter_eq_empty_iff] at h0
    have hm : es.toList[i] ∈ es := by simp
    have := h0 _ hm
    simp only [Bool.not_eq_eq_eq_not, Bool.not_true, Bool.not_eq_false] at this
    simp only [Array.contains_eq_mem, List.mem_toArray, decide_eq_true_eq, List.mem_map, Bool.not_eq_true', decide_eq_false_iff_not, Decidable.not_not] at this
    obtain ⟨j, hj, e⟩ := this
    have hjl := hlt j hj
    have e2 : (es.toList.map (·.born))[j]'(by simpa using hjl) = (es.toList.map (·.born))[i]'(by simpa using hil) := by
      simp only [List.getD_eq_getElem?_getD, List.getElem?_map, List.getElem?_eq_getElem hjl, Option.map_some, Option.getD_some] at e
      simpa using e
    have := (List.getElem_inj h.born.1).1 e2
    rw [← this]; exact hj
  have hp : is.Perm (List.range m.length) := by
    refine (List.perm_ext_iff_of_nodup hnd List.nodup_range).2 fun i => ?_
    rw [List.mem_range, ← hlen]
    exact ⟨hlt i, hall i⟩
  have h1 : (is.map fun i => m[i]?).Perm ((List.range m.length).map fun i => m[i]?) := hp.map _
  have h2 : ((List.range m.length).map fun i => m[i]?) = m.map some := by
    apply List.ext_getElem
    · simp
    · intro i h1 h2; simp at h1; simp [h1]
  rw [← hxs, h2] at h1
  have := h1.filterMap id
  simpa using this
/-- 'next': all have come, or one comes that has not. -/
theorem run_next (ty : TypeId) (h : MapE kenc vr b es k m c) (hc : Le c (hp w)) (hi : It b r es k m xs ci) (hst : Step w0 R0 L0 w R (ci :: Lr)) :
    (xs.Perm m ∧ (Instr.next (ptr r 0) false ty).run P w = .ok (.tuple #[.bool false]) w) ∨
    ∃ p v w' ci', (Instr.next (ptr r 0) false ty).run P w = .ok (.tuple #[.bool true, kenc p.1, v]) w' ∧ vr p.2 v ∧ p ∈ m ∧ (∃ ys, (xs ++ p :: ys).Perm m) ∧ It b r es k m (xs ++ [p]) ci' ∧ Step w0 R0 L0 w' R (ci' :: Lr) ∧
      ∀ w2, Le c (hp w2) → Le ci' (hp w2) → (Instr.entry (ptr r 0)).run P w2 = .ok (.tuple #[kenc p.1, v]) w2 := by
  have hall := fun q => It.all h hi q
  obtain ⟨hci, hnd, hlt, hxs⟩ := Classical.choose_spec hi
  generalize Classical.choose hi = is at *
  have hb : w.heap[b]? = some (.map es k) := hc b _ (by rw [h.eq]; exact one_self _ _)
  subst hci
  have hr := hst.blk (i := 0) rfl
  rcases run_next_at (P := P) w ty r b k k _ es k hr hb h.born.2 (Nat.le_refl _) with ⟨h0, hrun⟩ | ⟨e, he, w1, hw1, hrun⟩
  · exact .inl ⟨hall h0, hrun⟩
  · right
    unfold leftOf at he
    simp only [Array.toList_filter, List.mem_filter, Bool.not_eq_eq_eq_not, Bool.not_true] at he
    obtain ⟨hemem, hseen⟩ := he
    obtain ⟨i, hil, rfl⟩ := List.getElem_of_mem hemem
    have hni : i ∉ is := by
      intro hin
      have : (List.map (fun i => (List.map (·.born) es.toList).getD i 0) is).toArray.contains es.toList[i].born = true := by
        simp only [Array.contains_eq_mem, List.mem_toArray, decide_eq_true_eq, List.mem_map]
        refine ⟨i, hin, ?_⟩
        simp [List.getD_eq_getElem?_getD, List.getElem?_map, List.getElem?_eq_getElem hil]
      rw [this] at hseen
      cases hseen
    obtain ⟨p, hp1, hp2⟩ := h.is.at i hil
    have hlen : es.toList.length = m.length := h.is.length
    have hst1 : Step w0 R0 L0 w1 R (one r (.mapIter (some b) k (is.map fun i => (es.toList.map (·.born)).getD i 0).toArray k) :: Lr) := by
      rcases hw1 with rfl | rfl
      · exact hst
      · exact hst.draws _
    have hseq : (is.map fun i => (es.toList.map (·.born)).getD i 0).toArray.push es.toList[i].born = ((is ++ [i]).map fun i => (es.toList.map (·.born)).getD i 0).toArray := by
      have hil2 : i < es.size := by simpa using hil
      simp [List.getD_eq_getElem?_getD, hil2]
    have hnd2 : (is ++ [i]).Nodup := by
      rw [List.nodup_append]
      refine ⟨hnd, by simp, fun a ha c hc => ?_⟩
      simp at hc
      subst hc
      rintro rfl
      exact hni ha
    have hlt2 : ∀ j ∈ is ++ [i], j < es.toList.length := by
      intro j hj
      rcases List.mem_append.1 hj with hj | hj
      · exact hlt j hj
      · simp at hj; rw [hj]; exact hil
    have hxs2 : (xs ++ [p]).map some = (is ++ [i]).map (fun i => m[i]?) := by simp [hxs, hp1]
    refine ⟨p, es.toList[i].val, setB w1 r (.mapIter (some b) k ((is.map fun i => (es.toList.map (·.born)).getD i 0).toArray.push es.toList[i].born) k), one r (.mapIter (some b) k ((is ++ [i]).map fun i => (es.toList.map (·.born)).getD i 0).toArray k), ?_, hp2.2, List.mem_of_getElem? hp1, ?_, ⟨is ++ [i], rfl, hnd2, hlt2, hxs2⟩, ?_, ?_⟩
    · rw [hrun, hp2.1]; rfl
    · -- the rest
      have hsub : (is ++ [i]).Perm ((is ++ [i])) := List.Perm.refl _
      have hrest : ((is ++ [i]) ++ (List.range m.length).filter (fun j => !(is ++ [i]).contains j)).Perm (List.range m.length) := by
        refine (List.perm_ext_iff_of_nodup ?_ List.nodup_range).2 fun j => ?_
        · rw [List.nodup_append]
          refine ⟨hnd2, List.nodup_range.filter _, fun a ha c hc => ?_⟩
          simp only [List.mem_filter] at hc
          rintro rfl
          have := hc.2
          simp only [List.contains_eq_mem, Bool.not_eq_eq_eq_not, Bool.not_true, decide_eq_false_iff_not] at this
          exact this ha
        · rw [List.mem_range]
          constructor
          · intro hj
            rcases List.mem_append.1 hj with hj | hj
            · rw [← hlen]; exact hlt2 j hj
            · exact List.mem_range.1 (List.mem_filter.1 hj).1
          · intro hj
            by_cases hin : j ∈ is ++ [i]
            · exact List.mem_append_left _ hin
            · exact List.mem_append_right _ (List.mem_filter.2 ⟨List.mem_range.2 hj, by simpa using hin⟩)
      have h1 := hrest.map (fun i => m[i]?)
      have h2 : ((List.range m.length).map fun i => m[i]?) = m.map some := by
        apply List.ext_getElem
        · simp
        · intro i h1 h2; simp at h1; simp [h1]
      rw [List.map_append, ← hxs2, h2] at h1
      have h3 := h1.filterMap id
      rw [List.filterMap_append] at h3
      have e0 : ∀ l : List (κ × β), List.filterMap id (l.map some) = l := fun l => by simp
      rw [e0, e0] at h3
      exact ⟨_, by simpa using h3⟩
    · have := hst1.set0 (.mapIter (some b) k ((is.map fun i => (es.toList.map (·.born)).getD i 0).toArray.push es.toList[i].born) k)
      rw [hseq] at this
      rw [hseq]
      exact this
    · intro w2 h2 h3
      have hb2 : w2.heap[b]? = some (.map es k) := h2 b _ (by rw [h.eq]; exact one_self _ _)
      have hr2 : w2.heap[r]? = some (.mapIter (some b) k ((is.map fun i => (es.toList.map (·.born)).getD i 0).toArray.push es.toList[i].born) k) := by
        rw [hseq]; exact h3 r _ (one_self _ _)
      rw [run_entry_at (P := P) w2 r b k _ es k es.toList[i] hr2 hb2 hemem h.born.1, hp2.1]
variable {ρ : Operand → Value} {o : Oper} {x : Operand} {v : Value}
theorem x_range {v : Value} {w' : World} (ho : o.op = .range T x) (hx : ρ x = .map (some b)) (h : (Instr.range T (.map (some b))).run P w = .ok v w') : (execOp ρ o).run P w = .ok (.value v) w' := by
  unfold execOp
  simp [ho, hx, h]
theorem x_next {v : Value} {w' : World} (ho : o.op = .next x false) (hx : ρ x = ptr r 0) (h : (Instr.next (ptr r 0) false o.type).run P w = .ok v w') : (execOp ρ o).run P w = .ok (.value v) w' := by
  unfold execOp
  simp [ho, hx, h]
theorem x_entry {v : Value} {w' : World} (ho : o.op = .entry x) (hx : ρ x = ptr r 0) (h : (Instr.entry (ptr r 0)).run P w = .ok v w') : (execOp ρ o).run P w = .ok (.value v) w' := by
  unfold execOp
  simp [ho, hx, h]
end
end Go.Fx
set_option linter.unusedSimpArgs false
set_option linter.unusedVariables false
set_option linter.unusedSectionVars false
namespace Go.Fx
open Go
section
variable {w w0 : World} {R0 R : Hp} {L0 Lr : List Hp} {a b : Hp}
theorem uni_ne {A B : Hp} {i : Nat} (h : uni A B i ≠ none) : A i ≠ none ∨ B i ≠ none := by
  by_cases e : A i = none
  · exact .inr fun e' => h (uni_none.2 ⟨e, e'⟩)
  · exact .inl e
theorem Dj.uni_left {A B C : Hp} (h : Dj A C) (k : Dj B C) : Dj (uni A B) C := fun i => by
  rcases h i with e | e
  · rcases k i with e' | e'
    · exact .inl (uni_none.2 ⟨e, e'⟩)
    · exact .inr e'
  · exact .inr e
theorem Dj.of_uni_left {A B C : Hp} (h : Dj (uni A B) C) : Dj A C ∧ Dj B C :=
  ⟨fun i => (h i).imp (fun e => (uni_none.1 e).1) id, fun i => (h i).imp (fun e => (uni_none.1 e).2) id⟩
theorem Step.split (h : Step w0 R0 L0 w R (uni a b :: Lr)) (hd : Dj a b) : Step w0 R0 L0 w R (a :: b :: Lr) := by
  have hs := h.sats
  have hp := List.pairwise_cons.1 hs.dj
  have ha : ∀ {C : Hp}, Dj C (uni a b) → Dj C a ∧ Dj C b := fun q => ⟨(Dj.of_uni_left q.symm).1.symm, (Dj.of_uni_left q.symm).2.symm⟩
  have hu := hs.l (uni a b) (by simp)
  refine ⟨⟨hs.r, ?_, ?_, ?_⟩, h.rle, h.os, h.tape, h.output, h.size, h.keep, h.newR, ?_⟩
  · intro c hc
    rcases List.mem_cons.1 hc with rfl | hc
    · exact (uni_l _ _).trans hu
    · rcases List.mem_cons.1 hc with rfl | hc
      · exact (uni_r hd).trans hu
      · exact hs.l c (by simp [hc])
  · refine List.pairwise_cons.2 ⟨fun c hc => ?_, List.pairwise_cons.2 ⟨fun c hc => (Dj.of_uni_left (hp.1 c hc)).2, hp.2⟩⟩
    rcases List.mem_cons.1 hc with rfl | hc
    · exact hd
    · exact (Dj.of_uni_left (hp.1 c hc)).1
  · intro c hc
    have hr := ha (hs.rd (uni a b) (by simp))
    rcases List.mem_cons.1 hc with rfl | hc
    · exact hr.1
    · rcases List.mem_cons.1 hc with rfl | hc
      · exact hr.2
      · exact hs.rd c (by simp [hc])
  · intro c hc i hi
    have hn := h.newL (uni a b) (by simp) i
    rcases List.mem_cons.1 hc with rfl | hc
    · exact hn fun e => hi (uni_none.1 e).1
    · rcases List.mem_cons.1 hc with rfl | hc
      · exact hn fun e => hi (uni_none.1 e).2
      · exact h.newL c (by simp [hc]) i hi
theorem Step.dj2 (h : Step w0 R0 L0 w R (a :: b :: Lr)) : Dj a b := (List.pairwise_cons.1 h.sats.dj).1 b (by simp)
theorem Step.join (h : Step w0 R0 L0 w R (a :: b :: Lr)) : Step w0 R0 L0 w R (uni a b :: Lr) := by
  have hs := h.sats
  have hp := List.pairwise_cons.1 hs.dj
  have hp2 := List.pairwise_cons.1 hp.2
  refine ⟨⟨hs.r, ?_, ?_, ?_⟩, h.rle, h.os, h.tape, h.output, h.size, h.keep, h.newR, ?_⟩
  · intro c hc
    rcases List.mem_cons.1 hc with rfl | hc
    · exact uni_le (hs.l a (by simp)) (hs.l b (by simp))
    · exact hs.l c (by simp [hc])
  · exact List.pairwise_cons.2 ⟨fun c hc => Dj.uni_left (hp.1 c (by simp [hc])) (hp2.1 c hc), hp2.2⟩
  · intro c hc
    rcases List.mem_cons.1 hc with rfl | hc
    · exact (Dj.uni_left (hs.rd a (by simp)).symm (hs.rd b (by simp)).symm).symm
    · exact hs.rd c (by simp [hc])
  · intro c hc i hi
    rcases List.mem_cons.1 hc with rfl | hc
    · rcases uni_ne hi with e | e
      · exact h.newL a (by simp) i e
      · exact h.newL b (by simp) i e
    · exact h.newL c (by simp [hc]) i hi
/-- Three pieces as one. -/
def tri (a b c : Hp) : Hp := uni a (uni b c)
theorem Step.split3 {c : Hp} (h : Step w0 R0 L0 w R (tri a b c :: Lr)) (h1 : Dj a (uni b c)) (h2 : Dj b c) : Step w0 R0 L0 w R (a :: b :: c :: Lr) :=
  (((h.split h1).front 1 rfl rfl).split h2).front 2 rfl rfl
theorem Step.join3 {c : Hp} (h : Step w0 R0 L0 w R (a :: b :: c :: Lr)) : Step w0 R0 L0 w R (tri a b c :: Lr) ∧ Dj a (uni b c) ∧ Dj b c := by
  have h1 := (((h.front 1 rfl rfl).front 2 rfl rfl).front 1 rfl rfl).join
  have h2 := h1.front 1 rfl rfl
  exact ⟨h2.join, h2.dj2, ((h.front 1 rfl rfl).front 2 rfl rfl |>.front 1 rfl rfl).dj2⟩
theorem tri_1 (a b c : Hp) : Le a (tri a b c) := uni_l _ _
theorem tri_2 {a b c : Hp} (h1 : Dj a (uni b c)) : Le b (tri a b c) := (uni_l _ _).trans (uni_r h1)
theorem tri_3 {a b c : Hp} (h1 : Dj a (uni b c)) (h2 : Dj b c) : Le c (tri a b c) := (uni_r h2).trans (uni_r h1)
theorem Step.rot {La Lb : List Hp} (h : Step w0 R0 L0 w R (La ++ Lb)) : Step w0 R0 L0 w R (Lb ++ La) := h.perm List.perm_append_comm
theorem MapC.isSome {κ β : Type} {kenc : κ → Value} {vr : β → Value → Prop} {bo : Option Nat} {m : List (κ × β)} {c : Hp} (h : MapC kenc vr bo m c) (hm : m ≠ []) : ∃ b, bo = some b := by
  rcases h with ⟨_, h, _⟩ | ⟨b, _, _, h, _⟩
  · exact absurd h hm
  · exact ⟨b, h⟩
/-- What is owned is only read from now on, under a name. -/
theorem Step.frz {c : Hp} (h : Step w0 R0 L0 w R (c :: Lr)) : ∃ R', Step w0 R0 L0 w R' Lr ∧ Le R R' ∧ Le c R' := ⟨_, h.freeze, uni_l _ _, uni_r (h.sats.rd c (by simp))⟩
/-- The cells of a slice that is read. -/
theorem RdS.src {α : Type} {t : Ty α} {a : Addr} {n cap : Nat} {xs : List α} (h : RdS t R (.slice (some a) n cap) xs) (hw : Le R (hp w)) : ∃ src, Encs t R xs src ∧ ∀ j u, src[j]? = some u → w.cell? (a.add j) = some u := by
  obtain ⟨a', cap', e, hc, h⟩ := h
  by_cases hx : xs = []
  · subst hx; exact ⟨[], .nil, by simp⟩
  · obtain ⟨b, off, cs, T, fz, ha, hb, he⟩ := h hx
    cases e
    cases ha
    refine ⟨_, he, fun j u hj => ?_⟩
    have hlt : j < xs.length * t.sz := by
      have := (List.getElem?_eq_some_iff.1 hj).1
      simp [seg] at this
      omega
    rw [add_zero_spot, cell_at (hw b _ hb)]
    simp only [seg, List.getElem?_take, hlt, if_true, List.getElem?_drop] at hj
    simpa using hj
theorem RdS.nil {α : Type} {t : Ty α} {n cap : Nat} {xs : List α} (h : RdS t R (.slice none n cap) xs) : xs = [] := by
  obtain ⟨a', cap', e, hc, h⟩ := h
  by_cases hx : xs = []
  · exact hx
  · obtain ⟨b, off, cs, T, fz, ha, hb, he⟩ := h hx
    cases e
    cases ha
/-- A literal of one's own. -/
theorem OwnL.lit {α : Type} {t : Ty α} {T b n : Nat} {xs : List α} {cs : List Value} (h : Encs t R xs cs) (hn : xs.length = n) (hm : n ≤ maxLen) : OwnL t T R (.slice (some ⟨b, 0, none⟩) n n) xs (one b (.cells cs.toArray T (0, 0))) := by
  subst hn
  refine ⟨cs, .inr ⟨b, xs.length, cs.toArray, rfl, rfl, ?_, Nat.le_refl _, by simp [h.len], hm⟩, h⟩
  rw [← h.len]; simp
end
section
variable {P : Program} {n : Nat} {Q : QT} {σ : Fr} {w w0 : World} {ops : Array Oper} {S : World → Prop} {R0 R : Hp} {L0 : List Hp}
/-- A call that turns pieces of one's own, in a region that draws. -/
theorem One_callS (La Lb : List Hp) (hst : Step w0 R0 L0 w R (La ++ Lb)) {i : Nat} {o : Oper} {d f : Nat} {args : Array Value} {post : Value → Hp → List Hp → Prop} {K : Fr → World → Prop} (hi : ops[i]? = some o) (hd : o.dst = some d) (hn : Nat.blt d n = true) (hw : Want ops σ o true)
    (hr : (execOp (ev σ) o).run P w = .ok (.enter f args) w) (hc : Calls P f args w (Comes' w R La post))
    (k : ∀ v w' R' L', post v R' L' → Le R R' → Step w0 R0 L0 w' R' (L' ++ Lb) → S w' ∧ K (upd σ d v) w') : One P n ops S Q i K σ w :=
  One_call hi hd hn hw hr hc fun e w' ⟨v, R', L', he, hs, hp⟩ => ⟨v, he, k v w' R' L' hp hs.rle (hst.call hs)⟩
end
end Go.Fx
set_option linter.unusedSimpArgs false
set_option linter.unusedVariables false
set_option linter.unusedSectionVars false
namespace Go.Fx
open Go
section
variable {α : Type} {t : Ty α} {T b N : Nat} {R R0 : Hp} {xs : List α} {c : Hp} {w w0 : World} {L0 Lr : List Hp} {P : Program}
/-- The block b holds the row xs; behind it may lie more. -/
def Row (t : Ty α) (T b N : Nat) (R : Hp) (xs : List α) (c : Hp) : Prop := ∃ (cs rest : List Value), c = one b (.cells (cs ++ rest).toArray T (0, 0)) ∧ Encs t R xs cs ∧ (cs ++ rest).length = N
theorem Row.mono {R' : Hp} (h : Row t T b N R xs c) (l : Le R R') : Row t T b N R' xs c := by
  obtain ⟨cs, rest, e, h, hN⟩ := h
  exact ⟨cs, rest, e, h.mono l, hN⟩
theorem OwnL.row {v : Value} (h : OwnL t T R v xs c) (hne : 0 < xs.length) : ∃ b cap N, v = .slice (some ⟨b, 0, none⟩) xs.length cap ∧ xs.length ≤ cap ∧ Row t T b N R xs c ∧
    ∀ (R' : Hp) (ys : List α) (c' : Hp), ys.length = xs.length → Row t T b N R' ys c' → OwnL t T R' (.slice (some ⟨b, 0, none⟩) xs.length cap) ys c' := by
  obtain ⟨cells, h1, h2⟩ := h
  rcases h1 with ⟨rfl, hn, rfl, rfl⟩ | ⟨b, cap, cs, rfl, rfl, rfl, hc, hs, hm⟩
  · omega
  · refine ⟨b, cap, cs.size, rfl, hc, ⟨cs.toList.take (xs.length * t.sz), cs.toList.drop (xs.length * t.sz), by simp, h2, by simp⟩, ?_⟩
    rintro R' ys c' hl ⟨ds, rest, rfl, he, hN⟩
    refine ⟨ds, .inr ⟨b, cap, (ds ++ rest).toArray, by rw [hl], rfl, ?_, by omega, by rw [hs, ← hN]; simp, hm⟩, he⟩
    rw [← he.len]; simp
theorem Row.at (h : Row t T b N R xs c) (i : Nat) (hi : i < xs.length) : ∃ cl cs, t.rel R xs[i] cl ∧ c b = some (.cells cs T (0, 0)) ∧ seg cs (0 + i * t.sz) t.sz = cl := by
  obtain ⟨cs, rest, rfl, he, hN⟩ := h
  refine ⟨_, _, he.get i hi, one_self _ _, ?_⟩
  have hl := he.len
  have : (i + 1) * t.sz ≤ xs.length * t.sz := Nat.mul_le_mul_right _ hi
  rw [Nat.add_mul, Nat.one_mul] at this
  simp only [seg, Nat.zero_add]
  rw [List.drop_append, List.take_append, List.length_drop, Nat.sub_eq_zero_of_le (by omega), List.take_zero, List.append_nil]
theorem Row.store {agg : Bool} {bytes : Nat} {z v : Value} {eT : TypeId} (h : Row t T b N R xs c) (hst : Step w0 R0 L0 w R (c :: Lr)) (ti : TI P eT agg t.sz bytes z) (i : Nat) (hi : i < xs.length) {y : α} (hv : t.rel R y v.cells.toList) :
    ∃ c' w', (storeVar eT ⟨b, 0 + i * t.sz, none⟩ v).run P w = .ok () w' ∧ Row t T b N R (xs.set i y) c' ∧ Step w0 R0 L0 w' R (c' :: Lr) := by
  obtain ⟨cs, rest, rfl, he, hN⟩ := h
  have hl := he.len
  have h1 : (i + 1) * t.sz ≤ xs.length * t.sz := Nat.mul_le_mul_right _ hi
  rw [Nat.add_mul, Nat.one_mul] at h1
  have hvl := t.len hv
  have hb := hst.blk (i := 0) rfl
  have hr := run_storeVar (P := P) (v := v) ti (off := 0 + i * t.sz) hb (by simpa using hvl) (t.ones hv) (by simp; omega)
  have e : put (cs ++ rest).toArray (0 + i * t.sz) v.cells.toList = (cs.take (i * t.sz) ++ v.cells.toList ++ cs.drop (i * t.sz + t.sz) ++ rest).toArray := by
    simp only [put, Nat.zero_add, hvl]
    congr 1
    rw [List.take_append, List.drop_append, Nat.sub_eq_zero_of_le (by omega : i * t.sz ≤ cs.length), Nat.sub_eq_zero_of_le (by omega : i * t.sz + t.sz ≤ cs.length)]
    simp
  rw [e] at hr
  refine ⟨_, _, hr, ⟨_, rest, rfl, he.set i hi hv, ?_⟩, hst.set0 _⟩
  rw [← hN]
  simp
  have : v.cells.size = t.sz := by simpa using hvl
  omega
end
section
variable {α : Type}
/-- The first i + 1 stand in order, but for the one at j, which is less than all behind it. -/
def InsAt (le : α → α → Bool) (xs : List α) (i j : Nat) : Prop :=
  (∀ p q, p < q → q ≤ i → p ≠ j → q ≠ j → ∀ x y, xs[p]? = some x → xs[q]? = some y → le x y = true) ∧
  (∀ q, j < q → q ≤ i → ∀ x y, xs[j]? = some x → xs[q]? = some y → le x y = true)
def SortedTo (le : α → α → Bool) (xs : List α) (i : Nat) : Prop := ∀ p q, p < q → q < i → ∀ x y, xs[p]? = some x → xs[q]? = some y → le x y = true
theorem InsAt.start {le : α → α → Bool} {xs : List α} {i : Nat} (h : SortedTo le xs i) : InsAt le xs i i :=
  ⟨fun p q h1 h2 h3 h4 => h p q h1 (by omega), fun q h1 h2 => by omega⟩
theorem InsAt.stop {le : α → α → Bool} {xs : List α} {i j : Nat} (h : InsAt le xs i j) (hj : 0 < j) (hlen : j < xs.length) (trans : ∀ a b c, le a b = true → le b c = true → le a c = true)
    (hle : le (xs[j - 1]'(by omega)) xs[j] = true) : SortedTo le xs (i + 1) := fun p q h1 h2 x y hx hy => by
  by_cases hq : q = j
  · subst hq
    have hy' : xs[q] = y := by rw [List.getElem?_eq_getElem hlen] at hy; cases hy; rfl
    subst hy'
    by_cases hp : p = q - 1
    · subst hp
      have hx' : xs[q - 1]'(by omega) = x := by rw [List.getElem?_eq_getElem (by omega)] at hx; cases hx; rfl
      subst hx'
      exact hle
    · exact trans _ _ _ (h.1 p (q - 1) (by omega) (by omega) (by omega) (by omega) x _ hx (List.getElem?_eq_getElem (by omega))) hle
  · by_cases hp : p = j
    · subst hp; exact h.2 q h1 (by omega) x y hx hy
    · exact h.1 p q h1 (by omega) hp hq x y hx hy
theorem swap_get {xs : List α} {j : Nat} (hj : 0 < j) (hlen : j < xs.length) (k : Nat) :
    ((xs.set j (xs[j - 1]'(by omega))).set (j - 1) xs[j])[k]? = if k = j then xs[j - 1]? else if k = j - 1 then xs[j]? else xs[k]? := by
  rw [List.getElem?_set, List.getElem?_set]
  simp only [List.length_set]
  by_cases h1 : k = j
  · subst h1
    rw [if_neg (by omega), if_pos rfl, if_pos hlen, if_pos rfl, List.getElem?_eq_getElem (by omega)]
  · by_cases h2 : k = j - 1
    · subst h2
      rw [if_pos rfl, if_pos (by omega), if_neg h1, if_pos rfl, List.getElem?_eq_getElem hlen]
    · rw [if_neg (by omega), if_neg (by omega), if_neg h1, if_neg h2]
theorem InsAt.step {le : α → α → Bool} {xs : List α} {i j : Nat} (h : InsAt le xs i j) (hj : 0 < j) (hji : j ≤ i) (hlen : j < xs.length) (hle : le xs[j] (xs[j - 1]'(by omega)) = true) :
    InsAt le ((xs.set j (xs[j - 1]'(by omega))).set (j - 1) xs[j]) i (j - 1) := by
  refine ⟨fun p q h1 h2 h3 h4 x y hx hy => ?_, fun q h1 h2 x y hx hy => ?_⟩
  · rw [swap_get hj hlen] at hx hy
    rw [if_neg h3] at hx
    rw [if_neg h4] at hy
    by_cases hp : p = j
    · subst hp
      rw [if_pos rfl] at hx
      rw [if_neg (by omega)] at hy
      exact h.1 (p - 1) q (by omega) h2 (by omega) (by omega) x y hx hy
    · rw [if_neg hp] at hx
      by_cases hq : q = j
      · subst hq
        rw [if_pos rfl] at hy
        exact h.1 p (q - 1) (by omega) (by omega) hp (by omega) x y hx hy
      · rw [if_neg hq] at hy
        exact h.1 p q h1 h2 hp hq x y hx hy
  · rw [swap_get hj hlen] at hx hy
    rw [if_neg (by omega), if_pos rfl] at hx
    by_cases hq : q = j
    · subst hq
      rw [if_pos rfl] at hy
      rw [List.getElem?_eq_getElem hlen] at hx
      rw [List.getElem?_eq_getElem (by omega)] at hy
      cases hx
      cases hy
      exact hle
    · rw [if_neg hq, if_neg (by omega)] at hy
      exact h.2 q (by omega) h2 x y hx hy
theorem SortedTo.all {le : α → α → Bool} {xs : List α} {i : Nat} (h : SortedTo le xs i) (hi : xs.length ≤ i) : SortedTo le xs xs.length := fun p q h1 h2 => h p q h1 (by omega)
theorem SortedTo.one (le : α → α → Bool) (xs : List α) : SortedTo le xs 1 := fun p q h1 h2 => by omega
end
section
variable {ro : Option Nat} {P : Program} {n : Nat} {Q : QT} {σ : Fr} {w : World}
end
section
variable {w0 w w' : World} {R0 R R' : Hp} {L0 Lc : List Hp} {c : Hp}
/-- What a call that only reads has made is one's own. -/
theorem Step.gain (h : Step w0 R0 L0 w R Lc) (k : Step w (hp w) [] w' R' [c]) : Step w0 R0 L0 w' R (c :: Lc) :=
  h.own k.grow (k.get (i := 0) rfl) fun b hb => by
    rcases k.newL c (by simp) b hb with h1 | h1 | ⟨_, h1, _⟩
    · exact h1
    · rcases k.sats.rd c (by simp) b with e | e
      · cases eR : hp w b with
        | none => exact absurd eR h1
        | some o => rw [k.rle b o eR] at e; cases e
      · exact absurd e hb
    · cases h1
end
section
variable {P : Program} {n : Nat} {Q : QT} {σ : Fr} {w w0 : World} {ops : Array Oper} {S : World → Prop} {R0 R : Hp} {L0 Lc : List Hp} {K : Fr → World → Prop}
theorem One_new (hst : Step w0 R0 L0 w R Lc) {i : Nat} {o : Oper} {d : Nat} {ob : Obj} {v : Nat → Value} (hi : ops[i]? = some o) (hd : o.dst = some d) (hn : Nat.blt d n = true) (hw : Want ops σ o true)
    (hr : (execOp (ev σ) o).run P w = .ok (.value (v w.heap.size)) (push w ob)) (k : ∀ b w', Step w0 R0 L0 w' R (one b ob :: Lc) → S w' ∧ K (upd σ d (v b)) w') : One P n ops S Q i K σ w :=
  One_val hi hd hn hw hr (k _ _ (hst.push ob)).1 (k _ _ (hst.push ob)).2
theorem One_append (hst : Step w0 R0 L0 w R Lc) {α : Type} {ty : Ty α} {t e : TypeId} {bytes : Nat} {z v : Value} {agg : Bool} {j : Nat} {o : Oper} {d : Nat} {x y : Operand} {a : Addr} {m cap2 : Nat} {xs ys : List α} {src : List Value} {c : Hp} {L' : List Hp} (i : Nat)
    (hi' : ops[j]? = some o) (hd : o.dst = some d) (hn : Nat.blt d n = true) (hw : Want ops σ o true) (ho : o.op = .call { callee := .builtin .append, args := #[x, y], argTypes := #[t, t] }) (hx : ev σ x = v) (hy : ev σ y = .slice (some a) m cap2)
    (hu : SL P t e) (he : TI P e agg ty.sz bytes z) (hz : z.cells.size = ty.sz) (hi : Lc[i]? = some c) (hL : Lc.eraseIdx i = L') (how : OwnL ty e R v xs c) (hsrc : ∀ j u, src[j]? = some u → w.cell? (a.add j) = some u) (hsr : Encs ty R ys src)
    (hm : ys.length = m) (hroom : (xs.length + m) * bytes ≤ 2 ^ 47) (hmax : xs.length + m ≤ maxLen)
    (k : ∀ v' c' w', OwnL ty e R v' (xs ++ ys) c' → Step w0 R0 L0 w' R (c' :: L') → S w' ∧ K (upd σ d v') w') : One P n ops S Q j K σ w := by
  obtain ⟨cells, h1, h2⟩ := how
  subst hm
  obtain ⟨v', c', w', hr, ho', hst'⟩ := run_append (ty := o.type) (cap2 := cap2) hu he hz h1 (hst.front i hi hL) hsr.len hsrc hsr.ones hroom hmax
  have q := k v' c' w' ⟨cells ++ src, by simpa using ho', h2.append hsr⟩ hst'
  exact One_val hi' hd hn hw (x_append ho hx hy hr) q.1 q.2
end
end Go.Fx
set_option linter.unusedSimpArgs false
set_option linter.unusedVariables false
set_option linter.unusedSectionVars false
namespace Go.Fx
open Go Go.ChangeShapes Go.WideShapes Go.ChangeAt Go.RowKit
mutual
def bulk {H : Type} : DataW H → Nat
  | .lit (.string bytes) => bytes.length + 1
  | .lit _ => 1
  | .nil => 1
  | .ptr d => bulk d + 1
  | .slice elems spare => bulks elems + bulks spare + 1
  | .agg parts => bulks parts + 1
  | .iface _ d => bulk d + 1
  | .map entries => bulkEs entries + 1
  | .held _ => 1
def bulks {H : Type} : List (DataW H) → Nat
  | [] => 0
  | d :: r => bulk d + bulks r
def bulkEs {H : Type} : List (Lit × DataW H) → Nat
  | [] => 0
  | x :: r => bulkE x + bulkEs r
def bulkE {H : Type} : Lit × DataW H → Nat
  | (.string bytes, d) => bytes.length + bulk d + 1
  | (_, d) => bulk d + 1
end
theorem bulk_pos {H : Type} (d : DataW H) : 1 ≤ bulk d := by
  cases d with
  | lit l => cases l <;> simp [bulk] <;> omega
  | _ => simp [bulk] <;> omega
theorem bulks_len {H : Type} (ds : List (DataW H)) : ds.length ≤ bulks ds := by
  induction ds with
  | nil => simp [bulks]
  | cons d ds ih =>
    have := bulk_pos d
    simp only [bulks, List.length_cons]
    omega
theorem bulks_mem {H : Type} {ds : List (DataW H)} {d : DataW H} (h : d ∈ ds) : bulk d ≤ bulks ds := by
  induction ds with
  | nil => cases h
  | cons e ds ih =>
    simp only [bulks]
    rcases List.mem_cons.1 h with rfl | h
    · omega
    · have := ih h; omega
theorem mapM_frame {α β : Type} {f f' : α → Option β} : ∀ {l : List α} {ys : List β}, l.mapM f = some ys → (∀ x ∈ l, ∀ y ∈ ys, f x = some y → f' x = some y) → l.mapM f' = some ys
  | [], ys, h, _ => by simpa using h
  | a :: l, ys, h, hf => by
    rw [List.mapM_cons] at h ⊢
    cases e : f a with
    | none => rw [e] at h; simp at h
    | some b =>
      rw [e] at h
      cases e2 : l.mapM f with
      | none => rw [e2] at h; simp at h
      | some bs =>
        rw [e2] at h
        have h' : b :: bs = ys := by simpa using h
        subst h'
        rw [hf a (by simp) b (by simp) e, mapM_frame e2 (fun x hx y hy => hf x (by simp [hx]) y (by simp [hy]))]
        rfl
theorem mapM_range' {β : Type} {f : Nat → Option β} (ys : List β) (h : ∀ i (hi : i < ys.length), f i = some ys[i]) : (List.range ys.length).mapM f = some ys := by
  have : ∀ m, m ≤ ys.length → (List.range m).mapM f = some (ys.take m) := by
    intro m
    induction m with
    | zero => intro _; simp
    | succ m ih =>
      intro hm
      rw [List.range_succ, List.mapM_append, ih (by omega), List.take_succ_eq_append_getElem (by omega)]
      simp [h m (by omega)]
  have h2 := this ys.length (Nat.le_refl _)
  rwa [List.take_of_length_le (Nat.le_refl _)] at h2
theorem cell?_grow {W W' : World} {a : Addr} {v : Value} (g : Grow W W') (h : W.cell? a = some v) : W'.cell? a = some v := by
  unfold World.cell? at h ⊢
  cases e : W.heap[a.block]? with
  | none => rw [e] at h; simp at h
  | some o =>
    have e' : W'.heap[a.block]? = some o := g.le a.block o e
    rw [e]at h
    rw [e']
    exact h
theorem cells?_grow {W W' : World} {b n : Nat} {a : Addr} {cs : List Value} (g : Grow W W') (h : W.cells? b a n = some cs) : W'.cells? b a n = some cs := by
  unfold World.cells? at h ⊢
  split at h
  · rename_i hb
    rw [if_pos hb]
    exact mapM_frame h fun i _ v _ hv => cell?_grow g hv
  · cases h
abbrev allSp : Nat → Bool := fun _ => true
/-- Data of the type t reads the same behind a call that turned nothing. -/
def FrameT (P : Program) (t : TypeId) : Prop := ∀ {H : Type} {enc : TypeId × Value → H} {W W' : World} {sp : Nat → Bool} {fuel : Nat} {cs : List Value} {d : DataW H} {ps : List MemPlace},
  DataW.trod enc P W 0 allSp true fuel t cs = some (d, ps) → Grow W W' → (∀ p ∈ ps, sp p.block = true) → DataW.trod enc P W' 0 sp true fuel t cs = some (d, ps)
/-- What data of the type t are. -/
structure Opens (P : Program) (t : TypeId) {α : Type} (ty : Ty α) (ok : Nat → α → Prop) : Prop where
  size : P.cellsOf t = ty.sz
  mono : ∀ {m n : Nat} {x : α}, m ≤ n → ok m x → ok n x
  run : ∀ {H : Type} {enc : TypeId × Value → H} {W : World} {fuel : Nat} {cs : List Value} {d : DataW H} {ps : List MemPlace},
    DataW.trod enc P W 0 allSp true fuel t cs = some (d, ps) → ∃ x, ty.rel (hp W) x cs ∧ ok (bulk d) x
  frame : FrameT P t
section
variable {P : Program} {t e : TypeId}
theorem Opens.int (hu : P.underlying t = some (.int .i64)) (hs : P.cellsOf t = 1) : Opens P t Ty.int (fun _ x => I64 x) where
  size := hs
  mono := fun _ h => h
  run := fun {H enc W fuel cs d ps} h => by
    obtain ⟨m, rfl, hx, hw⟩ := DataW.trod_int hu h
    refine ⟨m, rfl, ?_⟩
    simp [Lit.wf, IntKind.min, IntKind.max, IntKind.signed, IntKind.bits] at hw
    exact hw
  frame := fun {H enc W W' sp fuel cs d ps} h g hsp => by
    obtain ⟨m, rfl, hx, hw⟩ := DataW.trod_int hu h
    cases fuel with
    | zero => simp [DataW.trod] at h
    | succ n => rw [hx]; exact trod_int_mk n hu hw
theorem Opens.u8 (hu : P.underlying t = some (.int .u8)) (hs : P.cellsOf t = 1) : Opens P t Ty.u8 (fun _ x => 0 ≤ x ∧ x ≤ 255) where
  size := hs
  mono := fun _ h => h
  run := fun {H enc W fuel cs d ps} h => by
    obtain ⟨m, rfl, hx, hw⟩ := DataW.trod_int hu h
    refine ⟨m, rfl, ?_⟩
    simp [Lit.wf, IntKind.min, IntKind.max, IntKind.signed, IntKind.bits] at hw
    exact hw
  frame := fun {H enc W W' sp fuel cs d ps} h g hsp => by
    obtain ⟨m, rfl, hx, hw⟩ := DataW.trod_int hu h
    cases fuel with
    | zero => simp [DataW.trod] at h
    | succ n => rw [hx]; exact trod_int_mk n hu hw
theorem Opens.via {α β : Type} {ty : Ty α} {ok : Nat → α → Prop} (h : Opens P t ty ok) (f : β → α) (g : α → β) (hfg : ∀ y, f (g y) = y) : Opens P t (ty.via f) (fun n x => ok n (f x)) where
  size := h.size
  mono := fun l k => h.mono l k
  run := fun k => by
    obtain ⟨x, h1, h2⟩ := h.run k
    exact ⟨g x, by show ty.rel _ (f (g x)) _; rw [hfg]; exact h1, by rw [hfg]; exact h2⟩
  frame := h.frame
theorem cells_seg {W : World} {b off n : Nat} {cs : List Value} (h : W.cells? 0 ⟨b, off, none⟩ n = some cs) (hn : 0 < n) : ∃ C T fz, W.heap[b]? = some (.cells C T fz) ∧ seg C off n = cs := by
  obtain ⟨_, hl, hc⟩ := World.cells?_some h
  have h0 := hc 0 hn
  rw [add_zero_spot] at h0
  cases e : W.heap[b]? with
  | none =>
    have h1 : cs[0]? = none := by rw [← h0]; simp [World.cell?, e]
    have := List.getElem?_eq_none_iff.1 h1
    omega
  | some o =>
    cases o with
    | cells C T fz =>
      refine ⟨C, T, fz, rfl, ?_⟩
      apply List.ext_getElem?
      intro i
      simp only [seg, List.getElem?_take, List.getElem?_drop]
      split
      · rename_i hi
        have := hc i hi
        rw [add_zero_spot, cell_at e] at this
        rw [← this]
        simp
      · rename_i hi
        rw [List.getElem?_eq_none (by omega)]
    | _ =>
      have h1 : cs[0]? = none := by rw [← h0]; simp [World.cell?, e]
      have := List.getElem?_eq_none_iff.1 h1
      omega
theorem encs_of {α : Type} {ty : Ty α} {R : Hp} {C : Array Value} {off : Nat} : ∀ (xs : List α), (∀ i (hi : i < xs.length), ∃ c, seg C (off + i * ty.sz) ty.sz = c ∧ ty.rel R xs[i] c) → off + xs.length * ty.sz ≤ C.size → Encs ty R xs (seg C off (xs.length * ty.sz))
  | [], _, _ => by simpa [seg] using Encs.nil
  | x :: xs, h, hC => by
    obtain ⟨c, hc, hr⟩ := h 0 (by simp)
    have hl := ty.len hr
    simp only [List.length_cons, Nat.add_mul, Nat.one_mul] at hC
    have e : seg C off ((x :: xs).length * ty.sz) = c ++ seg C (off + ty.sz) (xs.length * ty.sz) := by
      rw [← hc]
      simp only [seg, Nat.zero_mul, Nat.add_zero, List.length_cons, Nat.add_mul, Nat.one_mul]
      rw [Nat.add_comm (xs.length * ty.sz) ty.sz, List.take_add, List.drop_drop]
    rw [e]
    refine .cons hr (encs_of xs (fun i hi => ?_) (by omega))
    obtain ⟨c', h1, h2⟩ := h (i + 1) (by simpa using hi)
    refine ⟨c', ?_, by simpa using h2⟩
    rw [← h1]
    congr 1
    rw [Nat.add_mul, Nat.one_mul]
    omega
theorem Opens.slice {α : Type} {ty : Ty α} {ok : Nat → α → Prop} (ho : Opens P e ty ok) (hu : P.underlying t = some (.slice e)) (hs : P.cellsOf t = 1) (hpos : 0 < ty.sz) :
    Opens P t (Ty.slice ty) (fun n xs => xs.length + 1 ≤ n ∧ ∀ x ∈ xs, ok n x) where
  size := hs
  mono := fun l h => ⟨Nat.le_trans h.1 l, fun x hx => ho.mono l (h.2 x hx)⟩
  run := fun {H enc W fuel cs d ps} h => by
    rcases DataW.trod_slice hu h with ⟨rfl, hx⟩ | ⟨a, len, cap, elems, rest, n, hf, rfl, hx, hb, hl, hm, hlen, hel, hsp, hns⟩
    · cases hx
      exact ⟨[], ⟨_, rfl, RdS.empty _ _⟩, by simp [bulk], by simp⟩
    · simp only [Prod.mk.injEq] at hx
      obtain ⟨hd, hps⟩ := hx
      have each : ∀ i (hi : i < len), ∃ x c, W.cells? 0 (a.add (i * P.cellsOf e)) (P.cellsOf e) = some c ∧ ty.rel (hp W) x c ∧ ok (bulk d) x := by
        intro i hi
        have h1 := hel i hi
        have hi' : i < elems.length := by omega
        rw [List.getElem?_eq_getElem hi', Option.bind_eq_some_iff] at h1
        obtain ⟨c, hc, h2⟩ := h1
        obtain ⟨x, hr, hk⟩ := ho.run (d := (elems[i]).1) (ps := (elems[i]).2) h2
        refine ⟨x, c, hc, hr, ho.mono ?_ hk⟩
        rw [hd]
        simp only [bulk]
        have := bulks_mem (ds := elems.map (·.1)) (List.mem_map.2 ⟨elems[i], List.getElem_mem hi', rfl⟩)
        omega
      have hb2 : len + 1 ≤ bulk d := by
        rw [hd]
        simp only [bulk]
        have := bulks_len (elems.map (·.1))
        simp only [List.length_map] at this
        omega
      have hx : ∃ xs : List α, xs.length = len ∧ ∀ i (hi : i < xs.length), ∃ c, W.cells? 0 (a.add (i * P.cellsOf e)) (P.cellsOf e) = some c ∧ ty.rel (hp W) xs[i] c ∧ ok (bulk d) xs[i] := by
        have : ∀ m, m ≤ len → ∃ xs : List α, xs.length = m ∧ ∀ i (hi : i < xs.length), ∃ c, W.cells? 0 (a.add (i * P.cellsOf e)) (P.cellsOf e) = some c ∧ ty.rel (hp W) xs[i] c ∧ ok (bulk d) xs[i] := by
          intro m
          induction m with
          | zero => intro _; exact ⟨[], rfl, fun i hi => by simp at hi⟩
          | succ m ih =>
            intro hm
            obtain ⟨xs, hxl, hxs⟩ := ih (by omega)
            obtain ⟨x, c, h1, h2, h3⟩ := each m (by omega)
            refine ⟨xs ++ [x], by simp [hxl], fun i hi => ?_⟩
            by_cases h' : i < xs.length
            · rw [List.getElem_append_left h']
              exact hxs i h'
            · have : i = m := by simp at hi; omega
              subst this
              rw [List.getElem_append_right (by omega)]
              exact ⟨c, h1, by simpa [hxl] using h2, by simpa [hxl] using h3⟩
        exact this len (Nat.le_refl _)
      obtain ⟨xs, hxl, hxs⟩ := hx
      subst hxl
      refine ⟨xs, ⟨_, rfl, some a, cap, rfl, hl, fun hne => ?_⟩, hb2, fun x hx => ?_⟩
      · have hpos' : 0 < xs.length := List.length_pos_iff.2 hne
        rw [ho.size] at hxs
        obtain ⟨c0, hc0, _, _⟩ := hxs 0 hpos'
        have hsp0 : a.spot = none := by
          have := (World.cells?_some hc0).2.2 0 hpos
          have hl0 := (World.cells?_some hc0).2.1
          simp only [Addr.add, if_true, Nat.zero_mul] at this
          rw [List.getElem?_eq_getElem (by omega)] at this
          cases e' : a.spot with
          | none => rfl
          | some s =>
            unfold World.cell? at this
            rw [e'] at this
            split at this <;> simp at this
        obtain ⟨b, off, sp⟩ := a
        simp only at hsp0
        subst hsp0
        simp only [add_zero_spot] at hxs
        obtain ⟨c1, hc1, _, _⟩ := hxs 0 hpos'
        obtain ⟨C, T, fz, hb', _⟩ := cells_seg hc1 hpos
        refine ⟨b, off, C, T, fz, rfl, hb', encs_of xs (fun i hi => ?_) ?_⟩
        · obtain ⟨c, hc, hr, _⟩ := hxs i hi
          obtain ⟨C', T', fz', hb'', hse⟩ := cells_seg hc hpos
          rw [hb'] at hb''
          cases hb''
          exact ⟨c, hse, hr⟩
        · obtain ⟨c, hc, hr, _⟩ := hxs (xs.length - 1) (by omega)
          obtain ⟨C', T', fz', hb'', hse⟩ := cells_seg hc hpos
          rw [hb'] at hb''
          cases hb''
          have hlc := ty.len hr
          rw [← hse] at hlc
          simp only [seg, List.length_take, List.length_drop, Array.length_toList] at hlc
          have : xs.length * ty.sz = (xs.length - 1) * ty.sz + ty.sz := by
            rw [← Nat.succ_mul]; congr 1; omega
          omega
      · obtain ⟨i, hi, rfl⟩ := List.getElem_of_mem hx
        obtain ⟨_, _, _, h⟩ := hxs i hi
        exact h
  frame := fun {H enc W W' sp fuel cs d ps} h g hsp => by
    rcases DataW.trod_slice hu h with ⟨rfl, hx⟩ | ⟨a, len, cap, elems, rest, n, rfl, rfl, hx, hb, hl, hm, hlen, hel, hsp', hns⟩
    · cases fuel with
      | zero => simp [DataW.trod] at h
      | succ n =>
        rw [hx]
        unfold DataW.trod
        rw [hu]
        rfl
    · simp only [Prod.mk.injEq] at hx
      obtain ⟨hd, hps⟩ := hx
      obtain ⟨hrl, hr⟩ := hsp' rfl
      have one : ∀ (i : Nat) (y : DataW H × List MemPlace), (∀ p ∈ y.2, sp p.block = true) → (W.cells? 0 (a.add (i * P.cellsOf e)) (P.cellsOf e)).bind (DataW.trod enc P W 0 allSp true n e) = some y →
          (W'.cells? 0 (a.add (i * P.cellsOf e)) (P.cellsOf e)).bind (DataW.trod enc P W' 0 sp true n e) = some y := by
        intro i y hy h1
        rw [Option.bind_eq_some_iff] at h1 ⊢
        obtain ⟨c, hc, h2⟩ := h1
        exact ⟨c, cells?_grow g hc, ho.frame (d := y.1) (ps := y.2) h2 g hy⟩
      have hin : ∀ y ∈ elems ++ rest, ∀ p ∈ y.2, sp p.block = true := fun y hy p hp => hsp p (by
        rw [hps]
        exact List.mem_append.2 (.inr (List.mem_flatMap.2 ⟨y, hy, hp⟩)))
      have m1 : (List.range len).mapM (fun i => (W'.cells? 0 (a.add (i * P.cellsOf e)) (P.cellsOf e)).bind (DataW.trod enc P W' 0 sp true n e)) = some elems := by
        have := mapM_range' (f := fun i => (W'.cells? 0 (a.add (i * P.cellsOf e)) (P.cellsOf e)).bind (DataW.trod enc P W' 0 sp true n e)) elems (fun i hi => one i elems[i] (fun p hp => hin elems[i] (List.mem_append.2 (.inl (List.getElem_mem hi))) p hp) (by
          rw [hel i (by omega), List.getElem?_eq_getElem hi]))
        rw [hlen] at this
        exact this
      have m2 : (List.range (cap - len)).mapM (fun j => (W'.cells? 0 (a.add ((len + j) * P.cellsOf e)) (P.cellsOf e)).bind (DataW.trod enc P W' 0 sp true n e)) = some rest := by
        have := mapM_range' (f := fun j => (W'.cells? 0 (a.add ((len + j) * P.cellsOf e)) (P.cellsOf e)).bind (DataW.trod enc P W' 0 sp true n e)) rest (fun i hi => one (len + i) rest[i] (fun p hp => hin rest[i] (List.mem_append.2 (.inr (List.getElem_mem hi))) p hp) (by
          rw [hr i (by omega), List.getElem?_eq_getElem hi]))
        rw [hrl] at this
        exact this
      unfold DataW.trod
      rw [hu]
      simp only [hb, hl, hm, and_self, if_true, m1, Option.bind_some]
      have m3 : (if sp a.block = true then (List.range (cap - len)).mapM (fun j => (W'.cells? 0 (a.add ((len + j) * P.cellsOf e)) (P.cellsOf e)).bind (DataW.trod enc P W' 0 sp true n e)) else some []) = some rest := by
        by_cases h0 : elems.length + rest.length = 0
        · have : rest = [] := List.eq_nil_of_length_eq_zero (by omega)
          rw [m2]
          split
          · rfl
          · rw [this]
        · have hsb : sp a.block = true := by
            have := hsp (.cell a.block (a.off + 0)) (by
              rw [hps]
              refine List.mem_append.2 (.inl ?_)
              unfold MemPlace.row
              refine List.mem_map.2 ⟨0, List.mem_range.2 ?_, rfl⟩
              rw [ho.size]
              exact Nat.mul_pos (by omega) hpos)
            exact this
          rw [if_pos hsb, m2]
      rw [m3, hd, hps]
      rfl
end
end Go.Fx
set_option linter.unusedSimpArgs false
set_option linter.unusedVariables false
set_option linter.unusedSectionVars false
namespace Go.Fx
open Go Go.ChangeShapes Go.WideShapes Go.ChangeAt Go.RowKit
section
variable {P : Program} {t e : TypeId}
theorem Opens.str (hu : P.underlying t = some .string) (hs : P.cellsOf t = 1) : Opens P t Ty.str (fun n x => x.size + 1 ≤ n) where
  size := hs
  mono := fun l h => Nat.le_trans h l
  run := fun {H enc W fuel cs d ps} h => by
    obtain ⟨s, rfl, hx, hw⟩ := DataW.trod_string hu h
    cases hx
    exact ⟨s, rfl, by simp only [bulk, Array.length_toList]; exact Nat.le_refl _⟩
  frame := fun {H enc W W' sp fuel cs d ps} h g hsp => by
    obtain ⟨s, rfl, hx, hw⟩ := DataW.trod_string hu h
    cases fuel with
    | zero => simp [DataW.trod] at h
    | succ n =>
      unfold DataW.trod at h ⊢
      rw [hu] at h ⊢
      exact h
theorem Opens.bool (hu : P.underlying t = some .bool) (hs : P.cellsOf t = 1) : Opens P t Ty.bool (fun _ _ => True) where
  size := hs
  mono := fun _ _ => trivial
  run := fun {H enc W fuel cs d ps} h => by
    obtain ⟨s, rfl, hx⟩ := DataW.trod_bool hu h
    exact ⟨s, rfl, trivial⟩
  frame := fun {H enc W W' sp fuel cs d ps} h g hsp => by
    obtain ⟨s, rfl, hx⟩ := DataW.trod_bool hu h
    cases fuel with
    | zero => simp [DataW.trod] at h
    | succ n =>
      unfold DataW.trod at h ⊢
      rw [hu] at h ⊢
      exact h
/-- Fields that lie one behind the other from off on. -/
structure OpensFs (P : Program) (fs : List Field) (off : Nat) {α : Type} (ty : Ty α) (ok : Nat → α → Prop) : Prop where
  mono : ∀ {m n : Nat} {x : α}, m ≤ n → ok m x → ok n x
  run : ∀ {H : Type} {enc : TypeId × Value → H} {W : World} {n N : Nat} {cs : List Value} {xs : List (DataW H × List MemPlace)}, off + ty.sz ≤ cs.length → xs.length = fs.length →
    (∀ (i : Nat) (f : Field), fs[i]? = some f → DataW.trod enc P W 0 allSp true n f.type ((cs.drop f.offset).take (P.cellsOf f.type)) = xs[i]?) → (∀ x ∈ xs, bulk x.1 ≤ N) →
    ∃ x, ty.rel (hp W) x ((cs.drop off).take ty.sz) ∧ ok N x
  frame : ∀ f ∈ fs, FrameT P f.type
theorem OpensFs.one {α : Type} {ty : Ty α} {ok : Nat → α → Prop} {f : Field} {off : Nat} (h : Opens P f.type ty ok) (ho : f.offset = off) : OpensFs P [f] off ty ok where
  mono := h.mono
  run := fun {H enc W n N cs xs} hc hl hx hN => by
    have h0 := hx 0 f rfl
    have hl' : 0 < xs.length := by rw [hl]; simp
    rw [List.getElem?_eq_getElem hl', h.size, ho] at h0
    obtain ⟨x, h1, h2⟩ := h.run (d := (xs[0]).1) (ps := (xs[0]).2) h0
    exact ⟨x, h1, h.mono (hN _ (List.getElem_mem hl')) h2⟩
  frame := fun g hg => by
    obtain rfl : g = f := by simpa using hg
    exact h.frame
theorem OpensFs.cons {α β : Type} {a : Ty α} {b : Ty β} {oka : Nat → α → Prop} {okb : Nat → β → Prop} {f : Field} {fs : List Field} {off : Nat} (h : Opens P f.type a oka) (ho : f.offset = off) (k : OpensFs P fs (off + a.sz) b okb) :
    OpensFs P (f :: fs) off (a.pair b) (fun n x => oka n x.1 ∧ okb n x.2) where
  mono := fun l ⟨h1, h2⟩ => ⟨h.mono l h1, k.mono l h2⟩
  run := fun {H enc W n N cs xs} hc hl hx hN => by
    have hc' : off + (a.sz + b.sz) ≤ cs.length := hc
    cases xs with
    | nil => simp at hl
    | cons x0 xs =>
      have h0 := hx 0 f rfl
      rw [h.size, ho] at h0
      obtain ⟨x, h1, h2⟩ := h.run (d := x0.1) (ps := x0.2) h0
      obtain ⟨y, h3, h4⟩ := k.run (cs := cs) (xs := xs) (by omega) (by simpa using hl) (fun i g hg => hx (i + 1) g (by simpa using hg)) (fun z hz => hN z (by simp [hz]))
      refine ⟨(x, y), ⟨_, _, ?_, h1, h3⟩, h.mono (hN x0 (by simp)) h2, h4⟩
      show (cs.drop off).take (a.sz + b.sz) = _
      rw [List.take_add, List.drop_drop]
  frame := fun g hg => by
    rcases List.mem_cons.1 hg with rfl | hg
    · exact h.frame
    · exact k.frame g hg
theorem Opens.struct {α : Type} {ty : Ty α} {ok : Nat → α → Prop} {fs : Array Field} (h : OpensFs P fs.toList 0 ty ok) (hu : P.underlying t = some (.struct fs)) (hs : P.cellsOf t = ty.sz) : Opens P t ty ok where
  size := hs
  mono := h.mono
  run := fun {H enc W fuel cs d ps} k => by
    obtain ⟨xs, n, hf, hx, hl, hxl, hx2⟩ := DataW.trod_struct hu k
    cases hx
    obtain ⟨x, h1, h2⟩ := h.run (N := bulk (DataW.agg (xs.map (·.1)))) (cs := cs) (xs := xs) (by omega) (by simpa using hxl) (fun i f hf => hx2 i f (by simpa using hf)) (fun x hx => by
      simp only [bulk]
      have := bulks_mem (ds := xs.map (·.1)) (List.mem_map.2 ⟨x, hx, rfl⟩)
      omega)
    refine ⟨x, ?_, h2⟩
    rw [List.drop_zero, List.take_of_length_le (by omega)] at h1
    exact h1
  frame := fun {H enc W W' sp fuel cs d ps} k g hsp => by
    cases fuel with
    | zero => simp [DataW.trod] at k
    | succ n =>
      unfold DataW.trod at k ⊢
      rw [hu] at k ⊢
      simp only at k ⊢
      split at k
      · rename_i hl
        rw [if_pos hl]
        rw [Option.map_eq_some_iff] at k
        obtain ⟨xs, hm, hx⟩ := k
        simp only [Prod.mk.injEq] at hx
        obtain ⟨hd, hps⟩ := hx
        have := mapM_frame (f' := fun f => DataW.trod enc P W' 0 sp true n f.type ((cs.drop f.offset).take (P.cellsOf f.type))) hm (fun f hf y hy hfy => h.frame f hf (d := y.1) (ps := y.2) hfy g (fun p hp => hsp p (by
          rw [← hps]
          exact List.mem_flatMap.2 ⟨y, hy, hp⟩)))
        rw [this]
        simp [hd, hps]
      · cases k
/-- So many data of one kind, one behind the other. -/
def Ty.arr {α : Type} (ty : Ty α) (n : Nat) : Ty (List α) where
  sz := n * ty.sz
  rel R xs cs := xs.length = n ∧ Encs ty R xs cs
  mono l h := ⟨h.1, h.2.mono l⟩
  len h := by rw [h.2.len, h.1]
  ones h := h.2.ones
theorem Opens.array {α : Type} {ty : Ty α} {ok : Nat → α → Prop} {n : Nat} (h : Opens P e ty ok) (hu : P.underlying t = some (.array n e)) (hs : P.cellsOf t = n * ty.sz) : Opens P t (ty.arr n) (fun m xs => ∀ x ∈ xs, ok m x) where
  size := hs
  mono := fun l k x hx => h.mono l (k x hx)
  run := fun {H enc W fuel cs d ps} k => by
    obtain ⟨xs, m, hf, hx, hl, hxl, hx2⟩ := DataW.trod_array hu k
    cases hx
    have key : ∀ j, j ≤ n → ∃ ys : List α, ys.length = j ∧ Encs ty (hp W) ys (cs.take (j * ty.sz)) ∧ ∀ y ∈ ys, ok (bulk (DataW.agg (xs.map (·.1)))) y := by
      intro j
      induction j with
      | zero => intro _; exact ⟨[], rfl, by simpa using Encs.nil, by simp⟩
      | succ j ih =>
        intro hj
        obtain ⟨ys, h1, h2, h3⟩ := ih (by omega)
        have h4 := hx2 j (by omega)
        have hjx : j < xs.length := by omega
        rw [List.getElem?_eq_getElem hjx, h.size] at h4
        obtain ⟨y, h5, h6⟩ := h.run (d := (xs[j]).1) (ps := (xs[j]).2) h4
        refine ⟨ys ++ [y], by simp [h1], ?_, fun z hz => ?_⟩
        · rw [Nat.add_mul, Nat.one_mul, List.take_add]
          exact h2.append (Encs.one h5)
        · rcases List.mem_append.1 hz with hz | hz
          · exact h3 z hz
          · simp at hz
            subst hz
            refine h.mono ?_ h6
            simp only [bulk]
            have := bulks_mem (ds := xs.map (·.1)) (List.mem_map.2 ⟨xs[j], List.getElem_mem hjx, rfl⟩)
            omega
    obtain ⟨ys, h1, h2, h3⟩ := key n (Nat.le_refl _)
    rw [List.take_of_length_le (by omega)] at h2
    exact ⟨ys, ⟨h1, h2⟩, h3⟩
  frame := fun {H enc W W' sp fuel cs d ps} k g hsp => by
    cases fuel with
    | zero => simp [DataW.trod] at k
    | succ m =>
      unfold DataW.trod at k ⊢
      rw [hu] at k ⊢
      simp only at k ⊢
      split at k
      · rename_i hl
        rw [if_pos hl]
        rw [Option.map_eq_some_iff] at k
        obtain ⟨xs, hm, hx⟩ := k
        simp only [Prod.mk.injEq] at hx
        obtain ⟨hd, hps⟩ := hx
        have := mapM_frame (f' := fun i => DataW.trod enc P W' 0 sp true m e ((cs.drop (i * P.cellsOf e)).take (P.cellsOf e))) hm (fun f hf y hy hfy => h.frame (d := y.1) (ps := y.2) hfy g (fun p hp => hsp p (by
          rw [← hps]
          exact List.mem_flatMap.2 ⟨y, hy, hp⟩)))
        rw [this]
        simp [hd, hps]
      · cases k
theorem Opens.arg {H : Type} {enc : TypeId × Value → H} {W : World} {v : Value} {d : DataW H} {ps : List MemPlace} {α : Type} {ty : Ty α} {ok : Nat → α → Prop} (ho : Opens P t ty ok) (h : DataW.Trod enc P W 0 allSp true t v d ps) :
    ∃ x, ty.rel (hp W) x v.cells.toList ∧ ok (bulk d) x := by
  obtain ⟨fuel, h⟩ := h
  exact ho.run h
theorem arg_slice {H : Type} {enc : TypeId × Value → H} {W : World} {v : Value} {d : DataW H} {ps : List MemPlace} {α : Type} {ty : Ty α} {ok : Nat → List α → Prop} {r : Reach} {b : Nat} (hu : P.underlying t = some (.slice e)) (hv : Value.okWide P W r b t v)
    (ho : Opens P t (Ty.slice ty) ok) (h : DataW.Trod enc P W 0 allSp true t v d ps) : ∃ xs, RdS ty (hp W) v xs ∧ ok (bulk d) xs := by
  obtain ⟨a, len, cap, rfl⟩ := okWide_slice hu hv
  obtain ⟨xs, ⟨v', e', hr⟩, hk⟩ := ho.arg h
  have : Value.slice a len cap = v' := by simpa [Value.cells] using e'
  subst this
  exact ⟨xs, hr, hk⟩
theorem trodAll_frame {H : Type} {enc : TypeId × Value → H} {W W' : World} {sp : Nat → Bool} : ∀ {ts : List TypeId} {vs : List Value} {ds : List (DataW H)} {ps : List MemPlace}, (∀ t ∈ ts, FrameT P t) → DataW.TrodAll enc P W 0 allSp true ts vs ds ps → Grow W W' →
    (∀ p ∈ ps, sp p.block = true) → DataW.TrodAll enc P W' 0 sp true ts vs ds ps
  | [], [], [], _, _, h, _, _ => h
  | t :: ts, v :: vs, d :: ds, ps, hf, ⟨p, q, ⟨fuel, h1⟩, h2, e⟩, g, hs => by
    subst e
    exact ⟨p, q, ⟨fuel, hf t (by simp) h1 g (fun x hx => hs x (by simp [hx]))⟩, trodAll_frame (fun u hu => hf u (by simp [hu])) h2 g (fun x hx => hs x (by simp [hx])), rfl⟩
  | [], [], _ :: _, _, _, h, _, _ => h.elim
  | [], _ :: _, _, _, _, h, _, _ => h.elim
  | _ :: _, [], _, _, _, h, _, _ => h.elim
  | _ :: _, _ :: _, [], _, _, h, _, _ => h.elim
theorem post_of_below {H : Type} {enc : TypeId × Value → H} {P : Program} {f : Func} {s : ChangeSpec} {apart fresh handsOn again : Bool} {W W' : World} {args : Array Value} {v : Value} {ds gs : List (DataW H)} {before pa pv : List MemPlace}
    (hW : DataW.Whole enc P f.params.toList s.vars apart W args.toList ds gs before)
    (hres : ∀ (b : Nat) (sp : Nat → Bool) (hd : Bool), DataW.TrodAll enc P W' b sp hd f.resultTypes.toList (v.resultList f.resultTypes.size) (s.fn H (ds ++ gs)).results [])
    (hargs : ∀ sp : Nat → Bool, (∀ p ∈ before, sp p.block = true) → DataW.TrodAll enc P W' 0 sp true f.params.toList args.toList (s.fn H (ds ++ gs)).args pa)
    (hvars : ∀ sp : Nat → Bool, (∀ p ∈ before, sp p.block = true) → DataW.TrodVars enc P W' sp s.vars (s.fn H (ds ++ gs)).vars pv)
    (hps : before = pa ++ pv) (hb : Below W.heap.size W W')
    (hok : ∀ (j : Nat) (t : TypeId) (r : Value), f.resultTypes[j]? = some t → (v.resultList f.resultTypes.size)[j]? = some r → Value.okWide P W' .any 0 t r) :
    s.post enc P f apart fresh handsOn again W args v W' := by
  have hold : ∀ p ∈ before, (fun b => decide (b < W.heap.size)) p.block = true := fun p hp => by simpa using hW.lt p hp
  refine ⟨ds, gs, before, [], pa, pv, hW, hres _ _ _, hargs _ hold, hvars _ hold, World.keptBut_mono (fun p hp => ⟨hp, ?_⟩) (hb.frame _), fun _ => ?_⟩
  · rw [hps, List.mem_append] at hp
    exact Or.inr hp
  · have hlt := hW.lt
    obtain ⟨_, _, _, _, _, hz, hn⟩ := hW
    refine ⟨hok, _, _, ([] ++ pa) ++ pv, ⟨[] ++ pa, pv, trodAll_append (hargs _ (fun _ _ => rfl)) (hres _ _ _), hvars _ (fun _ _ => rfl), rfl, ?_, ?_⟩, ?_⟩
    · intro b off hp
      have hp2 : MemPlace.cell b off ∈ before := by rw [hps]; simpa using hp
      have h1 := hz b off hp2
      have h2 : W'.heap[b]? = W.heap[b]? := hb.block b (hlt _ hp2)
      simp only [World.frozen?] at h1 ⊢
      rw [h2]
      exact h1
    · intro ha
      have := hn ha
      rw [hps] at this
      simpa using this
    · intro p hp _
      rw [hps]
      simpa using hp
/-- What a statement asks of a law that returns true and turns nothing. -/
theorem post_true {H : Type} {enc : TypeId × Value → H} {f : Func} {s : ChangeSpec} {W W' : World} {args : Array Value} {ds gs : List (DataW H)} {before : List MemPlace} {tb : TypeId}
    (hW : DataW.Whole enc P f.params.toList s.vars false W args.toList ds gs before) (hv : s.vars = []) (hf : ∀ t ∈ f.params.toList, FrameT P t) (hg : Grow W W') (hr : f.resultTypes = #[tb]) (hb : P.underlying tb = some .bool)
    (hfn : s.fn H (ds ++ gs) = { results := [.lit (.bool true)], args := ds })
    (hok : ∀ (j : Nat) (t : TypeId) (r : Value), f.resultTypes[j]? = some t → ((Value.bool true).resultList f.resultTypes.size)[j]? = some r → Value.okWide P W' .any 0 t r) :
    s.post enc P f false true false false W args (.bool true) W' := by
  have hW' := hW
  obtain ⟨p, q, hA, hV, rfl, hz, hn⟩ := hW
  have hq : q = [] := by
    rw [hv] at hV
    cases gs with
    | nil => exact hV
    | cons g gs => exact hV.elim
  subst hq
  refine post_of_below (pa := p) (pv := []) hW' (fun b sp hd => ?_) (fun sp hs => ?_) (fun sp hs => ?_) rfl hg.below hok
  · rw [hfn, hr]
    exact ⟨[], [], shut_bool hb true, rfl, rfl⟩
  · rw [hfn]
    exact trodAll_frame hf hA hg (fun x hx => hs x (by simpa using hx))
  · rw [hfn, hv]
    rfl
end
end Go.Fx
set_option linter.unusedSimpArgs false
set_option linter.unusedVariables false
set_option linter.unusedSectionVars false
namespace Go.Fx
open Go
section
variable {P : Program} {w : World} {ρ : Operand → Value} {o : Oper} {x y : Operand} {t yt : TypeId}
theorem x_rem_nat {a b : Nat} (ho : o.op = .binOp .rem t x y yt) (hx : ρ x = int (a : Int)) (hy : ρ y = int (b : Int)) (h : b ≠ 0) : (execOp ρ o).run P w = .ok (.value (int ((a % b : Nat) : Int))) w := by
  rw [x_rem (P := P) (w := w) ho hx hy (by omega)]
  congr 3
theorem x_slice {e : TypeId} {lo hi mx : Option Operand} {v v' : Value} (hu : SL P t e) (ho : o.op = .slice t x lo hi mx) (hx : ρ x = v) (h : (Instr.slice t v (lo.map ρ) (hi.map ρ) (mx.map ρ)).run P w = .ok v' w) :
    (execOp ρ o).run P w = .ok (.value v') w := by
  unfold execOp
  simp [ho, hx, Instr.sliceAt, run_underlying hu, h]
theorem run_sliceHi {e : TypeId} {agg : Bool} {sz bytes k len cap : Nat} {z : Value} {a : Option Addr} (hu : SL P t e) (he : TI P e agg sz bytes z) (hk : k ≤ cap) :
    (Instr.slice t (.slice a len cap) none (some (int (k : Int))) none).run P w = .ok (.slice a k cap) w := by
  unfold Instr.slice
  simp only [Sem.run_bind, run_underlying hu, Result.andThen_ok]
  have h1 : (Instr.sliceBound (int (k : Int)) cap .sliceAcap).run P w = .ok k w := by
    unfold Instr.sliceBound
    simp [asIntOf, hk]
  have h2 : (Instr.sliceBounds true len cap none (some (int (k : Int))) none).run P w = .ok (0, k, cap) w := by
    unfold Instr.sliceBounds
    simp [h1]
  simp only [h2, Result.andThen_ok, he.run_size, Sem.run_pure, Sem.run_bind]
  congr 2
  split
  · rfl
  · cases a with
    | none => rfl
    | some a => simp [Addr.add]
variable {α : Type} {ty : Ty α} {R : Hp} {v : Value} {xs : List α}
theorem RdS.take (h : RdS ty R v xs) (k : Nat) (hk : k ≤ xs.length) : ∃ a cap, v = .slice a xs.length cap ∧ xs.length ≤ cap ∧ RdS ty R (.slice a k cap) (xs.take k) := by
  obtain ⟨a, cap, rfl, hc, h⟩ := h
  refine ⟨a, cap, rfl, hc, a, cap, ?_, ?_, fun hne => ?_⟩
  · rw [List.length_take, Nat.min_eq_left hk]
  · rw [List.length_take]; omega
  · have hx : xs ≠ [] := fun e => hne (by rw [e]; simp)
    obtain ⟨b, off, cs, T, fz, ha, hb, he⟩ := h hx
    refine ⟨b, off, cs, T, fz, ha, hb, ?_⟩
    have h2 := he.take k
    have e : (seg cs off (xs.length * ty.sz)).take (k * ty.sz) = seg cs off ((xs.take k).length * ty.sz) := by
      simp only [seg, List.take_take, List.length_take]
      congr 1
      rw [Nat.min_eq_left hk, Nat.min_eq_left (Nat.mul_le_mul_right _ hk)]
    rw [e] at h2
    exact h2
end
end Go.Fx
set_option linter.unusedSimpArgs false
set_option linter.unusedVariables false
set_option linter.unusedSectionVars false
namespace Go.Fx
open Go
section
variable {P : Program} {w : World} {ρ : Operand → Value} {o : Oper} {x y : Operand} {t yt : TypeId}
theorem x_strcat {a b : ByteArray} (ho : o.op = .binOp .add t x y yt) (hx : ρ x = .string a) (hy : ρ y = .string b) (h : a.size + b.size ≤ 4611686018427387904) : (execOp ρ o).run P w = .ok (.value (.string (a ++ b))) w := by
  unfold execOp
  have h2 : ¬ ((a.size + b.size : Nat) : Int) > IntKind.i64.max := by
    have : IntKind.i64.max = 9223372036854775807 := by decide
    omega
  simp only [ho, hx, hy, eqGuard, binOp, Op.stringOp, Sem.run_bind, Sem.run_pure, Result.andThen_ok, if_true]
  simp [h2]
  omega
theorem x_min {t1 t2 : TypeId} {a b : Int} (ho : o.op = .call { callee := .builtin .min, args := #[x, y], argTypes := #[t1, t2] }) (hx : ρ x = int a) (hy : ρ y = int b) :
    (execOp ρ o).run P w = .ok (.value (int (min a b))) w := by
  unfold execOp
  simp only [ho, resolve, hx, hy, invoke, builtin, Builtin.min_, Sem.run_bind, Sem.run_pure, Result.andThen_ok, List.map_toArray, List.map_cons, List.map_nil]
  simp [Builtin.min2]
  omega
end
theorem Encs.strs {R : Hp} {xs : List ByteArray} {cs : List Value} (h : Encs Ty.str R xs cs) : cs = xs.map Value.string := by
  induction h with
  | nil => rfl
  | cons hx _ ih =>
    have e : _ = [_] := hx
    subst e
    rw [ih]
    rfl
/-- A slice of strings of one's own: where its cells are. -/
theorem OwnL.strCells {T : Nat} {R c : Hp} {v : Value} {xs : List ByteArray} {w : World} (h : OwnL Ty.str T R v xs c) (hc : Le c (hp w)) (hne : 0 < xs.length) :
    ∃ b cap, v = .slice (some ⟨b, 0, none⟩) xs.length cap ∧ xs.length ≤ cap ∧ b < w.heap.size ∧ ∀ (j : Nat) x, xs[j]? = some x → w.cell? ⟨b, 0 + j, none⟩ = some (.string x) := by
  obtain ⟨b, cap, N, rfl, hcap, ⟨cs, rest, rfl, he, hN⟩, _⟩ := h.row hne
  have hb : w.heap[b]? = some (.cells (cs ++ rest).toArray T (0, 0)) := hc b _ (one_self _ _)
  refine ⟨b, cap, rfl, hcap, hp_lt (by rw [show hp w b = _ from hb]; simp), fun j x hj => ?_⟩
  have hl := he.len
  have hj' := (List.getElem?_eq_some_iff.1 hj).1
  have e := he.strs
  subst e
  rw [cell_at hb]
  simp only [Nat.zero_add, List.getElem?_toArray]
  rw [List.getElem?_append_left (by simpa using hj'), List.getElem?_map, hj]
  rfl
end Go.Fx
namespace Go.Fx
open Go Go.Instr
theorem run_storeW {P : Program} {w0 w : World} {R0 R : Hp} {L0 Lc : List Hp} (hst : Step w0 R0 L0 w R Lc) {t : TypeId} {agg : Bool} {sz bytes : Nat} {z v : Value} {b off : Nat} {cs cs' : Array Value} {T : TypeId} (i : Nat) {L' : List Hp} (ti : TI P t agg sz bytes z)
    (hi : Lc[i]? = some (one b (.cells cs T (0, 0)))) (hs : v.cells.size = sz) (h1 : v.cells.toList.all (·.oneCell') = true) (hf : Nat.ble (off + sz) cs.size = true)
    (hc : put cs off v.cells.toList = cs') (hL : Lc.set i (one b (.cells cs' T (0, 0))) = L') : ∃ w', (storeVar t ⟨b, off, none⟩ v).run P w = .ok () w' ∧ Step w0 R0 L0 w' R L' := by
  subst hc
  have hr := run_storeVar (P := P) ti (hst.blk hi) hs h1 (Nat.le_of_ble_eq_true hf)
  exact ⟨_, hr, hst.set hi _ hL⟩
end Go.Fx
set_option linter.unusedSimpArgs false
set_option linter.unusedVariables false
set_option linter.unusedSectionVars false
namespace Go.Fx
open Go
section
variable {P : Program} {n : Nat} {Q : QT} {σ : Fr} {w w0 : World} {R0 R : Hp} {L0 Lc : List Hp}
/-- As W_rangeFunc, where what a round is given is boxed. -/
theorem W_rangeFuncB {α : Type} {g : Operand} {ps : Array Nat} {assign body : Code} {gf : Nat} {lb : Array Value} {N : Nat} {S Sp : List α → Prop} {enc : α → Array Value} {Lit Lb : List Hp} {post : Hp → List Hp → Prop}
    (hg : ev σ g = .func (.func gf) #[] lb) (eg : Ent P gf) (hst : Step w0 R0 L0 w R (Lit ++ Lb)) (hgives : Gives P gf lb N S Sp enc R Lit post)
    (J : List α → Hp → List Hp → Prop) (Jx : Code → List α → Hp → List Hp → Prop) (hJ : ∀ pre R1 R2 L1, Le R1 R2 → J pre R1 L1 → J pre R2 L1) (hJx : ∀ c pre R1 R2 L1, Le R1 R2 → Jx c pre R1 L1 → Jx c pre R2 L1)
    (h0 : J [] R Lb) (hps : (ps.toList.all fun p => Nat.blt p n) = true) (hsz : ∀ x, (enc x).size = ps.size)
    (hround : ∀ l pre x w1 R1 L1, J pre R1 L1 → Le R R1 → pre.length < N → Sats w1 R1 L1 →
      W (some l) P n assign (thenQ (fun τ w2 => ∃ L2, Step w1 R1 L1 w2 R1 L2 ∧ ∀ w3, Sats w3 R1 L2 → W (some l) P n body (roundQ w3 R1 L2 J Jx (pre ++ [x])) τ w3) (fun _ _ _ => False)) (setp (clr σ) ps.toList (enc x).toList) w1)
    (hdone : ∀ D xs w' R' Lit' Lb', S xs → J xs R' Lb' → post R' Lit' → Le R R' → Step w0 R0 L0 w' R' (one D (.deferred (some [])) :: (Lit' ++ Lb')) → Q .normal (mark D σ) w')
    (hstop : ∀ D c pre w' R' Lit' Lb', Sp pre → Jx c pre R' Lb' → post R' Lit' → Le R R' → Step w0 R0 L0 w' R' (one D (.deferred (some [])) :: (Lit' ++ Lb')) → W none P n c Q (mark D σ) w') :
    W none P n (.rangeFunc g ps assign body) Q σ w := by
  refine ⟨fun a ha => wpIn_rangeFunc fun fn _ => ?_⟩
  obtain ⟨rec, hrec⟩ : ∃ rec : LoopState → Option Code → Loop, rec = fun st pe => { state := st, pending := pe, fn, tmps := a.tmps, params := ps, assign, body, defers := w.heap.size } := ⟨_, rfl⟩
  obtain ⟨W1, hW1⟩ : ∃ W1, (w.alloc (.deferred (some []))).alloc (.loop (rec .ready none)) = W1 := ⟨_, rfl⟩
  have hst1 : Step w0 R0 L0 W1 R (one (w.heap.size + 1) (.loop (rec .ready none)) :: one w.heap.size (.deferred (some [])) :: (Lit ++ Lb)) := by
    have h1 := (hst.push (.deferred (some []))).push (.loop (rec .ready none))
    rw [show (push w (.deferred (some []))).heap.size = w.heap.size + 1 by simp [push]] at h1
    rw [← hW1]
    exact h1
  refine ⟨w.heap.size + 1, [{ target := .collected w.heap.size, args := #[] }], W1, { target := .fn (.func gf) lb, args := #[.func (.yield (w.heap.size + 1)) #[] #[]] }, W1, gf,
    #[.func (.yield (w.heap.size + 1)) #[] #[]] ++ lb, W1, ?_, ?_, fun _ _ => trivial, ?_, (fun h => by cases h), ?_⟩
  · rw [← hW1, hrec]; exact run_enterLoop_outer _ _ _ _ _
  · simp only [resolve, ha.eval, hg]
    simp [go_sem, ev]
  · have := eg (#[.func (.yield (w.heap.size + 1)) #[] #[]] ++ lb) W1
    simp [invoke, go_sem, this]
  · generalize hl : w.heap.size + 1 = l at *
    generalize hD : w.heap.size = D at *
    have hperm : Step w0 R0 L0 W1 R (Lit ++ (one l (.loop (rec .ready none)) :: one D (.deferred (some [])) :: Lb)) := hst1.perm (by
      have := List.perm_append_comm (l₁ := [one l (.loop (rec .ready none)), one D (.deferred (some []))]) (l₂ := Lit)
      simpa using this.append_right Lb)
    refine calls_rof.2 ((hgives l (fun pre R1 L1 => ∃ Lq, L1 = one l (.loop (rec .ready none)) :: one D (.deferred (some [])) :: Lq ∧ J pre R1 Lq)
      (fun pre R1 L1 => ∃ c Lq, L1 = one l (.loop (rec .done (some c))) :: one D (.deferred (some [])) :: Lq ∧ Jx c pre R1 Lq) W1 (one l (.loop (rec .ready none)) :: one D (.deferred (some [])) :: Lb) hperm.sats
      (fun pre R1 R2 L1 hle ⟨Lq, e, h⟩ => ⟨Lq, e, hJ _ _ _ _ hle h⟩) (fun pre R1 R2 L1 hle ⟨c, Lq, e, h⟩ => ⟨c, Lq, e, hJx _ _ _ _ _ hle h⟩) ?_ ⟨Lb, rfl, h0⟩).mono ?_)
    · rintro pre x w1 R1 L1 ⟨Lq, rfl, hJ1⟩ hle hs hlen
      have hs1 := Step.refl hs
      have hb1 := hs1.blk (i := 0) rfl
      have hpar : (rec .ready none).params = ps := by rw [hrec]
      have htm : (rec .ready none).tmps = a.tmps := by rw [hrec]
      refine ⟨_, _, _, _, run_yield hb1 (by rw [hpar]; exact hsz x), roundIn_of_wpIn (F := rof none) trivial ?_⟩
      rw [show (rec .ready none).assign = assign by rw [hrec], show (rec .ready none).body = body by rw [hrec], htm, hpar]
      have hrel := rel_setp (n := n) ps.toList (enc x).toList _ _ hps ha.clr
      have hzip : (ps.zip (enc x)).foldl (fun tmps (t, v) => tmps.setIfInBounds t v) a.tmps = (ps.toList.zip (enc x).toList).foldl (fun t (p, v) => t.setIfInBounds p v) a.tmps := by
        rw [← Array.foldl_toList, Array.toList_zip]
      rw [hzip]
      refine wpIn_mono ((hround l pre x w1 R1 Lq hJ1 hle hlen hs.tail2).run _ hrel) ?_
      rintro e a1 w2 ⟨τ, hτ, q⟩
      cases e with
      | normal =>
        obtain ⟨L2, k2, hbody⟩ := q
        have hs1' := (hs1.toEnd.call k2).fromEnd
        refine ⟨_, run_beginRound (hs1'.blk (i := 0) rfl) (by rw [hrec]), ?_⟩
        have hs2 := (hs1'.set0 (.loop { rec .ready none with state := .busy }))
        refine wpIn_mono ((hbody _ hs2.sats.tail2).run _ hτ) ?_
        rintro e a2 w3 ⟨τ2, _, q2⟩
        have fin : ∀ {R' : Hp} {L' : List Hp} (jump : Option Code), Step (setB w2 l (.loop { rec .ready none with state := .busy })) R1 L2 w3 R' L' →
            ∃ w4, (Instr.endRound l jump).run P w3 = .ok (.bool jump.isNone) w4 ∧ Step w1 R1 (one l (.loop (rec .ready none)) :: one D (.deferred (some [])) :: Lq) w4 R' (one l (.loop (rec (if jump.isNone then .ready else .done) jump)) :: one D (.deferred (some [])) :: L') := by
          intro R' L' jump k
          have hs3 := (hs2.toEnd.call k).fromEnd
          refine ⟨_, run_endRound jump (hs3.blk (i := 0) rfl), ?_⟩
          have := hs3.set0 (.loop { { rec .ready none with state := .busy } with state := if jump.isNone then .ready else .done, pending := jump })
          rw [hrec] at this ⊢
          exact this
        cases e with
        | normal =>
          obtain ⟨R', L', k, hj⟩ := q2
          obtain ⟨w4, hr, hs4⟩ := fin none k
          exact ⟨_, w4, hr, true, R', _, rfl, hs4, ⟨L', rfl, hj⟩⟩
        | ret =>
          obtain ⟨R', L', k, hj⟩ := q2
          obtain ⟨w4, hr, hs4⟩ := fin (some .ret) k
          exact ⟨_, w4, hr, false, R', _, rfl, hs4, ⟨.ret, L', rfl, hj⟩⟩
        | exit id =>
          obtain ⟨R', L', k, hj⟩ := q2
          obtain ⟨w4, hr, hs4⟩ := fin (some (.exit id)) k
          exact ⟨_, w4, hr, false, R', _, rfl, hs4, ⟨.exit id, L', rfl, hj⟩⟩
        | _ => exact q2.elim
      | _ => exact q.elim
    · rintro e w2 ⟨⟨v, rfl⟩, R', Lit', Lb', hstep, hpost, hor⟩
      have hle : Le R R' := hstep.rle
      have hfull : Step w0 R0 L0 w2 R' (Lit' ++ Lb') := by
        have := Step.call (Lb := []) (by simpa using hperm) hstep
        simpa using this
      have fin : ∀ {r : Loop} {Lq : List Hp}, Lb' = one l (.loop r) :: one D (.deferred (some [])) :: Lq → r.state ≠ .busy → ∃ w3, (Instr.endLoop l).run P w2 = .ok r.pending w3 ∧ Step w0 R0 L0 w3 R' (one D (.deferred (some [])) :: (Lit' ++ Lq)) := by
        intro r Lq e hb
        subst e
        have h1 : Step w0 R0 L0 w2 R' (one l (.loop r) :: one D (.deferred (some [])) :: (Lit' ++ Lq)) := hfull.perm (by
          have := List.perm_append_comm (l₁ := Lit') (l₂ := [one l (.loop r), one D (.deferred (some []))])
          simpa using this.append_right Lq)
        exact ⟨_, run_endLoop (h1.blk (i := 0) rfl) hb, (h1.set0 (.loop { r with state := .exhausted })).drop⟩
      rcases hor with ⟨xs, hS, Lq, e, hj⟩ | ⟨pre, hSp, c, Lq, e, hj⟩
      · obtain ⟨w3, hr, hs3⟩ := fin e (by rw [hrec]; simp)
        refine ⟨none, w3, by rw [hr, hrec], ?_⟩
        exact ⟨_, ha.mark D, hdone D xs w3 R' Lit' Lq hS hj hpost hle hs3⟩
      · obtain ⟨w3, hr, hs3⟩ := fin e (by rw [hrec]; simp)
        refine ⟨some c, w3, by rw [hr, hrec], ?_⟩
        exact (hstop D c pre w3 R' Lit' Lq hSp hj hpost hle hs3).run _ (ha.mark D)
end
end Go.Fx
set_option linter.unusedSimpArgs false
set_option linter.unusedVariables false
set_option linter.unusedSectionVars false
namespace Go.Fx
open Go
section
variable {P : Program} {w w0 : World} {R0 R : Hp} {L0 Lr : List Hp}
theorem run_append_str {t u ty e : TypeId} {v : Value} {n : Nat} {cells : List Value} {c : Hp} {agg : Bool} (hu : SL P t e) (hs : P.underlying u = some .string) (he : TI P e agg 1 1 (.int .u8 0))
    (ho : OwnS e 1 v n cells c) (hst : Step w0 R0 L0 w R (c :: Lr)) (s : ByteArray) (hroom : n + s.size ≤ 140737488355328) :
    ∃ v' c' w', (Builtin.append_ #[t, u] ty #[v, .string s]).run P w = .ok v' w' ∧ OwnS e 1 v' (n + s.size) (cells ++ Lib.strCells s) c' ∧ Step w0 R0 L0 w' R (c' :: Lr) := by
  obtain ⟨i, hi, his, hib, hiz⟩ := he.run_info w
  have hi' : P.info? e = some i := by
    cases hq : P.info? e with
    | none => simp [typeInfo, hq] at hi
    | some j => simp [typeInfo, hq] at hi; rw [hi]
  have hcl := ho.len
  have hsl := Lib.strCells_length s
  have hmax : n + s.size ≤ maxLen := by simp only [maxLen]; omega
  have hnew : ∀ old, ∃ nc row, n + s.size ≤ nc ∧ nc ≤ maxLen ∧ nc = grownCap w (n + s.size) old e ∧ row = (cells.toArray ++ (Lib.strCells s).toArray ++ Builtin.zeroCells (Value.int .u8 0).cells (nc - (n + s.size))) ∧
      OwnS e 1 (.slice (some ⟨w.heap.size, 0, none⟩) (n + s.size) nc) (n + s.size) (cells ++ Lib.strCells s) (one w.heap.size (.cells row e (0, 0))) ∧
      Step w0 R0 L0 (push (draws w (w.drawn + 1)) (.cells row e (0, 0))) R (one w.heap.size (.cells row e (0, 0)) :: Lr) := by
    intro old
    have hge := grownCap_ge w (n + s.size) old e
    refine ⟨_, _, hge, grownCap_le_maxLen w (n + s.size) old e hmax, rfl, rfl, .inr ⟨_, _, _, rfl, rfl, ?_, hge, ?_, grownCap_le_maxLen w (n + s.size) old e hmax⟩, ((hst.drop).draws (w.drawn + 1)).push _⟩
    · simp only [Array.toList_append, List.toList_toArray]
      have e2 : (n + s.size) * 1 = (cells ++ Lib.strCells s).length := by rw [List.length_append, hcl, hsl]; omega
      rw [e2, List.take_left]
    · have hz1 : (Value.int IntKind.u8 0).cells.size = 1 := rfl
      simp only [Array.size_append, List.size_toArray, size_zeroCells, hz1, hcl, hsl]
      omega
  rcases ho with ⟨rfl, rfl, rfl, rfl⟩ | ⟨b, cap, cs, rfl, rfl, rfl, h2, h3, h4⟩
  · by_cases hm : s.size = 0
    · have hn : Lib.strCells s = [] := List.eq_nil_of_length_eq_zero (by rw [hsl]; exact hm)
      refine ⟨.slice none 0 0, non, w, ?_, by rw [hm, hn]; exact OwnS.empty e 1, hst⟩
      have hf := Lib.run_firstCells_string (P := P) w 1 s
      rw [hm] at hf
      simp [Builtin.append_, run_underlying hu, run_underlying hs, sizeOf, typeInfo, hi', his, Builtin.lenOf, hm, hf]
    · obtain ⟨nc, row, _, _, hnc, hrow, ho', hst'⟩ := hnew 0
      have hr := run_append_nil_string (P := P) w t u ty e i (.int .u8 0) hu hs hi' hiz s (by omega) (by omega) (by rw [hib]; omega)
      have e1 : (s.data.map fun b => Value.int .u8 b.toNat) = (Lib.strCells s).toArray := by
        apply Array.ext'
        simp [Lib.strCells]
      rw [e1] at hr
      refine ⟨_, _, _, ?_, ho', hst'⟩
      rw [hr, hrow, hnc]
      simp only [Nat.zero_add, List.nil_append]
      congr 1
      simp only [push, draws, World.alloc, World.drew]
      congr 3
      simp
  · have hblk : w.heap[b]? = some (.cells cs e (0, 0)) := hst.blk (i := 0) rfl
    by_cases hfit : n + s.size ≤ cap
    · have hr := Lib.run_append_room_string (P := P) w t u ty e i hu hs hi' his b n cap cs hblk s hfit (by omega)
      rw [setRow_setB hblk] at hr
      refine ⟨_, _, _, hr, .inr ⟨b, cap, _, rfl, rfl, ?_, hfit, ?_, h4⟩, hst.set0 _⟩
      · have e2 : (n + s.size) * 1 = (cs.toList.take (n * 1) ++ Lib.strCells s).length := by rw [List.length_append, hcl, hsl]; omega
        rw [List.toList_toArray, e2, Nat.mul_one, List.take_left]
      · simp only [List.size_toArray, List.length_append, List.length_take, List.length_drop, Array.length_toList, hsl]
        omega
    · obtain ⟨nc, row, _, _, hnc, hrow, ho', hst'⟩ := hnew cap
      have holds : ∀ j u, (cs.toList.take (n * 1))[j]? = some u → w.cell? ((⟨b, 0, none⟩ : Addr).add j) = some u := by
        intro j u hj
        have hlt : j < n * 1 := by
          have := (List.getElem?_eq_some_iff.1 hj).1
          simp at this
          omega
        rw [List.getElem?_take, if_pos hlt] at hj
        rw [add_zero_spot, cell_at hblk, Nat.zero_add]
        simpa using hj
      have hr := Lib.run_append_grow_string (P := P) w t u ty e i (.int .u8 0) hu hs hi' hiz ⟨b, 0, none⟩ n cap (cs.toList.take (n * 1)) (by rw [his]; exact hcl) holds s (by omega) (by omega)
        (by rw [hib]; exact growslice_fits (by omega) (by omega))
      refine ⟨_, _, _, ?_, ho', hst'⟩
      rw [hr, hrow, hnc]
      rfl
variable {ro : Option Nat} {n : Nat} {Q : QT} {σ : Fr} {ops : Array Oper} {rest : List Oper} {o : Oper} {d : Nat} {Lc : List Hp}
theorem L_appendStr (hst : Step w0 R0 L0 w R Lc) {t u e : TypeId} {v : Value} {agg : Bool} {x y : Operand} {m : Nat} {cells : List Value} {c : Hp} {L' : List Hp} {s : ByteArray} (i : Nat)
    (hg : o.guard = none) (hd : o.dst = some d) (hn : Nat.blt d n = true) (ho : o.op = .call { callee := .builtin .append, args := #[x, y], argTypes := #[t, u] }) (hx : ev σ x = v) (hy : ev σ y = .string s)
    (hu : SL P t e) (hs : P.underlying u = some .string) (he : TI P e agg 1 1 (.int .u8 0)) (hi : Lc[i]? = some c) (hL : Lc.eraseIdx i = L') (how : OwnS e 1 v m cells c) (hroom : m + s.size ≤ 140737488355328)
    (k : ∀ v' c' w', OwnS e 1 v' (m + s.size) (cells ++ Lib.strCells s) c' → Step w0 R0 L0 w' R (c' :: L') → L ro P n ops rest Q (upd σ d v') w') : L ro P n ops (o :: rest) Q σ w := by
  obtain ⟨v', c', w', hr, ho', hst'⟩ := run_append_str (ty := o.type) hu hs he how (hst.front i hi hL) s hroom
  refine L_val hg hd hn ?_ (k v' c' w' ho' hst')
  unfold execOp
  simp only [ho, resolve, invoke, builtin, Sem.run_bind, Sem.run_pure, Result.andThen_ok, List.map_toArray, List.map_cons, List.map_nil, hx, hy, hr]
end
end Go.Fx
namespace Go.Fx
open Go
end Go.Fx
set_option linter.unusedSimpArgs false
set_option linter.unusedVariables false
set_option linter.unusedSectionVars false
namespace Go.Fx.YtjpdhfhiimbpgaaGreatDoor
open Go Go.Fx Go.Proofs
set_option maxRecDepth 20000
abbrev Str := ByteArray
instance decStr : DecidableEq ByteArray := fun a b => decidable_of_iff (a.data.toList = b.data.toList) ⟨fun h => by
  obtain ⟨a⟩ := a
  obtain ⟨b⟩ := b
  exact congrArg ByteArray.mk (Array.toList_inj.1 h), fun h => by rw [h]⟩
instance decMem (a : ByteArray) (l : List ByteArray) : Decidable (a ∈ l) := decidable_of_iff (l.any (fun x => decide (x = a)) = true) (by simp [List.any_eq_true])
theorem str_eq (a b : ByteArray) : (a.toList == b.toList) = decide (a = b) := by
  rw [Bool.eq_iff_iff]
  simp only [beq_iff_eq, decide_eq_true_eq]
  constructor
  · intro e
    rw [ByteArray.toList_eq, ByteArray.toList_eq] at e
    obtain ⟨a⟩ := a
    obtain ⟨b⟩ := b
    exact congrArg ByteArray.mk (Array.toList_inj.1 e)
  · intro e; rw [e]
structure Nd where
  cls : Int
  ali : Int
  names : List Str
abbrev Stp := Int × Str
structure TS where
  nodes : List Nd
  roots : List Int
  next : List (Stp × Int)
/-- From k, d aliases lead to c. -/
inductive Cn (l : List Nd) : Nat → Nat → Nat → Prop
  | here {k : Nat} (hk : k < l.length) (h : l[k].ali < 0) : Cn l 0 k k
  | step {d k a c : Nat} (hk : k < l.length) (h : l[k].ali = (a : Int)) (hc : Cn l d a c) : Cn l (d + 1) k c
theorem Cn.fst {l : List Nd} {d k c : Nat} (h : Cn l d k c) : k < l.length := by cases h <;> assumption
theorem Cn.snd {l : List Nd} {d k c : Nat} (h : Cn l d k c) : ∃ hc : c < l.length, l[c].ali < 0 := by
  induction h with
  | here hk h => exact ⟨hk, h⟩
  | step hk h hc ih => exact ih
theorem Cn.uniq {l : List Nd} {d d2 k c c2 : Nat} (h : Cn l d k c) (h2 : Cn l d2 k c2) : d = d2 ∧ c = c2 := by
  induction h generalizing d2 with
  | here hk h =>
    cases h2 with
    | here => exact ⟨rfl, rfl⟩
    | step hk2 h3 _ => omega
  | step hk h hc ih =>
    cases h2 with
    | here hk2 h3 => omega
    | step hk2 h3 hc2 =>
      rw [h] at h3
      have e := Int.ofNat.inj h3
      subst e
      obtain ⟨h5, h6⟩ := ih hc2
      exact ⟨by omega, h6⟩
theorem Cn.idem {l : List Nd} {d k c : Nat} (h : Cn l d k c) : Cn l 0 c c := by
  obtain ⟨h1, h2⟩ := h.snd
  exact .here h1 h2
theorem Cn.append {l : List Nd} {d k c : Nat} (h : Cn l d k c) (m : List Nd) : Cn (l ++ m) d k c := by
  induction h with
  | here hk h => exact .here (by rw [List.length_append]; omega) (by rw [List.getElem_append_left hk]; exact h)
  | step hk h hc ih => exact .step (by rw [List.length_append]; omega) (by rw [List.getElem_append_left hk]; exact h) ih
theorem Cn.last (l : List Nd) (x : Nd) (h : x.ali < 0) : Cn (l ++ [x]) 0 l.length l.length := .here (by simp) (by simpa using h)
theorem Cn.at {l : List Nd} {d k c : Nat} (h : Cn l d k c) : ∀ j, j ≤ d → ∃ k', Cn l j k' c := by
  induction h with
  | here hk h => intro j hj; obtain rfl : j = 0 := by omega
                 exact ⟨_, .here hk h⟩
  | @step d k a c hk h hc ih =>
    intro j hj
    by_cases e : j = d + 1
    · subst e; exact ⟨_, .step hk h hc⟩
    · exact ih j (by omega)
theorem Cn.short {l : List Nd} {d k c : Nat} (h : Cn l d k c) : d < l.length := by
  have hf : ∀ j : Nat, ∃ k', j ≤ d → Cn l j k' c := fun j => by
    by_cases hj : j ≤ d
    · obtain ⟨k', hk'⟩ := h.at j hj
      exact ⟨k', fun _ => hk'⟩
    · exact ⟨0, fun q => absurd q hj⟩
  obtain ⟨f, hf⟩ := Classical.axiomOfChoice hf
  have h1 : ((List.range (d + 1)).map f).Nodup := by
    refine List.pairwise_map.2 ((List.nodup_range (n := d + 1)).imp_of_mem fun {a b} ha hb hne e => hne ?_)
    have ha' := hf a (by have := List.mem_range.1 ha; omega)
    have hb' := hf b (by have := List.mem_range.1 hb; omega)
    rw [e] at ha'
    exact (ha'.uniq hb').1
  have h2 : (List.range (d + 1)).map f ⊆ List.range l.length := fun x hx => by
    obtain ⟨j, hj, rfl⟩ := List.mem_map.1 hx
    exact List.mem_range.2 (hf j (by have := List.mem_range.1 hj; omega)).fst
  have := List.Nodup.length_le_of_subset h1 h2
  simp only [List.length_map, List.length_range] at this
  omega
theorem Cn.set {l : List Nd} {d k c x y : Nat} (h : Cn l d k c) (hx : Cn l 0 x x) (hy : Cn l 0 y y) (hne : x ≠ y) (hly : y < l.length) : ∃ d', Cn (l.set y { l[y] with ali := (x : Int) }) d' k (if c = y then x else c) := by
  have hx1 := hx.snd
  have hy1 := hy.snd
  have hx2 : Cn (l.set y { l[y] with ali := (x : Int) }) 0 x x := by
    obtain ⟨h1, h2⟩ := hx1
    exact .here (by rw [List.length_set]; exact h1) (by rw [List.getElem_set_ne (by omega)]; exact h2)
  induction h with
  | @here k hk h =>
    by_cases e : k = y
    · subst e
      rw [if_pos rfl]
      exact ⟨_, .step (a := x) (by rw [List.length_set]; exact hk) (by rw [List.getElem_set_self]) hx2⟩
    · rw [if_neg e]
      exact ⟨_, .here (by rw [List.length_set]; exact hk) (by rw [List.getElem_set_ne (fun q => e q.symm)]; exact h)⟩
  | @step d k a c hk h hc ih =>
    have e : k ≠ y := by
      rintro rfl
      obtain ⟨h1, h2⟩ := hy1
      omega
    obtain ⟨d', ih⟩ := ih
    exact ⟨_, .step (by rw [List.length_set]; exact hk) (by rw [List.getElem_set_ne (fun q => e q.symm)]; exact h) ih⟩
def findC (l : List Nd) : Nat → Nat → Option Nat
  | 0, _ => none
  | f + 1, k => match l[k]? with
    | none => none
    | some x => if x.ali < 0 then some k else findC l f x.ali.toNat
theorem Cn.find {l : List Nd} {d k c : Nat} (h : Cn l d k c) : ∀ f, d < f → findC l f k = some c := by
  induction h with
  | here hk h => intro f hf; obtain ⟨f, rfl⟩ : ∃ g, f = g + 1 := ⟨f - 1, by omega⟩; unfold findC; rw [List.getElem?_eq_getElem hk]; simp only; rw [if_pos h]
  | @step d k a c hk h hc ih =>
    intro f hf
    obtain ⟨f, rfl⟩ : ∃ g, f = g + 1 := ⟨f - 1, by omega⟩
    unfold findC; rw [List.getElem?_eq_getElem hk]; simp only; rw [if_neg (by omega), h, Int.toNat_natCast]
    exact ih f (by omega)
/-- The canonical shape of a shape. -/
def cn (l : List Nd) (k : Nat) : Nat := (findC l l.length k).getD k
theorem cn_eq {l : List Nd} {d k c : Nat} (h : Cn l d k c) : cn l k = c := by
  unfold cn
  rw [h.find _ h.short]
  rfl
/-- All shapes have a canonical one. -/
def Cans (l : List Nd) : Prop := ∀ k, k < l.length → ∃ d c, Cn l d k c
theorem Cans.has {l : List Nd} (h : Cans l) {k : Nat} (hk : k < l.length) : ∃ d, Cn l d k (cn l k) := by
  obtain ⟨d, c, hc⟩ := h k hk
  rw [cn_eq hc]
  exact ⟨d, hc⟩
theorem Cans.lt {l : List Nd} (h : Cans l) {k : Nat} (hk : k < l.length) : cn l k < l.length := by
  obtain ⟨d, hc⟩ := h.has hk
  exact hc.snd.1
theorem Cans.idem {l : List Nd} (h : Cans l) {k : Nat} (hk : k < l.length) : cn l (cn l k) = cn l k := by
  obtain ⟨d, hc⟩ := h.has hk
  exact cn_eq hc.idem
theorem Cans.app {l : List Nd} (h : Cans l) (x : Nd) (hx : x.ali < 0) : Cans (l ++ [x]) := fun k hk => by
  rw [List.length_append, List.length_singleton] at hk
  by_cases e : k < l.length
  · obtain ⟨d, c, hc⟩ := h k e
    exact ⟨d, c, hc.append _⟩
  · obtain rfl : k = l.length := by omega
    exact ⟨_, _, Cn.last l x hx⟩
theorem Cans.cn_app {l : List Nd} (h : Cans l) (x : Nd) {k : Nat} (hk : k < l.length) : Fx.YtjpdhfhiimbpgaaGreatDoor.cn (l ++ [x]) k = Fx.YtjpdhfhiimbpgaaGreatDoor.cn l k := by
  obtain ⟨d, hc⟩ := h.has hk
  exact cn_eq (hc.append _)
/-- The canonical shape of what may be no shape. -/
def canon (l : List Nd) (k : Int) : Int := if 0 ≤ k ∧ k < (l.length : Int) then (cn l k.toNat : Int) else -1
theorem canon_in {l : List Nd} {d k c : Nat} (h : Cn l d k c) : canon l (k : Int) = (c : Int) := by
  have := h.fst
  unfold canon
  rw [if_pos (by omega), Int.toNat_natCast, cn_eq h]
theorem canon_nat {l : List Nd} {k : Nat} (h : k < l.length) : canon l (k : Int) = (cn l k : Int) := by
  unfold canon
  rw [if_pos (by omega), Int.toNat_natCast]
theorem canon_out {l : List Nd} {k : Int} (h : ¬ (0 ≤ k ∧ k < (l.length : Int))) : canon l k = -1 := by
  unfold canon; rw [if_neg h]
def eStr : Str := ⟨#[]⟩
def nd0 : Nd := ⟨0, 0, []⟩
def TS.nd (s : TS) (k : Nat) : Nd := s.nodes.getD k nd0
def TS.there (s : TS) (k : Int) : Bool := decide (0 ≤ k ∧ k < (s.nodes.length : Int))
def TS.canon (s : TS) (k : Int) : Int := Fx.YtjpdhfhiimbpgaaGreatDoor.canon s.nodes k
def TS.addN (s : TS) (cls : Int) (names : List Str) : TS := { s with nodes := s.nodes ++ [⟨cls, -1, names⟩] }
def TS.add (s : TS) (k : Int) (name : Str) : Int × Int × TS :=
  if s.there k = false then (0, 1, s)
  else if name = eStr ∨ name ∈ (s.nd (cn s.nodes k.toNat)).names then (0, 13, s)
  else match AL.get s.next ((cn s.nodes k.toNat : Int), name) with
    | some to => (s.canon to, 0, s)
    | none => if 64 ≤ (s.nd (cn s.nodes k.toNat)).names.length ∨ 200 ≤ s.nodes.length then (0, 2, s)
      else ((s.nodes.length : Int), 0, { (s.addN (s.nd (cn s.nodes k.toNat)).cls ((s.nd (cn s.nodes k.toNat)).names ++ [name])) with next := AL.set s.next ((cn s.nodes k.toNat : Int), name) (s.nodes.length : Int) })
def sameN (a b : Nd) : Bool := decide (a.cls = b.cls ∧ a.names = b.names)
def TS.find (s : TS) (cls : Int) (names : List Str) : Option Nat := s.nodes.findIdx? fun x => decide (x.ali < 0) && sameN x ⟨cls, 0, names⟩
def setAli (l : List Nd) (y : Nat) (x : Int) : List Nd := l.set y { (l.getD y nd0) with ali := x }
def TS.merge (s : TS) (a b : Int) : Int × TS :=
  if s.there a = true ∧ s.there b = true ∧ sameN (s.nd a.toNat) (s.nd b.toNat) = true then
    (0, if cn s.nodes a.toNat = cn s.nodes b.toNat then s else { s with nodes := setAli s.nodes (cn s.nodes b.toNat) (cn s.nodes a.toNat : Int) })
  else (1, s)
/-- What leads to c leads to n. -/
def redir (l : List Nd) (c n : Int) (k : Int) : Int := if Fx.YtjpdhfhiimbpgaaGreatDoor.canon l k = c then n else k
def TS.splitC (s : TS) (c : Nat) : TS :=
  { nodes := s.nodes ++ [⟨(s.nd c).cls, -1, (s.nd c).names⟩], roots := s.roots.map (redir s.nodes c s.nodes.length), next := s.next.map fun x => (x.1, redir s.nodes c s.nodes.length x.2) }
def TS.split (s : TS) (a : Int) : Int × Int × TS :=
  if s.there a = false then (0, 1, s) else if 200 ≤ s.nodes.length then (0, 2, s) else ((s.nodes.length : Int), 0, s.splitC (cn s.nodes a.toNat))
def TS.root (s : TS) (cls : Int) : Int := if 0 ≤ cls ∧ cls < (s.roots.length : Int) then s.canon (s.roots.getD cls.toNat 0) else -1
def TS.make (s : TS) (cls : Int) (names : List Str) : Int × Int × TS :=
  if cls < 0 ∨ (s.roots.length : Int) ≤ cls ∨ 64 < names.length ∨ ¬ names.Nodup ∨ eStr ∈ names then (0, 1, s)
  else if (s.nd (s.root cls).toNat).names = names then (s.root cls, 0, s)
  else match s.find cls names with
    | some n => ((n : Int), 0, s)
    | none => if 200 ≤ s.nodes.length then (0, 2, s) else ((s.nodes.length : Int), 0, s.addN cls names)
def TS.names (s : TS) (k : Int) : List Str := if s.there k = true then (s.nd k.toNat).names else []
def TS.cls (s : TS) (k : Int) : Int := if s.there k = true then (s.nd k.toNat).cls else -1
def TS.slot (s : TS) (k : Int) (name : Str) : Option Nat := (s.names k).findIdx? fun x => decide (x = name)
theorem TS.nd_eq {s : TS} {k : Nat} (h : k < s.nodes.length) : s.nd k = s.nodes[k] := by
  unfold TS.nd; rw [List.getD_eq_getElem?_getD, List.getElem?_eq_getElem h]; rfl
theorem TS.there_iff {s : TS} {k : Int} : s.there k = true ↔ 0 ≤ k ∧ k < (s.nodes.length : Int) := by unfold TS.there; simp
structure WF (s : TS) : Prop where
  ok : AL.Ok s.next
  can : Cans s.nodes
  ali : ∀ k (h : k < s.nodes.length), s.nodes[k].ali = -1 ∨ 0 ≤ s.nodes[k].ali
  root : ∀ r ∈ s.roots, ∃ k : Nat, r = (k : Int) ∧ k < s.nodes.length
  next : ∀ e ∈ s.next, ∃ k : Nat, e.2 = (k : Int) ∧ k < s.nodes.length
  key : ∀ e ∈ s.next, ∃ k : Nat, e.1.1 = (k : Int) ∧ k < s.nodes.length
theorem AL.mem_set {κ β : Type} [DecidableEq κ] {m : List (κ × β)} {k : κ} {v : β} {e : κ × β} (h : e ∈ AL.set m k v) : e = (k, v) ∨ e ∈ m := by
  induction m with
  | nil => simpa [AL.set] using h
  | cons p m ih =>
    obtain ⟨a, b⟩ := p
    simp only [AL.set] at h
    split at h
    · rcases List.mem_cons.1 h with h | h
      · exact .inl h
      · exact .inr (List.mem_cons_of_mem _ h)
    · rcases List.mem_cons.1 h with h | h
      · exact .inr (by rw [h]; exact List.mem_cons_self ..)
      · rcases ih h with h | h
        · exact .inl h
        · exact .inr (List.mem_cons_of_mem _ h)
theorem WF.addN {s : TS} (h : WF s) (cls : Int) (names : List Str) : WF (s.addN cls names) where
  ok := h.ok
  can := h.can.app _ (show (-1 : Int) < 0 by decide)
  ali := fun k hk => by
    simp only [TS.addN, List.length_append, List.length_singleton] at hk
    simp only [TS.addN]
    by_cases e : k < s.nodes.length
    · rw [List.getElem_append_left e]; exact h.ali k e
    · obtain rfl : k = s.nodes.length := by omega
      left; simp
  root := fun r hr => by
    obtain ⟨k, h1, h2⟩ := h.root r hr
    exact ⟨k, h1, by simp only [TS.addN, List.length_append]; omega⟩
  next := fun r hr => by
    obtain ⟨k, h1, h2⟩ := h.next r hr
    exact ⟨k, h1, by simp only [TS.addN, List.length_append]; omega⟩
  key := fun r hr => by
    obtain ⟨k, h1, h2⟩ := h.key r hr
    exact ⟨k, h1, by simp only [TS.addN, List.length_append]; omega⟩
theorem WF.add {s : TS} (h : WF s) (k : Int) (name : Str) : WF (s.add k name).2.2 := by
  unfold TS.add
  split
  · exact h
  · rename_i hth
    have hth := TS.there_iff.1 (by simpa using hth)
    split
    · exact h
    · split
      · exact h
      · split
        · exact h
        · have g := h.addN (s.nd (cn s.nodes k.toNat)).cls ((s.nd (cn s.nodes k.toNat)).names ++ [name])
          have hc := h.can.lt (k := k.toNat) (by omega)
          refine ⟨h.ok.set _ _, g.can, g.ali, g.root, fun e he => ?_, fun e he => ?_⟩
          · rcases AL.mem_set he with rfl | he
            · exact ⟨_, rfl, by simp [TS.addN]⟩
            · exact g.next e he
          · rcases AL.mem_set he with rfl | he
            · exact ⟨_, rfl, by simp only [TS.addN, List.length_append]; omega⟩
            · exact g.key e he
theorem redir_nat {s : TS} (h : WF s) {c : Nat} {k : Int} (hk : ∃ j : Nat, k = (j : Int) ∧ j < s.nodes.length) : ∃ j : Nat, redir s.nodes c s.nodes.length k = (j : Int) ∧ j < s.nodes.length + 1 := by
  unfold redir
  split
  · exact ⟨_, rfl, by omega⟩
  · obtain ⟨j, h1, h2⟩ := hk
    exact ⟨j, h1, by omega⟩
theorem WF.splitC {s : TS} (h : WF s) (c : Nat) : WF (s.splitC c) where
  ok := by
    have : AL.keys (s.splitC c).next = AL.keys s.next := by simp [TS.splitC, AL.keys, Function.comp_def]
    unfold AL.Ok
    rw [this]
    exact h.ok
  can := h.can.app _ (show (-1 : Int) < 0 by decide)
  ali := (h.addN (s.nd c).cls (s.nd c).names).ali
  root := fun r hr => by
    obtain ⟨x, hx, rfl⟩ := List.mem_map.1 hr
    obtain ⟨j, h1, h2⟩ := redir_nat (c := c) h (h.root x hx)
    exact ⟨j, h1, by simpa [TS.splitC] using h2⟩
  next := fun r hr => by
    obtain ⟨x, hx, rfl⟩ := List.mem_map.1 hr
    obtain ⟨j, h1, h2⟩ := redir_nat (c := c) h (h.next x hx)
    exact ⟨j, h1, by simpa [TS.splitC] using h2⟩
  key := fun r hr => by
    obtain ⟨x, hx, rfl⟩ := List.mem_map.1 hr
    obtain ⟨j, h1, h2⟩ := h.key x hx
    exact ⟨j, h1, by simp only [TS.splitC, List.length_append]; omega⟩
theorem WF.split {s : TS} (h : WF s) (a : Int) : WF (s.split a).2.2 := by
  unfold TS.split
  split
  · exact h
  · split
    · exact h
    · exact h.splitC _
theorem setAli_eq {l : List Nd} {y : Nat} {x : Int} (h : y < l.length) : setAli l y x = l.set y { l[y] with ali := x } := by
  unfold setAli; rw [List.getD_eq_getElem?_getD, List.getElem?_eq_getElem h]; rfl
theorem setAli_len {l : List Nd} {y : Nat} {x : Int} : (setAli l y x).length = l.length := by unfold setAli; rw [List.length_set]
theorem Cans.setAli {l : List Nd} (h : Cans l) {a b : Nat} (ha : a < l.length) (hb : b < l.length) (hne : Fx.YtjpdhfhiimbpgaaGreatDoor.cn l a ≠ Fx.YtjpdhfhiimbpgaaGreatDoor.cn l b) {k : Nat} (hk : k < l.length) :
    ∃ d, Cn (Fx.YtjpdhfhiimbpgaaGreatDoor.setAli l (Fx.YtjpdhfhiimbpgaaGreatDoor.cn l b) (Fx.YtjpdhfhiimbpgaaGreatDoor.cn l a : Int)) d k (if Fx.YtjpdhfhiimbpgaaGreatDoor.cn l k = Fx.YtjpdhfhiimbpgaaGreatDoor.cn l b then Fx.YtjpdhfhiimbpgaaGreatDoor.cn l a else Fx.YtjpdhfhiimbpgaaGreatDoor.cn l k) := by
  obtain ⟨_, h1⟩ := h.has ha
  obtain ⟨_, h2⟩ := h.has hb
  obtain ⟨d, h3⟩ := h.has hk
  rw [setAli_eq h2.snd.1]
  exact h3.set h1.idem h2.idem hne h2.snd.1
theorem WF.setAli {s : TS} (h : WF s) {a b : Nat} (ha : a < s.nodes.length) (hb : b < s.nodes.length) (hne : cn s.nodes a ≠ cn s.nodes b) :
    WF { s with nodes := Fx.YtjpdhfhiimbpgaaGreatDoor.setAli s.nodes (cn s.nodes b) (cn s.nodes a : Int) } where
  ok := h.ok
  can := fun k hk => by
    obtain ⟨d, hc⟩ := h.can.setAli ha hb hne (k := k) (by simpa [setAli_len] using hk)
    exact ⟨d, _, hc⟩
  ali := fun k hk => by
    have hk' : k < s.nodes.length := by simpa [setAli_len] using hk
    have hb' := h.can.lt hb
    simp only [setAli_eq hb']
    by_cases e : cn s.nodes b = k
    · subst e; rw [List.getElem_set_self]; right; simp
    · rw [List.getElem_set_ne e]; exact h.ali k hk'
  root := fun r hr => by
    obtain ⟨k, h1, h2⟩ := h.root r hr
    exact ⟨k, h1, by simpa [setAli_len] using h2⟩
  next := fun r hr => by
    obtain ⟨k, h1, h2⟩ := h.next r hr
    exact ⟨k, h1, by simpa [setAli_len] using h2⟩
  key := fun r hr => by
    obtain ⟨k, h1, h2⟩ := h.key r hr
    exact ⟨k, h1, by simpa [setAli_len] using h2⟩
theorem WF.merge {s : TS} (h : WF s) (a b : Int) : WF (s.merge a b).2 := by
  unfold TS.merge
  split
  · rename_i hh
    obtain ⟨h1, h2, _⟩ := hh
    have h1 := TS.there_iff.1 h1
    have h2 := TS.there_iff.1 h2
    simp only
    split
    · exact h
    · rename_i hne
      exact h.setAli (by omega) (by omega) hne
  · exact h
theorem WF.make {s : TS} (h : WF s) (cls : Int) (names : List Str) : WF (s.make cls names).2.2 := by
  unfold TS.make
  split
  · exact h
  · split
    · exact h
    · split
      · exact h
      · split
        · exact h
        · exact h.addN _ _
end Go.Fx.YtjpdhfhiimbpgaaGreatDoor
set_option linter.unusedSimpArgs false
set_option linter.unusedVariables false
set_option linter.unusedSectionVars false
namespace Go.Fx
open Go
section
variable {κ β : Type} [DecidableEq κ] {P : Program} {w w0 : World} {R0 R : Hp} {L0 Lr : List Hp} {kT eT T : TypeId} {kenc : κ → Value} {vr : β → Value → Prop} {b r k : Nat} {es es' : Array MapEntry} {m m' xs : List (κ × β)} {c ci : Hp}
/-- The map of a range may have got other values under its keys. -/
theorem It.turn (h : MapE kenc vr b es k m c) (h' : MapE kenc vr b es' k m' ci) {cr : Hp} (hb : es'.toList.map (·.born) = es.toList.map (·.born)) (hk : AL.keys m' = AL.keys m) (hi : It b r es k m xs cr) : ∃ xs', It b r es' k m' xs' cr ∧ xs'.map (·.1) = xs.map (·.1) ∧ ∀ e ∈ xs', e ∈ m' := by
  obtain ⟨is, rfl, hnd, hlt, hxs⟩ := hi
  have hl : es'.toList.length = es.toList.length := by have := congrArg List.length hb; simpa using this
  have hlm : m'.length = es'.toList.length := h'.is.length.symm
  have hlm0 : m.length = es.toList.length := h.is.length.symm
  have hg : ∀ i ∈ is, ∃ p q, m'[i]? = some p ∧ m[i]? = some q ∧ p.1 = q.1 := fun i hi => by
    have h1 := hlt i hi
    have h2 : i < m'.length := by omega
    have h3 : i < m.length := by omega
    refine ⟨m'[i], m[i], List.getElem?_eq_getElem h2, List.getElem?_eq_getElem h3, ?_⟩
    have h4 : (AL.keys m')[i]? = (AL.keys m)[i]? := by rw [hk]
    simp only [AL.keys, List.getElem?_map, List.getElem?_eq_getElem h2, List.getElem?_eq_getElem h3, Option.map_some, Option.some.injEq] at h4
    exact h4
  refine ⟨is.filterMap fun i => m'[i]?, ⟨is, by rw [hb], hnd, fun i hi => by rw [hl]; exact hlt i hi, ?_⟩, ?_, ?_⟩
  · clear hxs hnd hlt
    induction is with
    | nil => rfl
    | cons i is ih =>
      obtain ⟨p, q, h1, _, _⟩ := hg i (by simp)
      rw [List.filterMap_cons_some h1, List.map_cons, List.map_cons, h1, ih (fun j hj => hg j (by simp [hj]))]
  · have hx : xs = is.filterMap fun i => m[i]? := by
      have := congrArg (List.filterMap id) hxs
      rw [List.filterMap_map, List.filterMap_map] at this
      simpa using this
    rw [hx]
    clear hxs hx hnd hlt
    induction is with
    | nil => rfl
    | cons i is ih =>
      obtain ⟨p, q, h1, h2, h3⟩ := hg i (by simp)
      rw [List.filterMap_cons_some h1, List.filterMap_cons_some h2, List.map_cons, List.map_cons, h3, ih (fun j hj => hg j (by simp [hj]))]
  · intro e he
    obtain ⟨i, _, h1⟩ := List.mem_filterMap.1 he
    exact List.mem_of_getElem? h1
theorem born_modify (l : List MapEntry) (i : Nat) (f : MapEntry → MapEntry) (hf : ∀ e, (f e).born = e.born) : (l.modify i f).map (·.born) = l.map (·.born) := by
  induction l generalizing i with
  | nil => cases i <;> rfl
  | cons a l ih =>
    cases i with
    | zero => simp [List.modify, hf]
    | succ i => simp [List.modify_succ_cons, ih]
/-- A value under a key that is there is written: the entries stay at their places. -/
theorem MapE.update (h : MapE kenc vr b es k m c) (hst : Step w0 R0 L0 w R (c :: Lr)) (K : KeyLaw (β := β) P kT kenc) (hT : P.underlying T = some (.map kT eT)) (q : κ) (hq : q ∈ AL.keys m) (x : β) (v : Value) (hv : vr x v) :
    ∃ c' w' es', (Instr.mapUpdate T (.map (some b)) (kenc q) v).run P w = .ok () w' ∧ MapE kenc vr b es' k (AL.set m q x) c' ∧ es'.toList.map (·.born) = es.toList.map (·.born) ∧ AL.keys (AL.set m q x) = AL.keys m ∧ Step w0 R0 L0 w' R (c' :: Lr) := by
  obtain ⟨rfl, his, hB⟩ := h
  have hb := hst.blk (i := 0) rfl
  obtain ⟨i, hi⟩ : ∃ i, place q m 0 = some i := by
    rcases place_get q his with ⟨_, h1⟩ | ⟨i, _, _, h1, _⟩
    · exact absurd hq (AL.get_none.1 h1)
    · exact ⟨i, h1⟩
  have hg : (getObj b).run P w = .ok (.map es k) w := by simp [getObj, Sem.run, hb]
  have hkey : (((es[i]?).map (·.key)).getD (kenc q)) = kenc q := by rw [key_at his hi]; rfl
  refine ⟨_, _, es.modify i fun e => { e with key := kenc q, val := v }, ?_, ⟨rfl, ?_, ?_⟩, ?_, ?_, hst.set0 _⟩
  · unfold Instr.mapUpdate
    simp only [Sem.run_bind, run_underlying hT, Result.andThen_ok, hg, K.check, K.find vr q es.toList m w his, hi, Option.map_some, hkey, Instr.keyThatStays, K.bits, if_true, Sem.run_pure, run_setObj_map hb]
  · simpa using his.modify q x v hv i hi
  · simpa using hB.modify i (fun e => { e with key := kenc q, val := v }) (fun e => rfl)
  · simpa using born_modify es.toList i (fun e => { e with key := kenc q, val := v }) (fun e => rfl)
  · rw [AL.keys_set, if_pos hq]
end
end Go.Fx
namespace Go.Fx.YtjpdhfhiimbpgaaGreatDoor
open Go Go.Fx Go.Proofs
set_option maxRecDepth 20000
def kS (k : Stp) : Value := .agg #[.int .i64 k.1, .string k.2]
theorem law98 {β : Type} : KeyLaw (β := β) Tryz.prog 98 kS := by
  have hS : Tryz.prog.underlying 98 = some (.struct (Tryz.prog.fieldsOf 98)) := by kernel_rfl
  have hp : Tryz.prog.stoodInHeld 98 = false := by kernel_rfl
  refine KeyLaw.ofEq hS (fun a b => rfl) (fun b k w => by obtain ⟨x, y⟩ := k; kernel_rfl) (fun a b w => ?_) (fun k => by
    have e : (k.2 == k.2) = true := by show (k.2.data == k.2.data) = true; simp
    simp [kS, Instr.sameBits, e])
  obtain ⟨x, y⟩ := a
  obtain ⟨x', y'⟩ := b
  have h3 := Tryz.isAgg3
  have h9 := Tryz.isAgg9
  have u3 := Tryz.underlying3
  have u9 := Tryz.underlying9
  simp only [kS]
  unfold Op.equal Op.maxDepth
  rw [show (10000 : Nat) = 9999 + 1 from rfl, run_equalIn_agg w 9999 98 _ _ hS hp]
  have e : Tryz.prog.fieldsOf 98 = (match Tryz.prog.underlying 98 with | some (.struct fs) => fs | _ => #[]) := by kernel_rfl
  rw [e, Tryz.underlying98]
  simp only [go_sem, h3, h9]
  have hq : ∀ a b w, (Op.equalIn 9999 3 (.int .i64 a) (.int .i64 b)).run Tryz.prog w = .ok (a == b) w := fun a b w => run_equalIn_int w 9998 3 .i64 .i64 a b u3
  have hr : ∀ a b w, (Op.equalIn 9999 9 (.string a) (.string b)).run Tryz.prog w = .ok (decide (a = b)) w := fun a b w => by rw [← str_eq]; exact run_equalIn_string w 9998 9 a b u9
  by_cases h1 : x = x' <;> by_cases h2 : y = y' <;> simp [h3, h9, hq, hr, h1, h2]
theorem x_eqlD {P : Program} {w : World} {ρ : Operand → Value} {o : Oper} {t yt : TypeId} {p q : Operand} {a b : ByteArray} (ho : o.op = .binOp .eql t p q yt) (hx : ρ p = .string a) (hy : ρ q = .string b) : (execOp ρ o).run P w = .ok (.value (.bool (decide (a = b)))) w := by
  rw [← str_eq]
  unfold execOp
  simp only [ho, hx, hy, eqGuard, binOp, Op.stringOp, Sem.run_bind, Sem.run_pure, Result.andThen_ok, if_true]
  rfl
theorem x_neqD {P : Program} {w : World} {ρ : Operand → Value} {o : Oper} {t yt : TypeId} {p q : Operand} {a b : ByteArray} (ho : o.op = .binOp .neq t p q yt) (hx : ρ p = .string a) (hy : ρ q = .string b) : (execOp ρ o).run P w = .ok (.value (.bool (!decide (a = b)))) w := by
  rw [← str_eq]
  unfold execOp
  simp only [ho, hx, hy, eqGuard, binOp, Op.stringOp, Sem.run_bind, Sem.run_pure, Result.andThen_ok, if_true]
  rfl
theorem x_max {P : Program} {w : World} {ρ : Operand → Value} {o : Oper} {x y : Operand} {t1 t2 : TypeId} {a b : Int} (ho : o.op = .call { callee := .builtin .max, args := #[x, y], argTypes := #[t1, t2] }) (hx : ρ x = int a) (hy : ρ y = int b) : (execOp ρ o).run P w = .ok (.value (int (max a b))) w := by
  unfold execOp
  simp only [ho, resolve, hx, hy, invoke, builtin, Builtin.max_, Sem.run_bind, Sem.run_pure, Result.andThen_ok, List.map_toArray, List.map_cons, List.map_nil]
  simp [Builtin.max2]
  omega
def tyNd : Ty Nd := (Ty.int.pair (Ty.int.pair (Ty.slice Ty.str))).via (fun x => (x.cls, x.ali, x.names))
theorem tyNd_open {R : Hp} {x : Nd} {c : List Value} (h : tyNd.rel R x c) : ∃ v, c = [.int .i64 x.cls, .int .i64 x.ali, v] ∧ RdS Ty.str R v x.names := by
  obtain ⟨c1, c2, rfl, e1, c3, c4, rfl, e3, v, rfl, h4⟩ := h
  have h1 : c1 = [_] := e1
  have h3 : c3 = [_] := e3
  subst h1; subst h3
  exact ⟨v, rfl, h4⟩
theorem tyNd_mk {R : Hp} {a b : Int} {xs : List Str} {v : Value} (h : RdS Ty.str R v xs) : tyNd.rel R ⟨a, b, xs⟩ [.int .i64 a, .int .i64 b, v] := ⟨[_], [_, _], rfl, rfl, [_], [_], rfl, rfl, v, rfl, h⟩
theorem str_mk (R : Hp) (t : ByteArray) : Encs Ty.str R [t] [.string t] := Encs.one (t := Ty.str) rfl
theorem Encs.restr {R R' : Hp} {xs : List Str} {cs : List Value} (h : Encs Ty.str R xs cs) : Encs Ty.str R' xs cs := by
  induction h with
  | nil => exact .nil
  | cons hx _ ih => exact .cons hx ih
theorem OwnL.restr {R R' : Hp} {T : Nat} {v : Value} {xs : List Str} {c : Hp} (h : OwnL Ty.str T R v xs c) : OwnL Ty.str T R' v xs c := by
  obtain ⟨cells, h1, h2⟩ := h
  exact ⟨cells, h1, Encs.restr h2⟩
abbrev treeB (p : Nat) (vN vR : Value) (bm : Option Nat) : Hp := one p (.cells #[vN, vR, .map bm] 65 (0, 0))
def thereL (l : List Nd) (k : Int) : Bool := decide (0 ≤ k ∧ k < (l.length : Int))
theorem thereL_iff {l : List Nd} {k : Int} : thereL l k = true ↔ 0 ≤ k ∧ k < (l.length : Int) := by unfold thereL; simp
theorem thereL_not {l : List Nd} {k : Int} : thereL l k = false ↔ ¬ (0 ≤ k ∧ k < (l.length : Int)) := by rw [← Bool.not_eq_true, thereL_iff]
theorem thereL_in {l : List Nd} {k : Nat} (h : k < l.length) : thereL l (k : Int) = true := thereL_iff.2 ⟨by omega, by omega⟩
/-- How long what is read may be. -/
structure Small (l : List Nd) : Prop where
  len : l.length ≤ 1000000
  names : ∀ k (h : k < l.length), (l[k].names).length ≤ 1000000
  ali : ∀ k (h : k < l.length), l[k].ali = -1 ∨ 0 ≤ l[k].ali
  can : Cans l
/-- The tree at p, as it is read in R: its nodes l, its roots rs. -/
def TreeR (R : Hp) (p : Nat) (l : List Nd) (rs : List Int) : Prop :=
  ∃ vN vR bm, Le (treeB p vN vR bm) R ∧ RdS tyNd R vN l ∧ RdS Ty.int R vR rs ∧ Small l ∧ (∀ r ∈ rs, ∃ k : Nat, r = (k : Int) ∧ k < l.length) ∧ rs.length ≤ 1000000
theorem TreeR.mono {R R' : Hp} {p : Nat} {l : List Nd} {rs : List Int} (h : TreeR R p l rs) (g : Le R R') : TreeR R' p l rs := by
  obtain ⟨vN, vR, bm, h1, h2, h3, h4⟩ := h
  exact ⟨vN, vR, bm, h1.trans g, h2.mono g, h3.mono g, h4⟩
abbrev vI : Int → Value → Prop := vE (Value.int .i64)
/-- The piece c is the tree s at p. -/
def Tree (R : Hp) (p : Nat) (s : TS) (c : Hp) : Prop :=
  ∃ vN vR bm cN cR cM, c = uni (treeB p vN vR bm) (tri cN cR cM) ∧ Dj (treeB p vN vR bm) (tri cN cR cM) ∧ Dj cN (uni cR cM) ∧ Dj cR cM ∧ OwnL tyNd 85 R vN s.nodes cN ∧ OwnL Ty.int 3 R vR s.roots cR ∧ MapC kS vI bm s.next cM ∧
    WF s ∧ Small s.nodes ∧ s.roots.length ≤ 1000000 ∧ (bm = none → s.nodes = [])
variable {w w0 : World} {R0 R : Hp} {L0 Lr : List Hp} {p : Nat} {s : TS} {vN vR : Value} {bm : Option Nat} {cN cR cM c : Hp}
theorem Tree.lift {R' : Hp} (h : Tree R p s c) (l : Le R R') : Tree R' p s c := by
  obtain ⟨vN, vR, bm, cN, cR, cM, h1, h2, h3, h4, h5, h6, h7⟩ := h
  exact ⟨vN, vR, bm, cN, cR, cM, h1, h2, h3, h4, h5.mono l, h6.mono l, h7⟩
theorem Tree.opened (h : Step w0 R0 L0 w R (uni (treeB p vN vR bm) (tri cN cR cM) :: Lr)) (h1 : Dj (treeB p vN vR bm) (tri cN cR cM)) (h2 : Dj cN (uni cR cM)) (h3 : Dj cR cM) : Step w0 R0 L0 w R (treeB p vN vR bm :: cN :: cR :: cM :: Lr) := by
  have a := h.split h1
  have b := (a.front 1 rfl rfl)
  have d := Step.split3 b h2 h3
  exact d.front 3 rfl rfl
theorem Tree.close (h : Step w0 R0 L0 w R (treeB p vN vR bm :: cN :: cR :: cM :: Lr)) (hN : OwnL tyNd 85 R vN s.nodes cN) (hR : OwnL Ty.int 3 R vR s.roots cR) (hM : MapC kS vI bm s.next cM) (hw : WF s) (hs : Small s.nodes) (hr : s.roots.length ≤ 1000000) (hb : bm = none → s.nodes = []) :
    ∃ c, Step w0 R0 L0 w R (c :: Lr) ∧ Tree R p s c := by
  obtain ⟨h1, d1, d2⟩ := (((h.front 3 rfl rfl).front 3 rfl rfl).front 3 rfl rfl).join3
  have h2 := h1.front 1 rfl rfl
  have d3 := (List.pairwise_cons.1 h2.sats.dj).1 _ (List.mem_cons_self ..)
  exact ⟨_, h2.join, vN, vR, bm, cN, cR, cM, rfl, d3, d1, d2, hN, hR, hM, hw, hs, hr, hb⟩
theorem Tree.view (h : Tree R p s c) (hc : Le c (hp w)) (hR : Le R (hp w)) : TreeR (hp w) p s.nodes s.roots := by
  obtain ⟨vN, vR, bm, cN, cR, cM, rfl, h1, h2, h3, hN, hRs, hM, hw, hs, hr, hb⟩ := h
  have e1 := (uni_l _ _).trans hc
  have e2 := (uni_r h1).trans hc
  exact ⟨vN, vR, bm, e1, hN.freeze hR ((tri_1 _ _ _).trans e2), hRs.freeze hR ((tri_2 h2).trans e2), hs, hw.root, hr⟩
end Go.Fx.YtjpdhfhiimbpgaaGreatDoor
