/-
  Ranges over functions: yields, iterators, the statement.
-/
import Derived.Test.YtjpdhfhiimbpgaaGreatDoorFx10
set_option linter.unusedSimpArgs false
set_option linter.unusedVariables false
set_option linter.unusedSectionVars false
namespace Go.Fx
open Go

/-- A call of the yield of loop l. -/
def RoundC (P : Program) (l : Nat) (args : Array Value) (w : World) (R : Ending → World → Prop) : Prop :=
  ∃ fn tmps assign body, (Instr.yield l args).run P w = .ok (.round l fn tmps assign body) w ∧ RoundIn (rof none) 0 P l fn tmps assign body w R

theorem RoundC.mono {P : Program} {l : Nat} {args : Array Value} {w : World} {R R' : Ending → World → Prop} (h : RoundC P l args w R) (hr : ∀ e w', R e w' → R' e w') : RoundC P l args w R' := by
  obtain ⟨fn, tmps, assign, body, h1, h2⟩ := h
  exact ⟨fn, tmps, assign, body, h1, h2.mono hr⟩

theorem x_yield {P : Program} {w : World} {ρ : Operand → Value} {o : Oper} {l : Nat} {x : Operand} {xs : Array Operand} {ts : Array TypeId} {vs : Array Value}
    (ho : o.op = .call { callee := .value x, args := xs, argTypes := ts }) (hf : ρ x = .func (.yield l) #[] #[]) (hx : xs.map ρ = vs) :
    (execOp ρ o).run P w = (Instr.yield l vs).run P w := by
  unfold execOp
  subst hx
  simp only [ho, resolve, hf, Sem.run_bind, Deferred.ofValue, Sem.run_pure, Result.andThen_ok, invoke]
  simp

section
variable {ro : Option Nat} {P : Program} {n : Nat} {Q : QT} {σ : Fr} {w w0 : World} {ops : Array Oper} {rest : List Oper} {R0 R : Hp} {L0 Lc : List Hp}

theorem L_yield {o : Oper} {d l : Nat} {args : Array Value} {R : Ending → World → Prop} (hg : o.guard = none) (hd : o.dst = some d) (hn : Nat.blt d n = true)
    (hr : (execOp (ev σ) o).run P w = (Instr.yield l args).run P w) (hc : RoundC P l args w R)
    (k : ∀ e w'', R e w'' → ∃ v, e = .returned v ∧ L ro P n ops rest Q (upd σ d v) w'') : L ro P n ops (o :: rest) Q σ w := by
  obtain ⟨fn, tmps, assign, body, hy, hR⟩ := hc
  refine ⟨fun a ha => ?_⟩
  unfold wpListIn
  rw [if_pos (by simp [Region.wanted, hg])]
  refine ⟨fun _ _ => trivial, ?_⟩
  have hr2 : (o.semAt ro (ev σ)).run P w = .ok (.round l fn tmps assign body) w := sem_of (hr.trans hy) (by simp)
  rw [ha.eval, hr2, Oper.uponIn_round, hd]
  refine ⟨(fun h => by cases h), ?_⟩
  have hR2 : RoundIn (rof ro) 0 P l fn tmps assign body w R := hR
  refine hR2.mono fun e w'' h => ?_
  obtain ⟨v, rfl, hL⟩ := k e w'' h
  exact hL.run _ (ha.put (by simpa using hn) v)

/-- What one round does to the pieces of the loop's owner. -/
def YieldS (P : Program) (l : Nat) (args : Array Value) (w : World) (R : Hp) (Lb : List Hp) (post : Bool → Hp → List Hp → Prop) : Prop :=
  RoundC P l args w fun e w' => ∃ b R' L', e = .returned (.bool b) ∧ Step w R Lb w' R' L' ∧ post b R' L'

/-- yield, called by an iterator that owns Lb; La is the loop's. -/
theorem L_yieldS (La Lb : List Hp) (hst : Step w0 R0 L0 w R (La ++ Lb)) {o : Oper} {d l : Nat} {args : Array Value} {post : Bool → Hp → List Hp → Prop} (hg : o.guard = none) (hd : o.dst = some d) (hn : Nat.blt d n = true)
    (hr : (execOp (ev σ) o).run P w = (Instr.yield l args).run P w) (hc : YieldS P l args w R La post)
    (k : ∀ b w' R' L', post b R' L' → Le R R' → Step w0 R0 L0 w' R' (L' ++ Lb) → L ro P n ops rest Q (upd σ d (.bool b)) w') : L ro P n ops (o :: rest) Q σ w :=
  L_yield hg hd hn hr hc fun e w' ⟨b, R', L', he, hs, hp⟩ => ⟨_, he, k b w' R' L' hp hs.rle (hst.call hs)⟩
end

/-- What the value '.func (.func g) #[] lb' is as an iterator: it gives the elements xs of some list that S lets in, one by one; or a part that Sp lets in, and then a round has said no. It owns Lit. -/
def Gives {α : Type} (P : Program) (g : Nat) (lb : Array Value) (N : Nat) (S Sp : List α → Prop) (enc : α → Array Value) (R : Hp) (Lit : List Hp) (post : Hp → List Hp → Prop) : Prop :=
  ∀ (l : Nat) (J Jx : List α → Hp → List Hp → Prop) (w : World) (Lb : List Hp), Sats w R (Lit ++ Lb) → (∀ pre R1 R2 L1, Le R1 R2 → J pre R1 L1 → J pre R2 L1) → (∀ pre R1 R2 L1, Le R1 R2 → Jx pre R1 L1 → Jx pre R2 L1) →
    (∀ pre x w1 R1 L1, J pre R1 L1 → Le R R1 → Sats w1 R1 L1 → pre.length < N → YieldS P l (enc x) w1 R1 L1 fun b R' L' => if b = true then J (pre ++ [x]) R' L' else Jx (pre ++ [x]) R' L') →
    J [] R Lb →
    Calls P g (#[.func (.yield l) #[] #[]] ++ lb) w fun e w' => (∃ v, e = .returned v) ∧ ∃ R' Lit' Lb', Step w R (Lit ++ Lb) w' R' (Lit' ++ Lb') ∧ post R' Lit' ∧
      ((∃ xs, S xs ∧ J xs R' Lb') ∨ (∃ pre, Sp pre ∧ Jx pre R' Lb'))

/-- A frame with one mark more. -/
def pushM (D : Nat) : Value → Value
  | .tuple vs => .tuple (#[.int .i64 (D : Int)] ++ vs)
  | _ => .tuple #[.int .i64 (D : Int)]
theorem mks_push (D : Nat) (v : Value) : mks (pushM D v) = D :: mks v := by
  cases v <;> simp [pushM, mks]
def mark (D : Nat) (σ : Fr) : Fr
  | 0 => pushM D (σ 0)
  | i + 1 => σ (i + 1)
/-- A frame without marks. -/
def clr (σ : Fr) : Fr
  | 0 => undef
  | i + 1 => σ (i + 1)

theorem Rel.mark {n : Nat} {a : Act} {σ : Fr} (h : Rel n a σ) (D : Nat) : Rel n { a with defers := [{ target := .collected D, args := #[] }] ++ a.defers } (mark D σ) :=
  ⟨h.size, by show _ = (mks (pushM D (σ 0))).map mkD; rw [mks_push, h.defers]; rfl, fun i => h.get i⟩
theorem Rel.clr {n : Nat} {a : Act} {σ : Fr} (h : Rel n a σ) : Rel n { tmps := a.tmps, defers := [] } (clr σ) := ⟨h.size, rfl, fun i => h.get i⟩

/-- The frame in which a round begins. -/
def setp (σ : Fr) : List Nat → List Value → Fr
  | p :: ps, v :: vs => setp (upd σ p v) ps vs
  | _, _ => σ
theorem rel_setp {n : Nat} : ∀ (ps : List Nat) (vs : List Value) (a : Act) (σ : Fr), (ps.all fun p => Nat.blt p n) = true → Rel n a σ →
    Rel n { tmps := (ps.zip vs).foldl (fun t (p, v) => t.setIfInBounds p v) a.tmps, defers := a.defers } (setp σ ps vs)
  | [], _, a, σ, _, h => h
  | _ :: _, [], a, σ, _, h => h
  | p :: ps, v :: vs, a, σ, hp, h => by
    simp only [List.all_cons, Bool.and_eq_true] at hp
    have := rel_setp ps vs _ _ hp.2 (h.put (d := p) (by simpa using hp.1) v)
    exact this

/-- How a round may end. -/
def roundQ {α : Type} (w : World) (R : Hp) (Lc : List Hp) (J : List α → Hp → List Hp → Prop) (Jx : Code → List α → Hp → List Hp → Prop) (xs : List α) : QT
  | .normal, _, w' => ∃ R' L', Step w R Lc w' R' L' ∧ J xs R' L'
  | .ret, _, w' => ∃ R' L', Step w R Lc w' R' L' ∧ Jx .ret xs R' L'
  | .exit id, _, w' => ∃ R' L', Step w R Lc w' R' L' ∧ Jx (.exit id) xs R' L'
  | _, _, _ => False

section
variable {P : Program} {n : Nat} {Q : QT} {σ : Fr} {w w0 : World} {R0 R : Hp} {L0 Lc : List Hp}

theorem Step.toEnd {x y : Hp} {Lr : List Hp} (h : Step w0 R0 L0 w R (x :: y :: Lr)) : Step w0 R0 L0 w R (Lr ++ [x, y]) := h.perm (by simpa using (List.perm_append_comm (l₁ := [x, y]) (l₂ := Lr)))
theorem Step.fromEnd {x y : Hp} {Lr : List Hp} (h : Step w0 R0 L0 w R (Lr ++ [x, y])) : Step w0 R0 L0 w R (x :: y :: Lr) := h.perm (by simpa using (List.perm_append_comm (l₁ := Lr) (l₂ := [x, y])))

theorem Sats.tail2 {x y : Hp} {Lr : List Hp} (h : Sats w R (x :: y :: Lr)) : Sats w R Lr := ((Step.refl h).drop.drop).sats

theorem W_rangeFunc {α : Type} {g : Operand} {ps : Array Nat} {assign body : Code} {gf : Nat} {lb : Array Value} {N : Nat} {S Sp : List α → Prop} {enc : α → Array Value} {Lit Lb : List Hp} {post : Hp → List Hp → Prop}
    (hg : ev σ g = .func (.func gf) #[] lb) (eg : Ent P gf) (hst : Step w0 R0 L0 w R (Lit ++ Lb)) (hgives : Gives P gf lb N S Sp enc R Lit post)
    (J : List α → Hp → List Hp → Prop) (Jx : Code → List α → Hp → List Hp → Prop) (hJ : ∀ pre R1 R2 L1, Le R1 R2 → J pre R1 L1 → J pre R2 L1) (hJx : ∀ c pre R1 R2 L1, Le R1 R2 → Jx c pre R1 L1 → Jx c pre R2 L1)
    (h0 : J [] R Lb) (hps : (ps.toList.all fun p => Nat.blt p n) = true) (hsz : ∀ x, (enc x).size = ps.size)
    (hround : ∀ l pre x w1 R1 L1, J pre R1 L1 → Le R R1 → pre.length < N →
      W (some l) P n assign (thenQ (fun τ w2 => w2 = w1 ∧ ∀ w3, Sats w3 R1 L1 → W (some l) P n body (roundQ w3 R1 L1 J Jx (pre ++ [x])) τ w3) (fun _ _ _ => False)) (setp (clr σ) ps.toList (enc x).toList) w1)
    (hdone : ∀ D xs w' R' Lit' Lb', S xs → J xs R' Lb' → post R' Lit' → Le R R' → Step w0 R0 L0 w' R' (one D (.deferred (some [])) :: (Lit' ++ Lb')) → Q .normal (mark D σ) w')
    (hstop : ∀ D c pre w' R' Lit' Lb', Sp pre → Jx c pre R' Lb' → post R' Lit' → Le R R' → Step w0 R0 L0 w' R' (one D (.deferred (some [])) :: (Lit' ++ Lb')) → W none P n c Q (mark D σ) w') :
    W none P n (.rangeFunc g ps assign body) Q σ w := by
  refine ⟨fun a ha => wpIn_rangeFunc fun fn _ => ?_⟩
  obtain ⟨rec, hrec⟩ : ∃ rec : LoopState → Option Code → Loop, rec = fun st pe => { state := st, pending := pe, fn, tmps := a.tmps, params := ps, assign, body, defers := w.heap.size } := ⟨_, rfl⟩
  obtain ⟨W1, hW1⟩ : ∃ W1, (w.alloc (.deferred (some []))).alloc (.loop (rec .ready none)) = W1 := ⟨_, rfl⟩
  have hst1 : Step w0 R0 L0 W1 R (one (w.heap.size + 1) (.loop (rec .ready none)) :: one w.heap.size (.deferred (some [])) :: (Lit ++ Lb)) := by
    have h1 := (hst.push (.deferred (some []))).push (.loop (rec .ready none))
    rw [show (push w (.deferred (some []))).heap.size = w.heap.size + 1 by simp [push]] at h1
    rw [← hW1]
    exact h1
  refine ⟨w.heap.size + 1, [{ target := .collected w.heap.size, args := #[] }], W1, { target := .fn (.func gf) lb, args := #[.func (.yield (w.heap.size + 1)) #[] #[]] }, W1, gf,
    #[.func (.yield (w.heap.size + 1)) #[] #[]] ++ lb, W1, ?_, ?_, fun _ _ => trivial, ?_, (fun h => by cases h), ?_⟩
  · rw [← hW1, hrec]; exact run_enterLoop_outer _ _ _ _ _
  · simp only [resolve, ha.eval, hg]
    simp [go_sem, ev]
  · have := eg (#[.func (.yield (w.heap.size + 1)) #[] #[]] ++ lb) W1
    simp [invoke, go_sem, this]
  · generalize hl : w.heap.size + 1 = l at *
    generalize hD : w.heap.size = D at *
    have hperm : Step w0 R0 L0 W1 R (Lit ++ (one l (.loop (rec .ready none)) :: one D (.deferred (some [])) :: Lb)) := hst1.perm (by
      have := List.perm_append_comm (l₁ := [one l (.loop (rec .ready none)), one D (.deferred (some []))]) (l₂ := Lit)
      simpa using this.append_right Lb)
    refine calls_rof.2 ((hgives l (fun pre R1 L1 => ∃ Lq, L1 = one l (.loop (rec .ready none)) :: one D (.deferred (some [])) :: Lq ∧ J pre R1 Lq)
      (fun pre R1 L1 => ∃ c Lq, L1 = one l (.loop (rec .done (some c))) :: one D (.deferred (some [])) :: Lq ∧ Jx c pre R1 Lq) W1 (one l (.loop (rec .ready none)) :: one D (.deferred (some [])) :: Lb) hperm.sats
      (fun pre R1 R2 L1 hle ⟨Lq, e, h⟩ => ⟨Lq, e, hJ _ _ _ _ hle h⟩) (fun pre R1 R2 L1 hle ⟨c, Lq, e, h⟩ => ⟨c, Lq, e, hJx _ _ _ _ _ hle h⟩) ?_ ⟨Lb, rfl, h0⟩).mono ?_)
    · rintro pre x w1 R1 L1 ⟨Lq, rfl, hJ1⟩ hle hs hlen
      have hs1 := Step.refl hs
      have hb1 := hs1.blk (i := 0) rfl
      have hpar : (rec .ready none).params = ps := by rw [hrec]
      have htm : (rec .ready none).tmps = a.tmps := by rw [hrec]
      refine ⟨_, _, _, _, run_yield hb1 (by rw [hpar]; exact hsz x), roundIn_of_wpIn (F := rof none) trivial ?_⟩
      rw [show (rec .ready none).assign = assign by rw [hrec], show (rec .ready none).body = body by rw [hrec], htm, hpar]
      have hrel := rel_setp (n := n) ps.toList (enc x).toList _ _ hps ha.clr
      have hzip : (ps.zip (enc x)).foldl (fun tmps (t, v) => tmps.setIfInBounds t v) a.tmps = (ps.toList.zip (enc x).toList).foldl (fun t (p, v) => t.setIfInBounds p v) a.tmps := by
        rw [← Array.foldl_toList, Array.toList_zip]
      rw [hzip]
      refine wpIn_mono ((hround l pre x w1 R1 Lq hJ1 hle hlen).run _ hrel) ?_
      rintro e a1 w2 ⟨τ, hτ, q⟩
      cases e with
      | normal =>
        obtain ⟨rfl, hbody⟩ := q
        refine ⟨_, run_beginRound hb1 (by rw [hrec]), ?_⟩
        have hs2 := (hs1.set0 (.loop { rec .ready none with state := .busy }))
        refine wpIn_mono ((hbody _ hs2.sats.tail2).run _ hτ) ?_
        rintro e a2 w3 ⟨τ2, _, q2⟩
        have fin : ∀ {R' : Hp} {L' : List Hp} (jump : Option Code), Step (setB w2 l (.loop { rec .ready none with state := .busy })) R1 Lq w3 R' L' →
            ∃ w4, (Instr.endRound l jump).run P w3 = .ok (.bool jump.isNone) w4 ∧ Step w2 R1 (one l (.loop (rec .ready none)) :: one D (.deferred (some [])) :: Lq) w4 R' (one l (.loop (rec (if jump.isNone then .ready else .done) jump)) :: one D (.deferred (some [])) :: L') := by
          intro R' L' jump k
          have hs3 := (hs2.toEnd.call k).fromEnd
          refine ⟨_, run_endRound jump (hs3.blk (i := 0) rfl), ?_⟩
          have := hs3.set0 (.loop { { rec .ready none with state := .busy } with state := if jump.isNone then .ready else .done, pending := jump })
          rw [hrec] at this ⊢
          exact this
        cases e with
        | normal =>
          obtain ⟨R', L', k, hj⟩ := q2
          obtain ⟨w4, hr, hs4⟩ := fin none k
          exact ⟨_, w4, hr, true, R', _, rfl, hs4, ⟨L', rfl, hj⟩⟩
        | ret =>
          obtain ⟨R', L', k, hj⟩ := q2
          obtain ⟨w4, hr, hs4⟩ := fin (some .ret) k
          exact ⟨_, w4, hr, false, R', _, rfl, hs4, ⟨.ret, L', rfl, hj⟩⟩
        | exit id =>
          obtain ⟨R', L', k, hj⟩ := q2
          obtain ⟨w4, hr, hs4⟩ := fin (some (.exit id)) k
          exact ⟨_, w4, hr, false, R', _, rfl, hs4, ⟨.exit id, L', rfl, hj⟩⟩
        | _ => exact q2.elim
      | _ => exact q.elim
    · rintro e w2 ⟨⟨v, rfl⟩, R', Lit', Lb', hstep, hpost, hor⟩
      have hle : Le R R' := hstep.rle
      have hfull : Step w0 R0 L0 w2 R' (Lit' ++ Lb') := by
        have := Step.call (Lb := []) (by simpa using hperm) hstep
        simpa using this
      have fin : ∀ {r : Loop} {Lq : List Hp}, Lb' = one l (.loop r) :: one D (.deferred (some [])) :: Lq → r.state ≠ .busy → ∃ w3, (Instr.endLoop l).run P w2 = .ok r.pending w3 ∧ Step w0 R0 L0 w3 R' (one D (.deferred (some [])) :: (Lit' ++ Lq)) := by
        intro r Lq e hb
        subst e
        have h1 : Step w0 R0 L0 w2 R' (one l (.loop r) :: one D (.deferred (some [])) :: (Lit' ++ Lq)) := hfull.perm (by
          have := List.perm_append_comm (l₁ := Lit') (l₂ := [one l (.loop r), one D (.deferred (some []))])
          simpa using this.append_right Lq)
        exact ⟨_, run_endLoop (h1.blk (i := 0) rfl) hb, (h1.set0 (.loop { r with state := .exhausted })).drop⟩
      rcases hor with ⟨xs, hS, Lq, e, hj⟩ | ⟨pre, hSp, c, Lq, e, hj⟩
      · obtain ⟨w3, hr, hs3⟩ := fin e (by rw [hrec]; simp)
        refine ⟨none, w3, by rw [hr, hrec], ?_⟩
        exact ⟨_, ha.mark D, hdone D xs w3 R' Lit' Lq hS hj hpost hle hs3⟩
      · obtain ⟨w3, hr, hs3⟩ := fin e (by rw [hrec]; simp)
        refine ⟨some c, w3, by rw [hr, hrec], ?_⟩
        exact (hstop D c pre w3 R' Lit' Lq hSp hj hpost hle hs3).run _ (ha.mark D)
end
end Go.Fx
