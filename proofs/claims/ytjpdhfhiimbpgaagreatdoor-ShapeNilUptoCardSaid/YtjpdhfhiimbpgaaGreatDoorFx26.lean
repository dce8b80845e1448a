/-
  Ranges over functions whose elements are known to be some; functions with several ranges.
-/
import Derived.Test.YtjpdhfhiimbpgaaGreatDoorFx25
set_option linter.unusedSimpArgs false
set_option linter.unusedVariables false
set_option linter.unusedSectionVars false
namespace Go.Fx
open Go
/-- As Gives; the elements are ok. -/
def GivesO {α : Type} (P : Program) (g : Nat) (lb : Array Value) (N : Nat) (ok : α → Prop) (S Sp : List α → Prop) (enc : α → Array Value) (R : Hp) (Lit : List Hp) (post : Hp → List Hp → Prop) : Prop :=
  ∀ (l : Nat) (J Jx : List α → Hp → List Hp → Prop) (w : World) (Lb : List Hp), Sats w R (Lit ++ Lb) → (∀ pre R1 R2 L1, Le R1 R2 → J pre R1 L1 → J pre R2 L1) → (∀ pre R1 R2 L1, Le R1 R2 → Jx pre R1 L1 → Jx pre R2 L1) →
    (∀ pre x w1 R1 L1, ok x → J pre R1 L1 → Le R R1 → Sats w1 R1 L1 → pre.length < N → YieldS P l (enc x) w1 R1 L1 fun b R' L' => if b = true then J (pre ++ [x]) R' L' else Jx (pre ++ [x]) R' L') →
    J [] R Lb →
    Calls P g (#[.func (.yield l) #[] #[]] ++ lb) w fun e w' => (∃ v, e = .returned v) ∧ ∃ R' Lit' Lb', Step w R (Lit ++ Lb) w' R' (Lit' ++ Lb') ∧ post R' Lit' ∧
      ((∃ xs, S xs ∧ J xs R' Lb') ∨ (∃ pre, Sp pre ∧ Jx pre R' Lb'))
section
variable {P : Program} {n : Nat} {Q : QT} {σ : Fr} {w w0 : World} {R0 R : Hp} {L0 Lc : List Hp}
/-- As W_rangeFuncB, the elements known to be ok. -/
theorem W_rangeFuncO {α : Type} {g : Operand} {ps : Array Nat} {assign body : Code} {gf : Nat} {lb : Array Value} {N : Nat} {ok : α → Prop} {S Sp : List α → Prop} {enc : α → Array Value} {Lit Lb : List Hp} {post : Hp → List Hp → Prop}
    (hg : ev σ g = .func (.func gf) #[] lb) (eg : Ent P gf) (hst : Step w0 R0 L0 w R (Lit ++ Lb)) (hgives : GivesO P gf lb N ok S Sp enc R Lit post)
    (J : List α → Hp → List Hp → Prop) (Jx : Code → List α → Hp → List Hp → Prop) (hJ : ∀ pre R1 R2 L1, Le R1 R2 → J pre R1 L1 → J pre R2 L1) (hJx : ∀ c pre R1 R2 L1, Le R1 R2 → Jx c pre R1 L1 → Jx c pre R2 L1)
    (h0 : J [] R Lb) (hps : (ps.toList.all fun p => Nat.blt p n) = true) (hsz : ∀ x, (enc x).size = ps.size)
    (hround : ∀ l pre x w1 R1 L1, ok x → J pre R1 L1 → Le R R1 → pre.length < N → Sats w1 R1 L1 →
      W (some l) P n assign (thenQ (fun τ w2 => ∃ L2, Step w1 R1 L1 w2 R1 L2 ∧ ∀ w3, Sats w3 R1 L2 → W (some l) P n body (roundQ w3 R1 L2 J Jx (pre ++ [x])) τ w3) (fun _ _ _ => False)) (setp (clr σ) ps.toList (enc x).toList) w1)
    (hdone : ∀ D xs w' R' Lit' Lb', S xs → J xs R' Lb' → post R' Lit' → Le R R' → Step w0 R0 L0 w' R' (one D (.deferred (some [])) :: (Lit' ++ Lb')) → Q .normal (mark D σ) w')
    (hstop : ∀ D c pre w' R' Lit' Lb', Sp pre → Jx c pre R' Lb' → post R' Lit' → Le R R' → Step w0 R0 L0 w' R' (one D (.deferred (some [])) :: (Lit' ++ Lb')) → W none P n c Q (mark D σ) w') :
    W none P n (.rangeFunc g ps assign body) Q σ w := by
  refine ⟨fun a ha => wpIn_rangeFunc fun fn _ => ?_⟩
  obtain ⟨rec, hrec⟩ : ∃ rec : LoopState → Option Code → Loop, rec = fun st pe => { state := st, pending := pe, fn, tmps := a.tmps, params := ps, assign, body, defers := w.heap.size } := ⟨_, rfl⟩
  obtain ⟨W1, hW1⟩ : ∃ W1, (w.alloc (.deferred (some []))).alloc (.loop (rec .ready none)) = W1 := ⟨_, rfl⟩
  have hst1 : Step w0 R0 L0 W1 R (one (w.heap.size + 1) (.loop (rec .ready none)) :: one w.heap.size (.deferred (some [])) :: (Lit ++ Lb)) := by
    have h1 := (hst.push (.deferred (some []))).push (.loop (rec .ready none))
    rw [show (push w (.deferred (some []))).heap.size = w.heap.size + 1 by simp [push]] at h1
    rw [← hW1]
    exact h1
  refine ⟨w.heap.size + 1, [{ target := .collected w.heap.size, args := #[] }], W1, { target := .fn (.func gf) lb, args := #[.func (.yield (w.heap.size + 1)) #[] #[]] }, W1, gf,
    #[.func (.yield (w.heap.size + 1)) #[] #[]] ++ lb, W1, ?_, ?_, fun _ _ => trivial, ?_, (fun h => by cases h), ?_⟩
  · rw [← hW1, hrec]; exact run_enterLoop_outer _ _ _ _ _
  · simp only [resolve, ha.eval, hg]
    simp [go_sem, ev]
  · have := eg (#[.func (.yield (w.heap.size + 1)) #[] #[]] ++ lb) W1
    simp [invoke, go_sem, this]
  · generalize hl : w.heap.size + 1 = l at *
    generalize hD : w.heap.size = D at *
    have hperm : Step w0 R0 L0 W1 R (Lit ++ (one l (.loop (rec .ready none)) :: one D (.deferred (some [])) :: Lb)) := hst1.perm (by
      have := List.perm_append_comm (l₁ := [one l (.loop (rec .ready none)), one D (.deferred (some []))]) (l₂ := Lit)
      simpa using this.append_right Lb)
    refine calls_rof.2 ((hgives l (fun pre R1 L1 => ∃ Lq, L1 = one l (.loop (rec .ready none)) :: one D (.deferred (some [])) :: Lq ∧ J pre R1 Lq)
      (fun pre R1 L1 => ∃ c Lq, L1 = one l (.loop (rec .done (some c))) :: one D (.deferred (some [])) :: Lq ∧ Jx c pre R1 Lq) W1 (one l (.loop (rec .ready none)) :: one D (.deferred (some [])) :: Lb) hperm.sats
      (fun pre R1 R2 L1 hle ⟨Lq, e, h⟩ => ⟨Lq, e, hJ _ _ _ _ hle h⟩) (fun pre R1 R2 L1 hle ⟨c, Lq, e, h⟩ => ⟨c, Lq, e, hJx _ _ _ _ _ hle h⟩) ?_ ⟨Lb, rfl, h0⟩).mono ?_)
    · rintro pre x w1 R1 L1 hok ⟨Lq, rfl, hJ1⟩ hle hs hlen
      have hs1 := Step.refl hs
      have hb1 := hs1.blk (i := 0) rfl
      have hpar : (rec .ready none).params = ps := by rw [hrec]
      have htm : (rec .ready none).tmps = a.tmps := by rw [hrec]
      refine ⟨_, _, _, _, run_yield hb1 (by rw [hpar]; exact hsz x), roundIn_of_wpIn (F := rof none) trivial ?_⟩
      rw [show (rec .ready none).assign = assign by rw [hrec], show (rec .ready none).body = body by rw [hrec], htm, hpar]
      have hrel := rel_setp (n := n) ps.toList (enc x).toList _ _ hps ha.clr
      have hzip : (ps.zip (enc x)).foldl (fun tmps (t, v) => tmps.setIfInBounds t v) a.tmps = (ps.toList.zip (enc x).toList).foldl (fun t (p, v) => t.setIfInBounds p v) a.tmps := by
        rw [← Array.foldl_toList, Array.toList_zip]
      rw [hzip]
      refine wpIn_mono ((hround l pre x w1 R1 Lq hok hJ1 hle hlen hs.tail2).run _ hrel) ?_
      rintro e a1 w2 ⟨τ, hτ, q⟩
      cases e with
      | normal =>
        obtain ⟨L2, k2, hbody⟩ := q
        have hs1' := (hs1.toEnd.call k2).fromEnd
        refine ⟨_, run_beginRound (hs1'.blk (i := 0) rfl) (by rw [hrec]), ?_⟩
        have hs2 := (hs1'.set0 (.loop { rec .ready none with state := .busy }))
        refine wpIn_mono ((hbody _ hs2.sats.tail2).run _ hτ) ?_
        rintro e a2 w3 ⟨τ2, _, q2⟩
        have fin : ∀ {R' : Hp} {L' : List Hp} (jump : Option Code), Step (setB w2 l (.loop { rec .ready none with state := .busy })) R1 L2 w3 R' L' →
            ∃ w4, (Instr.endRound l jump).run P w3 = .ok (.bool jump.isNone) w4 ∧ Step w1 R1 (one l (.loop (rec .ready none)) :: one D (.deferred (some [])) :: Lq) w4 R' (one l (.loop (rec (if jump.isNone then .ready else .done) jump)) :: one D (.deferred (some [])) :: L') := by
          intro R' L' jump k
          have hs3 := (hs2.toEnd.call k).fromEnd
          refine ⟨_, run_endRound jump (hs3.blk (i := 0) rfl), ?_⟩
          have := hs3.set0 (.loop { { rec .ready none with state := .busy } with state := if jump.isNone then .ready else .done, pending := jump })
          rw [hrec] at this ⊢
          exact this
        cases e with
        | normal =>
          obtain ⟨R', L', k, hj⟩ := q2
          obtain ⟨w4, hr, hs4⟩ := fin none k
          exact ⟨_, w4, hr, true, R', _, rfl, hs4, ⟨L', rfl, hj⟩⟩
        | ret =>
          obtain ⟨R', L', k, hj⟩ := q2
          obtain ⟨w4, hr, hs4⟩ := fin (some .ret) k
          exact ⟨_, w4, hr, false, R', _, rfl, hs4, ⟨.ret, L', rfl, hj⟩⟩
        | exit id =>
          obtain ⟨R', L', k, hj⟩ := q2
          obtain ⟨w4, hr, hs4⟩ := fin (some (.exit id)) k
          exact ⟨_, w4, hr, false, R', _, rfl, hs4, ⟨.exit id, L', rfl, hj⟩⟩
        | _ => exact q2.elim
      | _ => exact q.elim
    · rintro e w2 ⟨⟨v, rfl⟩, R', Lit', Lb', hstep, hpost, hor⟩
      have hle : Le R R' := hstep.rle
      have hfull : Step w0 R0 L0 w2 R' (Lit' ++ Lb') := by
        have := Step.call (Lb := []) (by simpa using hperm) hstep
        simpa using this
      have fin : ∀ {r : Loop} {Lq : List Hp}, Lb' = one l (.loop r) :: one D (.deferred (some [])) :: Lq → r.state ≠ .busy → ∃ w3, (Instr.endLoop l).run P w2 = .ok r.pending w3 ∧ Step w0 R0 L0 w3 R' (one D (.deferred (some [])) :: (Lit' ++ Lq)) := by
        intro r Lq e hb
        subst e
        have h1 : Step w0 R0 L0 w2 R' (one l (.loop r) :: one D (.deferred (some [])) :: (Lit' ++ Lq)) := hfull.perm (by
          have := List.perm_append_comm (l₁ := Lit') (l₂ := [one l (.loop r), one D (.deferred (some []))])
          simpa using this.append_right Lq)
        exact ⟨_, run_endLoop (h1.blk (i := 0) rfl) hb, (h1.set0 (.loop { r with state := .exhausted })).drop⟩
      rcases hor with ⟨xs, hS, Lq, e, hj⟩ | ⟨pre, hSp, c, Lq, e, hj⟩
      · obtain ⟨w3, hr, hs3⟩ := fin e (by rw [hrec]; simp)
        refine ⟨none, w3, by rw [hr, hrec], ?_⟩
        exact ⟨_, ha.mark D, hdone D xs w3 R' Lit' Lq hS hj hpost hle hs3⟩
      · obtain ⟨w3, hr, hs3⟩ := fin e (by rw [hrec]; simp)
        refine ⟨some c, w3, by rw [hr, hrec], ?_⟩
        exact (hstop D c pre w3 R' Lit' Lq hSp hj hpost hle hs3).run _ (ha.mark D)

/-- The blocks of ranges that are over. -/
inductive Defs : List Nat → Hp → Prop
  | nil : Defs [] non
  | cons {D Ds c} : Defs Ds c → Dj (one D (.deferred (some []))) c → Defs (D :: Ds) (uni (one D (.deferred (some []))) c)
theorem Defs.add {D : Nat} {Ds : List Nat} {c : Hp} {Lr : List Hp} (h : Step w0 R0 L0 w R (one D (.deferred (some [])) :: c :: Lr)) (hd : Defs Ds c) : ∃ c', Step w0 R0 L0 w R (c' :: Lr) ∧ Defs (D :: Ds) c' :=
  ⟨_, h.join, .cons hd h.dj2⟩
theorem mks_mark {D : Nat} {σ : Fr} {l : List Nat} (h : mks (σ 0) = l) : mks (mark D σ 0) = D :: l := by
  show mks (pushM D (σ 0)) = _
  rw [mks_push, h]
theorem leaves_defs {fn : Func} {tmps : Array Value} {v : Value} : ∀ (Ds : List Nat) (w : World) (c : Hp) (Lr : List Hp), Step w0 R0 L0 w R (c :: Lr) → Defs Ds c →
    ∃ w', Step w0 R0 L0 w' R Lr ∧ ((∀ w2, (results fn tmps).run P w2 = .ok v w2) → ∀ Q : Ending → World → Prop, Q (.returned v) w' → LeavesInM (rof none) 0 P fn tmps Q (Ds.map mkD) .returning w)
  | [], w, c, Lr, h, hd => ⟨w, h.drop, fun hv Q hQ => ⟨v, hv w, hQ⟩⟩
  | D :: Ds, w, c, Lr, h, hd => by
    cases hd with
    | @cons _ _ c' hd' hj =>
      have h1 := h.split hj
      have hb := h1.blk (i := 0) rfl
      have h2 : Step w0 R0 L0 (w.putObj D (.deferred none)) R (c' :: Lr) := (h1.set0 (.deferred none)).drop
      obtain ⟨w', h3, h4⟩ := leaves_defs Ds _ c' Lr h2 hd'
      exact ⟨w', h3, fun hv Q hQ => ⟨by simp, .inl ⟨D, _, rfl, run_takeDeferred hb, h4 hv Q hQ⟩⟩⟩
/-- Marks of several ranges: their blocks are shut; then the results, that stand in the frame, are read. -/
theorem res_runN {fn : Func} {rs : List ResultVar} {vs : List Value} {Ds : List Nat} {c : Hp} {Lr : List Hp} (hr : fn.results = rs.toArray) (h : ∀ w2, Res P σ w2 rs vs) (hst : Step w0 R0 L0 w R (c :: Lr)) (hd : Defs Ds c) (h0 : mks (σ 0) = Ds) :
    ∃ w', Step w0 R0 L0 w' R Lr ∧ ∀ a, Rel n a σ → Leaves P fn a w (retV vs) w' := by
  have key := leaves_defs (P := P) (fn := fn) (v := retV vs) (tmps := #[]) Ds w c Lr hst hd
  clear key
  have gen : ∀ (Ds : List Nat) (w : World) (c : Hp) (Lr : List Hp), Step w0 R0 L0 w R (c :: Lr) → Defs Ds c →
      ∃ w', Step w0 R0 L0 w' R Lr ∧ ∀ tmps, (∀ w2, (results fn tmps).run P w2 = .ok (retV vs) w2) → ∀ Q : Ending → World → Prop, Q (.returned (retV vs)) w' → LeavesInM (rof none) 0 P fn tmps Q (Ds.map mkD) .returning w := by
    intro Ds
    induction Ds with
    | nil => intro w c Lr h hd; exact ⟨w, h.drop, fun tmps hv Q hQ => ⟨_, hv w, hQ⟩⟩
    | cons D Ds ih =>
      intro w c Lr h hd
      cases hd with
      | @cons _ _ c' hd' hj =>
        have h1 := h.split hj
        have hb := h1.blk (i := 0) rfl
        have h2 : Step w0 R0 L0 (w.putObj D (.deferred none)) R (c' :: Lr) := (h1.set0 (.deferred none)).drop
        obtain ⟨w', h3, h4⟩ := ih _ c' Lr h2 hd'
        exact ⟨w', h3, fun tmps hv Q hQ => ⟨by simp, .inl ⟨D, _, rfl, run_takeDeferred hb, h4 tmps hv Q hQ⟩⟩⟩
  obtain ⟨w', h1, h2⟩ := gen Ds w c Lr hst hd
  refine ⟨w', h1, fun a ha Q hQ => ?_⟩
  rw [ha.defers, h0]
  exact h2 a.tmps (fun w2 => res_run0 hr (h w2) a ha) Q hQ
end
end Go.Fx
