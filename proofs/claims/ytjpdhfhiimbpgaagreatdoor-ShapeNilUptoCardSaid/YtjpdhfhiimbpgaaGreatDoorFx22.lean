/-
  Ranges over functions where what a round is given is boxed.
-/
import Derived.Test.YtjpdhfhiimbpgaaGreatDoorFx20
set_option linter.unusedSimpArgs false
set_option linter.unusedVariables false
set_option linter.unusedSectionVars false
namespace Go.Fx
open Go
section
variable {P : Program} {n : Nat} {Q : QT} {σ : Fr} {w w0 : World} {R0 R : Hp} {L0 Lc : List Hp}
/-- As W_rangeFunc, where what a round is given is boxed. -/
theorem W_rangeFuncB {α : Type} {g : Operand} {ps : Array Nat} {assign body : Code} {gf : Nat} {lb : Array Value} {N : Nat} {S Sp : List α → Prop} {enc : α → Array Value} {Lit Lb : List Hp} {post : Hp → List Hp → Prop}
    (hg : ev σ g = .func (.func gf) #[] lb) (eg : Ent P gf) (hst : Step w0 R0 L0 w R (Lit ++ Lb)) (hgives : Gives P gf lb N S Sp enc R Lit post)
    (J : List α → Hp → List Hp → Prop) (Jx : Code → List α → Hp → List Hp → Prop) (hJ : ∀ pre R1 R2 L1, Le R1 R2 → J pre R1 L1 → J pre R2 L1) (hJx : ∀ c pre R1 R2 L1, Le R1 R2 → Jx c pre R1 L1 → Jx c pre R2 L1)
    (h0 : J [] R Lb) (hps : (ps.toList.all fun p => Nat.blt p n) = true) (hsz : ∀ x, (enc x).size = ps.size)
    (hround : ∀ l pre x w1 R1 L1, J pre R1 L1 → Le R R1 → pre.length < N → Sats w1 R1 L1 →
      W (some l) P n assign (thenQ (fun τ w2 => ∃ L2, Step w1 R1 L1 w2 R1 L2 ∧ ∀ w3, Sats w3 R1 L2 → W (some l) P n body (roundQ w3 R1 L2 J Jx (pre ++ [x])) τ w3) (fun _ _ _ => False)) (setp (clr σ) ps.toList (enc x).toList) w1)
    (hdone : ∀ D xs w' R' Lit' Lb', S xs → J xs R' Lb' → post R' Lit' → Le R R' → Step w0 R0 L0 w' R' (one D (.deferred (some [])) :: (Lit' ++ Lb')) → Q .normal (mark D σ) w')
    (hstop : ∀ D c pre w' R' Lit' Lb', Sp pre → Jx c pre R' Lb' → post R' Lit' → Le R R' → Step w0 R0 L0 w' R' (one D (.deferred (some [])) :: (Lit' ++ Lb')) → W none P n c Q (mark D σ) w') :
    W none P n (.rangeFunc g ps assign body) Q σ w := by
  refine ⟨fun a ha => wpIn_rangeFunc fun fn _ => ?_⟩
  obtain ⟨rec, hrec⟩ : ∃ rec : LoopState → Option Code → Loop, rec = fun st pe => { state := st, pending := pe, fn, tmps := a.tmps, params := ps, assign, body, defers := w.heap.size } := ⟨_, rfl⟩
  obtain ⟨W1, hW1⟩ : ∃ W1, (w.alloc (.deferred (some []))).alloc (.loop (rec .ready none)) = W1 := ⟨_, rfl⟩
  have hst1 : Step w0 R0 L0 W1 R (one (w.heap.size + 1) (.loop (rec .ready none)) :: one w.heap.size (.deferred (some [])) :: (Lit ++ Lb)) := by
    have h1 := (hst.push (.deferred (some []))).push (.loop (rec .ready none))
    rw [show (push w (.deferred (some []))).heap.size = w.heap.size + 1 by simp [push]] at h1
    rw [← hW1]
    exact h1
  refine ⟨w.heap.size + 1, [{ target := .collected w.heap.size, args := #[] }], W1, { target := .fn (.func gf) lb, args := #[.func (.yield (w.heap.size + 1)) #[] #[]] }, W1, gf,
    #[.func (.yield (w.heap.size + 1)) #[] #[]] ++ lb, W1, ?_, ?_, fun _ _ => trivial, ?_, (fun h => by cases h), ?_⟩
  · rw [← hW1, hrec]; exact run_enterLoop_outer _ _ _ _ _
  · simp only [resolve, ha.eval, hg]
    simp [go_sem, ev]
  · have := eg (#[.func (.yield (w.heap.size + 1)) #[] #[]] ++ lb) W1
    simp [invoke, go_sem, this]
  · generalize hl : w.heap.size + 1 = l at *
    generalize hD : w.heap.size = D at *
    have hperm : Step w0 R0 L0 W1 R (Lit ++ (one l (.loop (rec .ready none)) :: one D (.deferred (some [])) :: Lb)) := hst1.perm (by
      have := List.perm_append_comm (l₁ := [one l (.loop (rec .ready none)), one D (.deferred (some []))]) (l₂ := Lit)
      simpa using this.append_right Lb)
    refine calls_rof.2 ((hgives l (fun pre R1 L1 => ∃ Lq, L1 = one l (.loop (rec .ready none)) :: one D (.deferred (some [])) :: Lq ∧ J pre R1 Lq)
      (fun pre R1 L1 => ∃ c Lq, L1 = one l (.loop (rec .done (some c))) :: one D (.deferred (some [])) :: Lq ∧ Jx c pre R1 Lq) W1 (one l (.loop (rec .ready none)) :: one D (.deferred (some [])) :: Lb) hperm.sats
      (fun pre R1 R2 L1 hle ⟨Lq, e, h⟩ => ⟨Lq, e, hJ _ _ _ _ hle h⟩) (fun pre R1 R2 L1 hle ⟨c, Lq, e, h⟩ => ⟨c, Lq, e, hJx _ _ _ _ _ hle h⟩) ?_ ⟨Lb, rfl, h0⟩).mono ?_)
    · rintro pre x w1 R1 L1 ⟨Lq, rfl, hJ1⟩ hle hs hlen
      have hs1 := Step.refl hs
      have hb1 := hs1.blk (i := 0) rfl
      have hpar : (rec .ready none).params = ps := by rw [hrec]
      have htm : (rec .ready none).tmps = a.tmps := by rw [hrec]
      refine ⟨_, _, _, _, run_yield hb1 (by rw [hpar]; exact hsz x), roundIn_of_wpIn (F := rof none) trivial ?_⟩
      rw [show (rec .ready none).assign = assign by rw [hrec], show (rec .ready none).body = body by rw [hrec], htm, hpar]
      have hrel := rel_setp (n := n) ps.toList (enc x).toList _ _ hps ha.clr
      have hzip : (ps.zip (enc x)).foldl (fun tmps (t, v) => tmps.setIfInBounds t v) a.tmps = (ps.toList.zip (enc x).toList).foldl (fun t (p, v) => t.setIfInBounds p v) a.tmps := by
        rw [← Array.foldl_toList, Array.toList_zip]
      rw [hzip]
      refine wpIn_mono ((hround l pre x w1 R1 Lq hJ1 hle hlen hs.tail2).run _ hrel) ?_
      rintro e a1 w2 ⟨τ, hτ, q⟩
      cases e with
      | normal =>
        obtain ⟨L2, k2, hbody⟩ := q
        have hs1' := (hs1.toEnd.call k2).fromEnd
        refine ⟨_, run_beginRound (hs1'.blk (i := 0) rfl) (by rw [hrec]), ?_⟩
        have hs2 := (hs1'.set0 (.loop { rec .ready none with state := .busy }))
        refine wpIn_mono ((hbody _ hs2.sats.tail2).run _ hτ) ?_
        rintro e a2 w3 ⟨τ2, _, q2⟩
        have fin : ∀ {R' : Hp} {L' : List Hp} (jump : Option Code), Step (setB w2 l (.loop { rec .ready none with state := .busy })) R1 L2 w3 R' L' →
            ∃ w4, (Instr.endRound l jump).run P w3 = .ok (.bool jump.isNone) w4 ∧ Step w1 R1 (one l (.loop (rec .ready none)) :: one D (.deferred (some [])) :: Lq) w4 R' (one l (.loop (rec (if jump.isNone then .ready else .done) jump)) :: one D (.deferred (some [])) :: L') := by
          intro R' L' jump k
          have hs3 := (hs2.toEnd.call k).fromEnd
          refine ⟨_, run_endRound jump (hs3.blk (i := 0) rfl), ?_⟩
          have := hs3.set0 (.loop { { rec .ready none with state := .busy } with state := if jump.isNone then .ready else .done, pending := jump })
          rw [hrec] at this ⊢
          exact this
        cases e with
        | normal =>
          obtain ⟨R', L', k, hj⟩ := q2
          obtain ⟨w4, hr, hs4⟩ := fin none k
          exact ⟨_, w4, hr, true, R', _, rfl, hs4, ⟨L', rfl, hj⟩⟩
        | ret =>
          obtain ⟨R', L', k, hj⟩ := q2
          obtain ⟨w4, hr, hs4⟩ := fin (some .ret) k
          exact ⟨_, w4, hr, false, R', _, rfl, hs4, ⟨.ret, L', rfl, hj⟩⟩
        | exit id =>
          obtain ⟨R', L', k, hj⟩ := q2
          obtain ⟨w4, hr, hs4⟩ := fin (some (.exit id)) k
          exact ⟨_, w4, hr, false, R', _, rfl, hs4, ⟨.exit id, L', rfl, hj⟩⟩
        | _ => exact q2.elim
      | _ => exact q.elim
    · rintro e w2 ⟨⟨v, rfl⟩, R', Lit', Lb', hstep, hpost, hor⟩
      have hle : Le R R' := hstep.rle
      have hfull : Step w0 R0 L0 w2 R' (Lit' ++ Lb') := by
        have := Step.call (Lb := []) (by simpa using hperm) hstep
        simpa using this
      have fin : ∀ {r : Loop} {Lq : List Hp}, Lb' = one l (.loop r) :: one D (.deferred (some [])) :: Lq → r.state ≠ .busy → ∃ w3, (Instr.endLoop l).run P w2 = .ok r.pending w3 ∧ Step w0 R0 L0 w3 R' (one D (.deferred (some [])) :: (Lit' ++ Lq)) := by
        intro r Lq e hb
        subst e
        have h1 : Step w0 R0 L0 w2 R' (one l (.loop r) :: one D (.deferred (some [])) :: (Lit' ++ Lq)) := hfull.perm (by
          have := List.perm_append_comm (l₁ := Lit') (l₂ := [one l (.loop r), one D (.deferred (some []))])
          simpa using this.append_right Lq)
        exact ⟨_, run_endLoop (h1.blk (i := 0) rfl) hb, (h1.set0 (.loop { r with state := .exhausted })).drop⟩
      rcases hor with ⟨xs, hS, Lq, e, hj⟩ | ⟨pre, hSp, c, Lq, e, hj⟩
      · obtain ⟨w3, hr, hs3⟩ := fin e (by rw [hrec]; simp)
        refine ⟨none, w3, by rw [hr, hrec], ?_⟩
        exact ⟨_, ha.mark D, hdone D xs w3 R' Lit' Lq hS hj hpost hle hs3⟩
      · obtain ⟨w3, hr, hs3⟩ := fin e (by rw [hrec]; simp)
        refine ⟨some c, w3, by rw [hr, hrec], ?_⟩
        exact (hstop D c pre w3 R' Lit' Lq hSp hj hpost hle hs3).run _ (ha.mark D)
end
end Go.Fx
