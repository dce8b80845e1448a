/-
  Chapter 14: the plain law of ProfileSteps.
-/
import Derived.Test.YtdkjoljcffkpkaaDoorPrF
set_option linter.unusedSimpArgs false
set_option linter.unusedVariables false
set_option linter.unusedSectionVars false
namespace Go.Fx
open Go Go.MapKept
section
variable {κ β : Type} [DecidableEq κ] {P : Program} {w w0 : World} {R0 R : Hp} {L0 Lr : List Hp} {kT eT T : TypeId} {kenc : κ → Value} {vr : β → Value → Prop} {bo : Option Nat} {m : List (κ × β)} {c : Hp} {agg : Bool} {sz bytes : Nat} {z : Value}
theorem AL.set_self {m : List (κ × β)} {k : κ} {v : β} (h : AL.get m k = some v) : AL.set m k v = m := by
  induction m with
  | nil => cases h
  | cons a l ih =>
    obtain ⟨j, u⟩ := a
    by_cases e : j = k
    · subst e
      simp [AL.get] at h
      subst h
      simp [AL.set]
    · simp only [AL.get, e, if_false] at h
      simp only [AL.set, e, if_false, ih h]
/-- An entry is laid; where there was none, it holds the zero. -/
theorem MapC.entry0 {b : Nat} (h : MapC kenc vr (some b) m c) (hst : Step w0 R0 L0 w R (c :: Lr)) (K : KeyLaw (β := β) P kT kenc) (hT : P.underlying T = some (.map kT eT)) (he : TI P eT agg sz bytes z) (k : κ) (d : β) (hd : vr d z) :
    ∃ v0 st ob w', (Instr.mapEntry T (.map (some b)) (kenc k)).run P w = .ok (.tuple #[v0, int st]) w' ∧ Step w0 R0 L0 w' R (one b ob :: Lr) ∧
      (∀ (w' : World) (R : Hp) (Lr : List Hp) x v, Step w0 R0 L0 w' R (one b ob :: Lr) → vr x v →
        ∃ c' w'', (Instr.entryStore T (.map (some b)) (int st) v).run P w' = .ok () w'' ∧ MapC kenc vr (some b) (AL.set m k x) c' ∧ Step w0 R0 L0 w'' R (c' :: Lr)) ∧
      MapC kenc vr (some b) (AL.set m k ((AL.get m k).getD d)) (one b ob) := by
  rcases h with ⟨h1, _, _⟩ | ⟨b', es, ck, h1, rfl, h3, h4⟩
  · cases h1
  · cases h1
    have hb := hst.blk (i := 0) rfl
    have hlt : b < w.heap.size := (Array.getElem?_eq_some_iff.1 hb).1
    obtain ⟨v0, st, es1, c1, hr, hk, hsame⟩ := run_mapEntry (w := w) K hT he hb h3 h4 k
    refine ⟨v0, st, _, _, hr, hst.set0 _, fun w' R Lr x v hst' hv => ?_, ?_⟩
    · obtain ⟨es2, hr2, hm, hB⟩ := hk w' x v (hst'.blk (i := 0) rfl) hv
      exact ⟨_, _, hr2, .inr ⟨b, es2, c1, rfl, rfl, hm, hB⟩, hst'.set0 _⟩
    · rcases place_get k h3 with ⟨p1, p2⟩ | ⟨i, y, u, p1, p2, p3, p4, p5⟩
      · have hg : (getObj b).run P w = .ok (.map es ck) w := by simp [getObj, Sem.run, hb]
        have hr2 : (Instr.mapEntry T (.map (some b)) (kenc k)).run P w = .ok (.tuple #[z, int ck]) (setB w b (.map (es.push { key := kenc k, val := z, born := ck }) (ck + 1))) := by
          unfold Instr.mapEntry
          simp only [Sem.run_bind, run_underlying hT, Result.andThen_ok, hg, K.check, K.find vr k es.toList m w h3, p1, Option.map_none, he.run_zero, run_setObj_map hb, Sem.run_pure]
          rfl
        rw [hr] at hr2
        have hw := (Result.ok.inj hr2).2
        have e := congrArg (fun w => hp w b) hw
        simp only [hp_setB hlt, Option.some.injEq, Obj.map.injEq] at e
        obtain ⟨e1, e2⟩ := e
        rw [p2, e1, e2]
        refine .inr ⟨b, _, _, rfl, rfl, ?_, by simpa using h4.push _ rfl⟩
        rw [Array.toList_push]
        exact h3.push k d z ck hd p1
      · rw [p2]
        have hn : AL.get m k ≠ none := by rw [p2]; simp
        obtain ⟨rfl, rfl⟩ := hsame hn
        rw [show AL.set m k ((some y).getD d) = m from AL.set_self p2]
        exact .inr ⟨b, _, _, rfl, rfl, h3, h4⟩
end
end Go.Fx
namespace Go.Fx.YtdkjoljcffkpkaaDoor
open Go Go.Fx Go.Proofs
set_option maxRecDepth 20000

theorem x_eqlS {P : Program} {w : World} {ρ : Operand → Value} {o : Oper} {t yt : TypeId} {p q : Operand} {a b : ByteArray} (ho : o.op = .binOp .eql t p q yt) (hx : ρ p = .string a) (hy : ρ q = .string b) : (execOp ρ o).run P w = .ok (.value (.bool (a.toList == b.toList))) w := by
  unfold execOp
  simp only [ho, hx, hy, eqGuard, binOp, Op.stringOp, Sem.run_bind, Sem.run_pure, Result.andThen_ok, if_true]
  rfl
theorem toList_ne {a b : ByteArray} (h : a ≠ b) : (a.toList == b.toList) = false := by
  refine beq_false_of_ne fun e => h ?_
  rw [ByteArray.toList_eq, ByteArray.toList_eq] at e
  obtain ⟨a⟩ := a
  obtain ⟨b⟩ := b
  exact congrArg ByteArray.mk (Array.toList_inj.1 e)

theorem joinW_ne {t : ByteArray} {l : List Wd} (h : t.size ≠ 0) : joinW (.s t :: l) ≠ ⟨#[]⟩ := by
  intro e
  have e1 := congrArg ByteArray.size e
  rw [joinW_size, List.map_cons, Lib.join_length, lens_cons] at e1
  have e2 : (Wd.s t).txt.data.toList.length = t.size := Array.length_toList ..
  have e3 : (⟨#[]⟩ : ByteArray).size = 0 := rfl
  omega
theorem ne_size {t : ByteArray} (h : t ≠ ⟨#[]⟩) : t.size ≠ 0 := by
  intro e
  apply h
  obtain ⟨a⟩ := t
  have : a.size = 0 := e
  rw [Array.eq_empty_of_size_eq_zero this]
theorem app_ne {t u : ByteArray} (h : t.size ≠ 0) : (t ++ u).size ≠ 0 := by
  rw [size_append]; omega

def stepT (T : List (Pl × Int)) (d : Dec) : List (Pl × Int) := AL.set T d.pl d.tier
def stepF (T F : List (Pl × Int)) (d : Dec) : List (Pl × Int) := if d.tier < (AL.get T d.pl).getD 0 then AL.set F d.pl ((AL.get F d.pl).getD 0 + 1) else F
def hist (l : List Dec) : List (Pl × Int) × List (Pl × Int) := l.foldl (fun q d => (stepT q.1 d, stepF q.1 q.2 d)) ([], [])
theorem hist_snoc (l : List Dec) (d : Dec) : hist (l ++ [d]) = (stepT (hist l).1 d, stepF (hist l).1 (hist l).2 d) := by
  unfold hist
  rw [List.foldl_append]
  rfl
theorem hist_take {l : List Dec} {k : Nat} {d : Dec} (hk : k < l.length) (e : d = l[k]) : hist (l.take (k + 1)) = (stepT (hist (l.take k)).1 d, stepF (hist (l.take k)).1 (hist (l.take k)).2 d) := by
  rw [List.take_succ_eq_append_getElem hk, ← e, hist_snoc]
theorem stepF_lo {T F : List (Pl × Int)} {d : Dec} (h : d.tier < (AL.get T d.pl).getD 0) : stepF T F d = AL.set F d.pl ((AL.get F d.pl).getD 0 + 1) := by unfold stepF; rw [if_pos h]
theorem stepF_hi {T F : List (Pl × Int)} {d : Dec} (h : ¬ d.tier < (AL.get T d.pl).getD 0) : stepF T F d = F := by unfold stepF; rw [if_neg h]

structure Chk (T F : List (Pl × Int)) (d : Dec) : Prop where
  old : 0 ≤ (AL.get T d.pl).getD 0
  top : (AL.get T d.pl).getD 0 ≤ 2
  up : d.tier ≤ (AL.get T d.pl).getD 0 + 1
  ne : d.tier ≠ (AL.get T d.pl).getD 0
  low : -1 ≤ d.tier
  reason : d.reason ≠ ⟨#[]⟩
  f0 : 0 ≤ (AL.get F d.pl).getD 0
  f3 : (AL.get F d.pl).getD 0 ≤ 3
  fin : d.tier = -1 ↔ (AL.get (stepF T F d) d.pl).getD 0 = 3
  le : (AL.get (stepF T F d) d.pl).getD 0 ≤ 3
theorem bne_of_iff {a b : Int} {c d : Int} (h : a = b ↔ c = d) : ((a == b) != (c == d)) = false := by
  have e : (a == b) = (c == d) := decide_eq_decide.2 h
  rw [e]
  exact bne_self_eq_false _
theorem Chk.lo {T F : List (Pl × Int)} {d : Dec} (c : Chk T F d) (h : d.tier < (AL.get T d.pl).getD 0) :
    ((d.tier == -1) != ((AL.get (AL.set F d.pl ((AL.get F d.pl).getD 0 + 1)) d.pl).getD 0 == 3)) = false ∧ decide ((AL.get (AL.set F d.pl ((AL.get F d.pl).getD 0 + 1)) d.pl).getD 0 > 3) = false := by
  have h1 := c.fin
  have h2 := c.le
  rw [stepF_lo h] at h1 h2
  exact ⟨bne_of_iff h1, decide_eq_false (by omega)⟩
theorem Chk.hi {T F : List (Pl × Int)} {d : Dec} (c : Chk T F d) (h : ¬ d.tier < (AL.get T d.pl).getD 0) :
    ((d.tier == -1) != ((AL.get F d.pl).getD 0 == 3)) = false ∧ decide ((AL.get F d.pl).getD 0 > 3) = false := by
  have h1 := c.fin
  have h2 := c.le
  rw [stepF_hi h] at h1 h2
  exact ⟨bne_of_iff h1, decide_eq_false (by omega)⟩

structure RInv (r : Rec) : Prop where
  fin : r.tier = -1 ↔ r.failures = 3
  f0 : 0 ≤ r.failures
  f3 : r.failures ≤ 3
  t0 : -1 ≤ r.tier
  t2 : r.tier ≤ 2
structure HInv (s : PS) : Prop where
  chk : ∀ i (h : i < s.decs.length), Chk (hist (s.decs.take i)).1 (hist (s.decs.take i)).2 s.decs[i]
  tier : ∀ k, (AL.get (hist s.decs).1 k).getD 0 = (s.rc k).tier
  fails : ∀ k, (AL.get (hist s.decs).2 k).getD 0 = (s.rc k).failures
  recs : ∀ k, RInv (s.rc k)
theorem HInv.start (a b c d : Int) : HInv ⟨a, b, c, d, [], [], 0⟩ :=
  ⟨fun i h => by simp at h, fun k => rfl, fun k => rfl, fun k => ⟨by simp [PS.rc, AL.get, rec0], by simp [PS.rc, AL.get, rec0], by simp [PS.rc, AL.get, rec0], by simp [PS.rc, AL.get, rec0], by simp [PS.rc, AL.get, rec0]⟩⟩
theorem rc_put_j {s : PS} {k j : Pl} {r : Rec} : (s.put k r).rc j = if k = j then r else s.rc j := by
  simp only [PS.rc, PS.put, AL.get_set]
  split <;> rfl
theorem rc_decide_j {s : PS} {k j : Pl} {r : Rec} {t : Int} {b : ByteArray} : (s.decide k r t b).rc j = if k = j then { r with tier := t } else s.rc j := by
  simp only [PS.rc, PS.decide, AL.get_set]
  split <;> rfl
theorem HInv.put {s : PS} (h : HInv s) (k : Pl) {r : Rec} (ht : r.tier = (s.rc k).tier) (hf : r.failures = (s.rc k).failures) : HInv (s.put k r) := by
  refine ⟨h.chk, fun j => ?_, fun j => ?_, fun j => ?_⟩
  · rw [rc_put_j]
    split
    · rename_i e; subst e; rw [ht]; exact h.tier _
    · exact h.tier _
  · rw [rc_put_j]
    split
    · rename_i e; subst e; rw [hf]; exact h.fails _
    · exact h.fails _
  · rw [rc_put_j]
    split
    · rename_i e; subst e
      have := h.recs k
      exact ⟨by rw [ht, hf]; exact this.fin, by rw [hf]; exact this.f0, by rw [hf]; exact this.f3, by rw [ht]; exact this.t0, by rw [ht]; exact this.t2⟩
    · exact h.recs _
theorem HInv.decide {s : PS} (h : HInv s) (k : Pl) {r : Rec} {t : Int} {b : ByteArray} (h0 : 0 ≤ (s.rc k).tier) (hu : t ≤ (s.rc k).tier + 1) (hne : t ≠ (s.rc k).tier) (hl : -1 ≤ t) (ht2 : t ≤ 2) (hb : b ≠ ⟨#[]⟩)
    (hf : r.failures = if t < (s.rc k).tier then (s.rc k).failures + 1 else (s.rc k).failures) (hi : t = -1 ↔ r.failures = 3) (h3 : r.failures ≤ 3) : HInv (s.decide k r t b) := by
  have hr := h.recs k
  have hF : (AL.get (stepF (hist s.decs).1 (hist s.decs).2 ⟨k, t, b⟩) k).getD 0 = r.failures := by
    rw [hf]
    unfold stepF
    simp only [h.tier]
    by_cases e : t < (s.rc k).tier
    · rw [if_pos e, if_pos e, AL.get_set, if_pos rfl]
      show (AL.get (hist s.decs).2 k).getD 0 + 1 = _
      rw [h.fails]
    · rw [if_neg e, if_neg e, h.fails]
  have hF' : ∀ j, k ≠ j → (AL.get (stepF (hist s.decs).1 (hist s.decs).2 ⟨k, t, b⟩) j).getD 0 = (AL.get (hist s.decs).2 j).getD 0 := by
    intro j hj
    unfold stepF
    simp only
    split
    · rw [AL.get_set, if_neg hj]
    · rfl
  have hd : (s.decide k r t b).decs = s.decs ++ [⟨k, t, b⟩] := rfl
  refine ⟨fun i hi' => ?_, fun j => ?_, fun j => ?_, fun j => ?_⟩
  · by_cases e : i < s.decs.length
    · have := h.chk i e
      have e1 : (s.decide k r t b).decs.take i = s.decs.take i := by rw [hd, List.take_append_of_le_length (by omega)]
      have e2 : (s.decide k r t b).decs[i] = s.decs[i] := List.getElem_append_left (bs := [⟨k, t, b⟩]) e
      rw [e1, e2]
      exact this
    · have hlen : (s.decide k r t b).decs.length = s.decs.length + 1 := by rw [hd]; simp
      have ei : i = s.decs.length := by omega
      subst ei
      have e1 : (s.decide k r t b).decs.take s.decs.length = s.decs := by rw [hd, List.take_left']; rfl
      have e2 : (s.decide k r t b).decs[s.decs.length] = ⟨k, t, b⟩ := by
        have hg : ∀ (l : List Dec) (hl : l = s.decs ++ [⟨k, t, b⟩]) (h : s.decs.length < l.length), l[s.decs.length] = ⟨k, t, b⟩ := by
          rintro _ rfl h
          simp
        exact hg _ hd _
      rw [e1, e2]
      have ho := h.tier k
      have hfl := h.fails k
      exact ⟨by show 0 ≤ (AL.get (hist s.decs).1 k).getD 0; rw [ho]; exact h0, by show (AL.get (hist s.decs).1 k).getD 0 ≤ 2; rw [ho]; exact hr.t2, by show t ≤ (AL.get (hist s.decs).1 k).getD 0 + 1; rw [ho]; exact hu,
        by show t ≠ (AL.get (hist s.decs).1 k).getD 0; rw [ho]; exact hne, hl, hb, by show 0 ≤ (AL.get (hist s.decs).2 k).getD 0; rw [hfl]; exact hr.f0, by show (AL.get (hist s.decs).2 k).getD 0 ≤ 3; rw [hfl]; exact hr.f3,
        by show t = -1 ↔ (AL.get (stepF (hist s.decs).1 (hist s.decs).2 ⟨k, t, b⟩) k).getD 0 = 3; rw [hF]; exact hi, by show (AL.get (stepF (hist s.decs).1 (hist s.decs).2 ⟨k, t, b⟩) k).getD 0 ≤ 3; rw [hF]; exact h3⟩
  · rw [hd, hist_snoc, rc_decide_j]
    show (AL.get (AL.set (hist s.decs).1 k t) j).getD 0 = _
    rw [AL.get_set]
    split
    · rfl
    · exact h.tier _
  · rw [hd, hist_snoc, rc_decide_j]
    show (AL.get (stepF (hist s.decs).1 (hist s.decs).2 ⟨k, t, b⟩) j).getD 0 = _
    split
    · rename_i e; subst e; exact hF
    · rename_i e; rw [hF' j e]; exact h.fails _
  · rw [rc_decide_j]
    split
    · refine ⟨hi, ?_, h3, hl, ht2⟩
      show 0 ≤ r.failures
      rw [hf]
      have := hr.f0
      split <;> omega
    · exact h.recs _
theorem wWarm_ne : wWarm.size ≠ 0 := by decide
theorem wHot_ne : wHot.size ≠ 0 := by decide
theorem wExit_ne : wExit.size ≠ 0 := by decide
theorem wError_ne : wError.size ≠ 0 := by decide
theorem HInv.back {s : PS} (h : HInv s) (k : Pl) : HInv (s.back k).1 := by
  have hr := h.recs k
  simp only [PS.back]
  split
  · exact h.put k rfl rfl
  · split
    · exact h.put k rfl rfl
    · split
      · rename_i h1 h2 h3
        refine h.decide k (by omega) (by rw [h3.1]; decide) (by rw [h3.1]; decide) (by decide) (by decide) (joinW_ne wWarm_ne) ?_ ?_ hr.f3
        · rw [if_neg (by rw [h3.1]; decide)]
        · have := hr.fin
          show (1 : Int) = -1 ↔ (s.rc k).failures = 3
          rw [h3.1] at this
          omega
      · split
        · rename_i h1 h2 h4 h3
          refine h.decide k (by omega) (by rw [h3.1]; decide) (by rw [h3.1]; decide) (by decide) (by decide) (joinW_ne wHot_ne) ?_ ?_ hr.f3
          · rw [if_neg (by rw [h3.1]; decide)]
          · have := hr.fin
            show (2 : Int) = -1 ↔ (s.rc k).failures = 3
            rw [h3.1] at this
            omega
        · exact h.put k rfl rfl
theorem HInv.setBack {s : PS} (h : HInv s) (k : Pl) {r : Rec} {t : Int} {l : List Wd} (hf : r.failures = (s.rc k).failures) (h0 : 0 ≤ t) (ht : t < (s.rc k).tier) (hl : joinW l ≠ ⟨#[]⟩) : HInv (s.setBack k r t l) := by
  have hr := h.recs k
  have h1 := hr.fin
  have h2 := hr.t2
  have h3 := hr.f3
  simp only [PS.setBack]
  split
  · rename_i e
    refine h.decide k (by omega) (by omega) (by omega) (by decide) (by decide) (joinW_ne (app_ne (ne_size hl))) ?_ ?_ (by show r.failures + 1 ≤ 3; omega)
    · show r.failures + 1 = _
      rw [if_pos (by omega), hf]
    · exact ⟨fun _ => e, fun _ => rfl⟩
  · rename_i e
    refine h.decide k (by omega) (by omega) (by omega) (by omega) (by omega) (joinW_ne (ne_size hl)) ?_ ?_ (by show r.failures + 1 ≤ 3; omega)
    · show r.failures + 1 = _
      rw [if_pos (by omega), hf]
    · exact ⟨fun e' => by omega, fun e' => absurd e' e⟩
theorem HInv.left {s : PS} (h : HInv s) (k : Pl) (e : Int) : HInv (s.left k e).1 := by
  cases hg : AL.get s.recs k with
  | none => rw [left_none e hg]; exact h
  | some r =>
    have hr := PS.rc_some hg
    by_cases h1 : r.tier ≠ 2 ∨ e < 0
    · rw [left_not hg h1]; exact h
    · by_cases h2 : (AL.get r.exits e).getD 0 + 1 < s.cold
      · rw [left_stay hg (by omega) (by omega) h2]
        exact h.put k (by rw [hr]) (by rw [hr])
      · rw [left_back hg (by omega) (by omega) h2]
        exact h.setBack k (by rw [hr]) (by decide) (by rw [hr]; omega) (joinW_ne wExit_ne)
theorem HInv.failed {s : PS} (h : HInv s) (k : Pl) (e : Int) : HInv (s.failed k e) := by
  cases hg : AL.get s.recs k with
  | none => rw [failed_none e hg]; exact h
  | some r =>
    have hr := PS.rc_some hg
    by_cases h1 : r.tier < 1 ∨ e = 0
    · rw [failed_not hg h1]; exact h
    · rw [failed_back hg (by omega) (by omega)]
      exact h.setBack k (by rw [hr]) (by decide) (by rw [hr]; omega) (joinW_ne wError_ne)
theorem HInv.backs {s : PS} (h : HInv s) (k : Pl) : ∀ t, HInv (s.backs k t).1
  | 0 => h
  | t + 1 => (HInv.backs h k t).back k
theorem HInv.act {s : PS} (h : HInv s) (x : Act) : HInv (s.act x).1 := by
  unfold PS.act
  split
  · exact h.left ..
  · split
    · exact h.failed ..
    · exact h.backs ..
theorem hist_ok (l : List Dec) : AL.Ok (hist l).1 := by
  have : ∀ (l : List Dec) (q : List (Pl × Int) × List (Pl × Int)), AL.Ok q.1 → AL.Ok (l.foldl (fun q d => (stepT q.1 d, stepF q.1 q.2 d)) q).1 := by
    intro l
    induction l with
    | nil => intro q hq; exact hq
    | cons d l ih => intro q hq; exact ih _ (hq.set _ _)
  exact this l _ AL.Ok.nil
theorem AL_mem_get {m : List (Pl × Int)} (h : AL.Ok m) {p : Pl × Int} (hp : p ∈ m) : AL.get m p.1 = some p.2 := by
  induction m with
  | nil => cases hp
  | cons a m ih =>
    obtain ⟨j, u⟩ := a
    have h' : AL.Ok m ∧ j ∉ AL.keys m := by
      unfold AL.Ok AL.keys at h ⊢
      rw [List.map_cons, List.nodup_cons] at h
      exact ⟨h.2, h.1⟩
    rcases List.mem_cons.1 hp with rfl | hp
    · simp [AL.get]
    · have hm : p.1 ∈ AL.keys m := List.mem_map_of_mem hp
      have hne : j ≠ p.1 := by rintro rfl; exact h'.2 hm
      simp only [AL.get, hne, if_false]
      exact ih h'.1 hp
theorem HInv.last {s : PS} (h : HInv s) {p : Pl × Int} (hp : p ∈ (hist s.decs).1) : s.tier p.1 = p.2 := by
  rw [tier_rc, ← h.tier, AL_mem_get (hist_ok _) hp]
  rfl
theorem act_le (s : PS) (x : Act) : (s.act x).2 ≤ 9 := by
  have hb : ∀ t, (s.backs x.pl t).2 ≤ t := by
    intro t
    induction t with
    | zero => exact Nat.le_refl _
    | succ t ih =>
      show (s.backs x.pl t).2 + bN _ ≤ t + 1
      unfold bN
      split <;> omega
  unfold PS.act
  split
  · show bN _ ≤ 9
    unfold bN
    split <;> omega
  · split
    · exact Nat.zero_le _
    · have := hb x.times
      have := x.times_le
      omega
theorem Prof.decs_le {R : Hp} {p : Nat} {s : PS} {c : Hp} (h : Prof R p s c) : s.decs.length ≤ s.n := by
  obtain ⟨_, _, _, _, _, _, _, _, _, _, _, _, _, hok⟩ := h
  exact hok.decs
end Go.Fx.YtdkjoljcffkpkaaDoor
