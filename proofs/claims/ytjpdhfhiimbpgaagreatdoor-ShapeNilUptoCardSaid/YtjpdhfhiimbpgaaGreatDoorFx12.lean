/-
  Ranges over maps.
-/
import Derived.Test.YtjpdhfhiimbpgaaGreatDoorFx11
import Derived.Maps.RangeRun
set_option linter.unusedSimpArgs false
set_option linter.unusedVariables false
set_option linter.unusedSectionVars false
namespace Go.Fx
open Go

section
variable {κ β : Type} [DecidableEq κ]

/-- A map that is not nil, its entries told. -/
structure MapE (kenc : κ → Value) (vr : β → Value → Prop) (b : Nat) (es : Array MapEntry) (k : Nat) (m : List (κ × β)) (c : Hp) : Prop where
  eq : c = one b (.map es k)
  is : MapIs kenc vr es.toList m
  born : Born es.toList k

theorem MapC.open {kenc : κ → Value} {vr : β → Value → Prop} {b : Nat} {m : List (κ × β)} {c : Hp} (h : MapC kenc vr (some b) m c) : ∃ es k, MapE kenc vr b es k m c := by
  rcases h with ⟨h, _⟩ | ⟨b', es, k, h1, h2, h3, h4⟩
  · cases h
  · cases h1; exact ⟨es, k, h2, h3, h4⟩
theorem MapE.close {kenc : κ → Value} {vr : β → Value → Prop} {b k : Nat} {es : Array MapEntry} {m : List (κ × β)} {c : Hp} (h : MapE kenc vr b es k m c) : MapC kenc vr (some b) m c := .inr ⟨b, es, k, rfl, h.eq, h.is, h.born⟩

theorem MapIs.at {kenc : κ → Value} {vr : β → Value → Prop} {es : List MapEntry} {m : List (κ × β)} (h : MapIs kenc vr es m) (i : Nat) (hi : i < es.length) : ∃ p, m[i]? = some p ∧ EntryIs kenc vr es[i] p := by
  induction h generalizing i with
  | nil => simp at hi
  | @cons e p es m he _ ih =>
    cases i with
    | zero => exact ⟨p, rfl, he⟩
    | succ i => obtain ⟨q, h1, h2⟩ := ih i (by simpa using hi); exact ⟨q, by simpa using h1, by simpa using h2⟩

/-- The iterator r of a range over the map b, from which xs have come. -/
def It (b r : Nat) (es : Array MapEntry) (k : Nat) (m xs : List (κ × β)) (c : Hp) : Prop :=
  ∃ is : List Nat, c = one r (.mapIter (some b) k (is.map fun i => (es.toList.map (·.born)).getD i 0).toArray k) ∧ is.Nodup ∧ (∀ i ∈ is, i < es.toList.length) ∧ xs.map some = is.map (fun i => m[i]?)

variable {P : Program} {w w0 : World} {R0 R : Hp} {L0 Lr : List Hp} {kT eT T : TypeId} {kenc : κ → Value} {vr : β → Value → Prop} {b r k : Nat} {es : Array MapEntry} {m xs : List (κ × β)} {c ci : Hp}

theorem It.start (b r : Nat) (es : Array MapEntry) (k : Nat) (m : List (κ × β)) : It b r es k m [] (one r (.mapIter (some b) k #[] k)) := ⟨[], rfl, by simp, by simp, rfl⟩

theorem run_range (hT : P.underlying T = some (.map kT eT)) (h : MapE kenc vr b es k m c) (hc : Le c (hp w)) : (Instr.range T (.map (some b))).run P w = .ok (ptr w.heap.size 0) (push w (.mapIter (some b) k #[] k)) :=
  run_range_map w T kT eT b es k hT (hc b _ (by rw [h.eq]; exact one_self _ _))

theorem map_some_inj {α : Type} {xs ys : List α} (h : xs.map some = ys.map some) : xs = ys := by
  have := congrArg (List.filterMap id) h
  simpa using this

/-- Where nothing is left. -/
theorem It.all (h : MapE kenc vr b es k m c) (hi : It b r es k m xs ci) (hl : (leftOf es (((Classical.choose hi).map fun i => (es.toList.map (·.born)).getD i 0).toArray)).size = 0) : xs.Perm m := by
  obtain ⟨_, hnd, hlt, hxs⟩ := Classical.choose_spec hi
  generalize Classical.choose hi = is at *
  have hlen : es.toList.length = m.length := h.is.length
  have hall : ∀ i, i < es.toList.length → i ∈ is := by
    intro i hil
    have h0 : leftOf es ((is.map fun i => (es.toList.map (·.born)).getD i 0).toArray) = #[] := Array.eq_empty_of_size_eq_zero hl
    unfold leftOf at h0
    rw [Array.filter_eq_empty_iff] at h0
    have hm : es.toList[i] ∈ es := by simp
    have := h0 _ hm
    simp only [Bool.not_eq_eq_eq_not, Bool.not_true, Bool.not_eq_false] at this
    simp only [Array.contains_eq_mem, List.mem_toArray, decide_eq_true_eq, List.mem_map, Bool.not_eq_true', decide_eq_false_iff_not, Decidable.not_not] at this
    obtain ⟨j, hj, e⟩ := this
    have hjl := hlt j hj
    have e2 : (es.toList.map (·.born))[j]'(by simpa using hjl) = (es.toList.map (·.born))[i]'(by simpa using hil) := by
      simp only [List.getD_eq_getElem?_getD, List.getElem?_map, List.getElem?_eq_getElem hjl, Option.map_some, Option.getD_some] at e
      simpa using e
    have := (List.getElem_inj h.born.1).1 e2
    rw [← this]; exact hj
  have hp : is.Perm (List.range m.length) := by
    refine (List.perm_ext_iff_of_nodup hnd List.nodup_range).2 fun i => ?_
    rw [List.mem_range, ← hlen]
    exact ⟨hlt i, hall i⟩
  have h1 : (is.map fun i => m[i]?).Perm ((List.range m.length).map fun i => m[i]?) := hp.map _
  have h2 : ((List.range m.length).map fun i => m[i]?) = m.map some := by
    apply List.ext_getElem
    · simp
    · intro i h1 h2; simp at h1; simp [h1]
  rw [← hxs, h2] at h1
  have := h1.filterMap id
  simpa using this

/-- 'next': all have come, or one comes that has not. -/
theorem run_next (ty : TypeId) (h : MapE kenc vr b es k m c) (hc : Le c (hp w)) (hi : It b r es k m xs ci) (hst : Step w0 R0 L0 w R (ci :: Lr)) :
    (xs.Perm m ∧ (Instr.next (ptr r 0) false ty).run P w = .ok (.tuple #[.bool false]) w) ∨
    ∃ p v w' ci', (Instr.next (ptr r 0) false ty).run P w = .ok (.tuple #[.bool true, kenc p.1, v]) w' ∧ vr p.2 v ∧ p ∈ m ∧ (∃ ys, (xs ++ p :: ys).Perm m) ∧ It b r es k m (xs ++ [p]) ci' ∧ Step w0 R0 L0 w' R (ci' :: Lr) ∧
      ∀ w2, Le c (hp w2) → Le ci' (hp w2) → (Instr.entry (ptr r 0)).run P w2 = .ok (.tuple #[kenc p.1, v]) w2 := by
  have hall := fun q => It.all h hi q
  obtain ⟨hci, hnd, hlt, hxs⟩ := Classical.choose_spec hi
  generalize Classical.choose hi = is at *
  have hb : w.heap[b]? = some (.map es k) := hc b _ (by rw [h.eq]; exact one_self _ _)
  subst hci
  have hr := hst.blk (i := 0) rfl
  rcases run_next_at (P := P) w ty r b k k _ es k hr hb h.born.2 (Nat.le_refl _) with ⟨h0, hrun⟩ | ⟨e, he, w1, hw1, hrun⟩
  · exact .inl ⟨hall h0, hrun⟩
  · right
    unfold leftOf at he
    simp only [Array.toList_filter, List.mem_filter, Bool.not_eq_eq_eq_not, Bool.not_true] at he
    obtain ⟨hemem, hseen⟩ := he
    obtain ⟨i, hil, rfl⟩ := List.getElem_of_mem hemem
    have hni : i ∉ is := by
      intro hin
      have : (List.map (fun i => (List.map (·.born) es.toList).getD i 0) is).toArray.contains es.toList[i].born = true := by
        simp only [Array.contains_eq_mem, List.mem_toArray, decide_eq_true_eq, List.mem_map]
        refine ⟨i, hin, ?_⟩
        simp [List.getD_eq_getElem?_getD, List.getElem?_map, List.getElem?_eq_getElem hil]
      rw [this] at hseen
      cases hseen
    obtain ⟨p, hp1, hp2⟩ := h.is.at i hil
    have hlen : es.toList.length = m.length := h.is.length
    have hst1 : Step w0 R0 L0 w1 R (one r (.mapIter (some b) k (is.map fun i => (es.toList.map (·.born)).getD i 0).toArray k) :: Lr) := by
      rcases hw1 with rfl | rfl
      · exact hst
      · exact hst.draws _
    have hseq : (is.map fun i => (es.toList.map (·.born)).getD i 0).toArray.push es.toList[i].born = ((is ++ [i]).map fun i => (es.toList.map (·.born)).getD i 0).toArray := by
      have hil2 : i < es.size := by simpa using hil
      simp [List.getD_eq_getElem?_getD, hil2]
    have hnd2 : (is ++ [i]).Nodup := by
      rw [List.nodup_append]
      refine ⟨hnd, by simp, fun a ha c hc => ?_⟩
      simp at hc
      subst hc
      rintro rfl
      exact hni ha
    have hlt2 : ∀ j ∈ is ++ [i], j < es.toList.length := by
      intro j hj
      rcases List.mem_append.1 hj with hj | hj
      · exact hlt j hj
      · simp at hj; rw [hj]; exact hil
    have hxs2 : (xs ++ [p]).map some = (is ++ [i]).map (fun i => m[i]?) := by simp [hxs, hp1]
    refine ⟨p, es.toList[i].val, setB w1 r (.mapIter (some b) k ((is.map fun i => (es.toList.map (·.born)).getD i 0).toArray.push es.toList[i].born) k), one r (.mapIter (some b) k ((is ++ [i]).map fun i => (es.toList.map (·.born)).getD i 0).toArray k), ?_, hp2.2, List.mem_of_getElem? hp1, ?_, ⟨is ++ [i], rfl, hnd2, hlt2, hxs2⟩, ?_, ?_⟩
    · rw [hrun, hp2.1]; rfl
    · -- the rest
      have hsub : (is ++ [i]).Perm ((is ++ [i])) := List.Perm.refl _
      have hrest : ((is ++ [i]) ++ (List.range m.length).filter (fun j => !(is ++ [i]).contains j)).Perm (List.range m.length) := by
        refine (List.perm_ext_iff_of_nodup ?_ List.nodup_range).2 fun j => ?_
        · rw [List.nodup_append]
          refine ⟨hnd2, List.nodup_range.filter _, fun a ha c hc => ?_⟩
          simp only [List.mem_filter] at hc
          rintro rfl
          have := hc.2
          simp only [List.contains_eq_mem, Bool.not_eq_eq_eq_not, Bool.not_true, decide_eq_false_iff_not] at this
          exact this ha
        · rw [List.mem_range]
          constructor
          · intro hj
            rcases List.mem_append.1 hj with hj | hj
            · rw [← hlen]; exact hlt2 j hj
            · exact List.mem_range.1 (List.mem_filter.1 hj).1
          · intro hj
            by_cases hin : j ∈ is ++ [i]
            · exact List.mem_append_left _ hin
            · exact List.mem_append_right _ (List.mem_filter.2 ⟨List.mem_range.2 hj, by simpa using hin⟩)
      have h1 := hrest.map (fun i => m[i]?)
      have h2 : ((List.range m.length).map fun i => m[i]?) = m.map some := by
        apply List.ext_getElem
        · simp
        · intro i h1 h2; simp at h1; simp [h1]
      rw [List.map_append, ← hxs2, h2] at h1
      have h3 := h1.filterMap id
      rw [List.filterMap_append] at h3
      have e0 : ∀ l : List (κ × β), List.filterMap id (l.map some) = l := fun l => by simp
      rw [e0, e0] at h3
      exact ⟨_, by simpa using h3⟩
    · have := hst1.set0 (.mapIter (some b) k ((is.map fun i => (es.toList.map (·.born)).getD i 0).toArray.push es.toList[i].born) k)
      rw [hseq] at this
      rw [hseq]
      exact this
    · intro w2 h2 h3
      have hb2 : w2.heap[b]? = some (.map es k) := h2 b _ (by rw [h.eq]; exact one_self _ _)
      have hr2 : w2.heap[r]? = some (.mapIter (some b) k ((is.map fun i => (es.toList.map (·.born)).getD i 0).toArray.push es.toList[i].born) k) := by
        rw [hseq]; exact h3 r _ (one_self _ _)
      rw [run_entry_at (P := P) w2 r b k _ es k es.toList[i] hr2 hb2 hemem h.born.1, hp2.1]

variable {ρ : Operand → Value} {o : Oper} {x : Operand} {v : Value}

theorem x_range {v : Value} {w' : World} (ho : o.op = .range T x) (hx : ρ x = .map (some b)) (h : (Instr.range T (.map (some b))).run P w = .ok v w') : (execOp ρ o).run P w = .ok (.value v) w' := by
  unfold execOp
  simp [ho, hx, h]
theorem x_next {v : Value} {w' : World} (ho : o.op = .next x false) (hx : ρ x = ptr r 0) (h : (Instr.next (ptr r 0) false o.type).run P w = .ok v w') : (execOp ρ o).run P w = .ok (.value v) w' := by
  unfold execOp
  simp [ho, hx, h]
theorem x_entry {v : Value} {w' : World} (ho : o.op = .entry x) (hx : ρ x = ptr r 0) (h : (Instr.entry (ptr r 0)).run P w = .ok v w') : (execOp ρ o).run P w = .ok (.value v) w' := by
  unfold execOp
  simp [ho, hx, h]
end
end Go.Fx
