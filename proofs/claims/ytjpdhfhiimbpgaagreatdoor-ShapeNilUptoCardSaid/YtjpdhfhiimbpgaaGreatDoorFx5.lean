/-
  Maps, as lists of pairs.
-/
import Derived.Test.YtjpdhfhiimbpgaaGreatDoorFx4
import Derived.MapKept
import Derived.Laws.StructEq
set_option linter.unusedSimpArgs false
set_option linter.unusedVariables false
set_option linter.unusedSectionVars false
namespace Go.Fx
open Go Go.MapKept

/-! ### The pure side -/
namespace AL
variable {κ β : Type} [DecidableEq κ]
def get : List (κ × β) → κ → Option β
  | [], _ => none
  | (a, b) :: m, k => if a = k then some b else get m k
def set : List (κ × β) → κ → β → List (κ × β)
  | [], k, v => [(k, v)]
  | (a, b) :: m, k, v => if a = k then (k, v) :: m else (a, b) :: set m k v
def del : List (κ × β) → κ → List (κ × β)
  | [], _ => []
  | (a, b) :: m, k => if a = k then m else (a, b) :: del m k
def keys (m : List (κ × β)) : List κ := m.map (·.1)
def Ok (m : List (κ × β)) : Prop := (keys m).Nodup

theorem get_set (m : List (κ × β)) (k j : κ) (v : β) : get (set m k v) j = if k = j then some v else get m j := by
  induction m with
  | nil => simp [set, get]
  | cons p m ih =>
    obtain ⟨a, b⟩ := p
    simp only [set]
    by_cases h : a = k
    · subst h
      by_cases h2 : a = j <;> simp [get, h2]
    · by_cases h2 : a = j
      · subst h2
        have : ¬ k = a := fun e => h e.symm
        simp [get, h, this]
      · simp [get, h, h2, ih]

theorem get_none {m : List (κ × β)} {k : κ} : get m k = none ↔ k ∉ keys m := by
  induction m with
  | nil => simp [get, keys]
  | cons p m ih =>
    obtain ⟨a, b⟩ := p
    simp only [get, keys, List.map_cons, List.mem_cons, not_or] at *
    by_cases h : a = k
    · subst h; simp
    · simp [h, ih, Ne.symm h]

theorem get_some {m : List (κ × β)} {k : κ} : (∃ v, get m k = some v) ↔ k ∈ keys m := by
  cases h : get m k with
  | none => simp [get_none.1 h]
  | some v =>
    simp only [Option.some.injEq, exists_eq', true_iff]
    rcases Decidable.em (k ∈ keys m) with h' | h'
    · exact h'
    · rw [get_none.2 h'] at h; cases h

theorem keys_set (m : List (κ × β)) (k : κ) (v : β) : keys (set m k v) = if k ∈ keys m then keys m else keys m ++ [k] := by
  induction m with
  | nil => simp [set, keys]
  | cons p m ih =>
    obtain ⟨a, b⟩ := p
    simp only [keys] at ih ⊢
    simp only [set, List.map_cons, List.mem_cons]
    by_cases h : a = k
    · subst h; simp
    · have h' : ¬ k = a := fun e => h e.symm
      simp only [h, if_false, h', false_or, List.map_cons, ih]
      by_cases hm : k ∈ List.map (fun x => x.fst) m <;> simp [hm]

theorem Ok.set {m : List (κ × β)} (h : Ok m) (k : κ) (v : β) : Ok (set m k v) := by
  unfold Ok at *
  rw [keys_set]
  split
  · exact h
  · rename_i hk
    exact List.nodup_append.2 ⟨h, by simp, fun a ha b hb => by simp at hb; subst hb; exact fun e => hk (e ▸ ha)⟩

theorem get_del {m : List (κ × β)} (h : Ok m) (k j : κ) : get (del m k) j = if k = j then none else get m j := by
  induction m with
  | nil => simp [del, get]
  | cons p m ih =>
    obtain ⟨a, b⟩ := p
    simp only [Ok, keys, List.map_cons, List.nodup_cons] at h
    have ih := ih h.2
    simp only [del]
    by_cases hk : a = k
    · subst hk
      simp only [if_true]
      by_cases h2 : a = j
      · subst h2; simp only [if_true]; exact get_none.2 h.1
      · simp [get, h2]
    · by_cases h2 : a = j
      · subst h2
        have : ¬ k = a := fun e => hk e.symm
        simp [get, hk, this]
      · simp [get, hk, h2, ih]

theorem keys_del {m : List (κ × β)} (k : κ) : keys (del m k) = (keys m).erase k := by
  induction m with
  | nil => simp [del, keys]
  | cons p m ih =>
    obtain ⟨a, b⟩ := p
    simp only [keys] at ih ⊢
    simp only [del, List.map_cons]
    by_cases h : a = k
    · subst h; simp
    · rw [if_neg h, List.map_cons, ih, List.erase_cons_tail (by simpa using h)]

theorem Ok.del {m : List (κ × β)} (h : Ok m) (k : κ) : Ok (del m k) := by
  unfold Ok at *
  rw [keys_del]
  exact h.erase k

theorem Ok.nil : Ok ([] : List (κ × β)) := by simp [Ok, keys]
end AL

/-! ### A map in memory -/
section
variable {κ β : Type} [DecidableEq κ]

def EntryIs (kenc : κ → Value) (vr : β → Value → Prop) (e : MapEntry) (p : κ × β) : Prop := e.key = kenc p.1 ∧ vr p.2 e.val

inductive MapIs (kenc : κ → Value) (vr : β → Value → Prop) : List MapEntry → List (κ × β) → Prop
  | nil : MapIs kenc vr [] []
  | cons {e p es m} : EntryIs kenc vr e p → MapIs kenc vr es m → MapIs kenc vr (e :: es) (p :: m)

theorem MapIs.imp {kenc : κ → Value} {vr vr' : β → Value → Prop} {es : List MapEntry} {m : List (κ × β)} (h : MapIs kenc vr es m) (hi : ∀ x v, vr x v → vr' x v) : MapIs kenc vr' es m := by
  induction h with
  | nil => exact .nil
  | cons he _ ih => exact .cons ⟨he.1, hi _ _ he.2⟩ ih

theorem MapIs.length {kenc : κ → Value} {vr : β → Value → Prop} {es : List MapEntry} {m : List (κ × β)} (h : MapIs kenc vr es m) : es.length = m.length := by
  induction h with
  | nil => rfl
  | cons _ _ ih => simp [ih]

theorem MapIs.keys {kenc : κ → Value} {vr : β → Value → Prop} {es : List MapEntry} {m : List (κ × β)} (h : MapIs kenc vr es m) : es.map (·.key) = (AL.keys m).map kenc := by
  induction h with
  | nil => rfl
  | cons he _ ih => simp only [AL.keys, List.map_cons] at ih ⊢; rw [he.1, ih]

/-- Where a key stands. -/
def place (k : κ) : List (κ × β) → Nat → Option Nat
  | [], _ => none
  | (a, _) :: m, i => if a = k then some i else place k m (i + 1)

theorem place_shift (k : κ) (m : List (κ × β)) (i : Nat) : place k m i = (place k m 0).map (· + i) := by
  induction m generalizing i with
  | nil => rfl
  | cons p m ih =>
    obtain ⟨a, b⟩ := p
    simp only [place]
    split
    · simp
    · rw [ih (i + 1), ih (0 + 1)]
      cases place k m 0 <;> simp [Nat.add_comm, Nat.add_left_comm]

/-- What the model's search for a key gives, for a key's type. -/
structure KeyLaw (P : Program) (kT : TypeId) (kenc : κ → Value) : Prop where
  check : ∀ b k w, (Instr.checkKey b 10000 kT (kenc k)).run P w = .ok () w
  find : ∀ (vr : β → Value → Prop) k (es : List MapEntry) (m : List (κ × β)) w, MapIs kenc vr es m →
    (Instr.findKey kT (kenc k) es).run P w = .ok ((place k m 0).map fun i => (i, (es.map (·.val)).getD i undef)) w
  bits : ∀ k, Instr.sameBits 10000 (kenc k) (kenc k) = true

theorem findNow_int {vr : β → Value → Prop} (k : Int) {es : List MapEntry} {m : List (Int × β)} (h : MapIs (Value.int .i64) vr es m) (i : Nat) :
    Instr.findNow (.int .i64) (.int .i64 k) es i = some ((place k m i).map fun j => (j, (es.map (·.val)).getD (j - i) undef)) := by
  induction h generalizing i with
  | nil => rfl
  | @cons e p es m he _ ih =>
    obtain ⟨a, b⟩ := p
    have hk : e.key = .int .i64 a := he.1
    simp only [Instr.findNow, hk, Instr.sameNow, if_true, place]
    by_cases hx : k = a
    · subst hx; simp
    · have : (k == a) = false := by simpa using hx
      simp only [this, Ne.symm hx, if_false, ih (i + 1)]
      rw [place_shift k m (i + 1)]
      cases hp : place k m 0 with
      | none => rfl
      | some j =>
        simp only [Option.map_some, List.map_cons]
        rw [show j + (i + 1) - i = (j + (i + 1) - (i + 1)) + 1 by omega, List.getD_cons_succ]

theorem KeyLaw.int {P : Program} {kT : TypeId} (hu : P.underlying kT = some (.int .i64)) : KeyLaw (β := β) P kT (Value.int .i64) where
  check := fun b k w => run_checkKey (w := w) hu (k := .int .i64 k) (by simp [IsKey]) b 9999
  find := fun vr k es m w h => run_findKey hu (by simpa using findNow_int k h 0)
  bits := fun k => by simp [Instr.sameBits]

theorem findAsking_eq {P : Program} {kT : TypeId} {kenc : κ → Value} (heq : ∀ a b w, (Op.equal kT (kenc a) (kenc b)).run P w = .ok (decide (a = b)) w) {vr : β → Value → Prop} (k : κ) {es : List MapEntry} {m : List (κ × β)}
    (w : World) (h : MapIs kenc vr es m) (i : Nat) :
    (Instr.findAsking kT (kenc k) es i).run P w = .ok ((place k m i).map fun j => (j, (es.map (·.val)).getD (j - i) undef)) w := by
  induction h generalizing i with
  | nil => rfl
  | @cons e p es m he _ ih =>
    obtain ⟨a, b⟩ := p
    have hk : e.key = kenc a := he.1
    simp only [Instr.findAsking, hk, Sem.run_bind, heq, Result.andThen_ok, place, decide_eq_true_eq, Sem.run_ite]
    by_cases hx : k = a
    · subst hx; simp
    · simp only [hx, Ne.symm hx, if_false, ih (i + 1)]
      rw [place_shift k m (i + 1)]
      cases hp : place k m 0 with
      | none => rfl
      | some j =>
        simp only [Option.map_some, List.map_cons]
        rw [show j + (i + 1) - i = (j + (i + 1) - (i + 1)) + 1 by omega, List.getD_cons_succ]

theorem KeyLaw.ofEq {P : Program} {kT : TypeId} {d : TypeDesc} {kenc : κ → Value} (hu : P.underlying kT = some d) (hnow : ∀ a b, Instr.sameNow d (kenc a) (kenc b) = none)
    (hc : ∀ b k w, (Instr.checkKey b 10000 kT (kenc k)).run P w = .ok () w) (heq : ∀ a b w, (Op.equal kT (kenc a) (kenc b)).run P w = .ok (decide (a = b)) w)
    (hb : ∀ k, Instr.sameBits 10000 (kenc k) (kenc k) = true) : KeyLaw (β := β) P kT kenc where
  check := hc
  find := fun vr k es m w h => by
    simp only [Instr.findKey, Sem.run_bind, run_underlying hu, Result.andThen_ok]
    cases h with
    | nil => rfl
    | @cons e p es m he hm =>
      have hk : e.key = kenc p.1 := he.1
      have e1 : Instr.findNow d (kenc k) (e :: es) 0 = none := by simp [Instr.findNow, hk, hnow]
      rw [e1]
      have := findAsking_eq heq k w (MapIs.cons he hm) 0
      simpa using this
  bits := hb

variable {P : Program} {w : World} {kT : TypeId} {kenc : κ → Value} {vr : β → Value → Prop}

theorem place_get (k : κ) {es : List MapEntry} {m : List (κ × β)} (h : MapIs kenc vr es m) :
    (place k m 0 = none ∧ AL.get m k = none) ∨ ∃ i x v, place k m 0 = some i ∧ AL.get m k = some x ∧ (es.map (·.val)).getD i undef = v ∧ vr x v ∧ i < es.length := by
  induction h with
  | nil => exact .inl ⟨rfl, rfl⟩
  | @cons e p es m he _ ih =>
    obtain ⟨a, b⟩ := p
    simp only [place, AL.get]
    by_cases hx : a = k
    · exact .inr ⟨0, b, e.val, by simp [hx], by simp [hx], by simp, he.2, by simp⟩
    · simp only [hx, if_false]
      rw [place_shift k m (0 + 1)]
      rcases ih with ⟨h1, h2⟩ | ⟨i, x, v, h1, h2, h3, h4, h5⟩
      · exact .inl ⟨by simp [h1], h2⟩
      · refine .inr ⟨i + 1, x, v, by simp [h1], h2, ?_, h4, by simp; omega⟩
        rw [List.map_cons, List.getD_cons_succ, h3]

theorem run_lookup {T eT : TypeId} {b : Nat} {es : Array MapEntry} {clock : Nat} {m : List (κ × β)} {agg : Bool} {sz bytes : Nat} {z : Value} (K : KeyLaw (β := β) P kT kenc) (hT : P.underlying T = some (.map kT eT))
    (he : TI P eT agg sz bytes z) (hb : w.heap[b]? = some (.map es clock)) (h : MapIs kenc vr es.toList m) (k : κ) (ok : Bool) :
    ∃ v f, (Instr.lookup T (.map (some b)) (kenc k) ok).run P w = .ok (if ok then .tuple #[v, .bool f] else v) w ∧
      ((∃ x, AL.get m k = some x ∧ vr x v ∧ f = true) ∨ (AL.get m k = none ∧ v = z ∧ f = false)) := by
  have hg : (getObj b).run P w = .ok (.map es clock) w := by simp [getObj, Sem.run, hb]
  unfold Instr.lookup
  simp only [Sem.run_bind, run_underlying hT, Result.andThen_ok, hg, Sem.run_pure, K.check, K.find vr k es.toList m w h]
  rcases place_get k h with ⟨h1, h2⟩ | ⟨i, x, v, h1, h2, h3, h4, _⟩
  · refine ⟨z, false, ?_, .inr ⟨h2, rfl, rfl⟩⟩
    simp only [h1, Option.map_none, Sem.run_bind, he.run_zero, Result.andThen_ok, Sem.run_pure]
  · refine ⟨v, true, ?_, .inl ⟨x, h2, h4, rfl⟩⟩
    simp only [h1, Option.map_some, h3, Sem.run_bind, Sem.run_pure, Result.andThen_ok]

theorem run_lookup_nil {T eT : TypeId} {agg : Bool} {sz bytes : Nat} {z : Value} (K : KeyLaw (β := β) P kT kenc) (hT : P.underlying T = some (.map kT eT)) (he : TI P eT agg sz bytes z) (k : κ) (ok : Bool) :
    (Instr.lookup T (.map none) (kenc k) ok).run P w = .ok (if ok then .tuple #[z, .bool false] else z) w := by
  have hf := K.find (fun _ _ => True) k [] [] w .nil
  unfold Instr.lookup
  simp only [Sem.run_bind, run_underlying hT, Result.andThen_ok, Sem.run_pure, K.check]
  rw [hf]
  simp only [place, Option.map_none, Result.andThen_ok, Sem.run_bind, he.run_zero, Sem.run_pure]

theorem run_setObj_map {b : Nat} {es es' : Array MapEntry} {c c' : Nat} (hb : w.heap[b]? = some (.map es c)) : (setObj b (.map es' c')).run P w = .ok () (setB w b (.map es' c')) := by
  simp [setObj, Sem.run, hb, setB]

theorem MapIs.modify {es : List MapEntry} {m : List (κ × β)} (h : MapIs kenc vr es m) (k : κ) (x : β) (v : Value) (hv : vr x v) (i : Nat) (hi : place k m 0 = some i) :
    MapIs kenc vr (es.modify i fun e => { e with key := kenc k, val := v }) (AL.set m k x) := by
  induction h generalizing i with
  | nil => simp [place] at hi
  | @cons e p es m he hm ih =>
    obtain ⟨a, b⟩ := p
    simp only [place] at hi
    simp only [AL.set]
    by_cases hx : a = k
    · simp only [hx, if_true, Option.some.injEq] at hi ⊢
      subst hi
      exact .cons ⟨rfl, hv⟩ hm
    · simp only [hx, if_false] at hi ⊢
      rw [place_shift] at hi
      cases hp : place k m 0 with
      | none => rw [hp] at hi; simp at hi
      | some j =>
        rw [hp] at hi
        simp only [Option.map_some, Option.some.injEq] at hi
        subst hi
        rw [show j + (0 + 1) = j + 1 by omega, List.modify_succ_cons]
        exact .cons he (ih j hp)

theorem MapIs.push {es : List MapEntry} {m : List (κ × β)} (h : MapIs kenc vr es m) (k : κ) (x : β) (v : Value) (c : Nat) (hv : vr x v) (hi : place k m 0 = none) :
    MapIs kenc vr (es ++ [{ key := kenc k, val := v, born := c }]) (AL.set m k x) := by
  induction h with
  | nil => exact .cons ⟨rfl, hv⟩ .nil
  | @cons e p es m he hm ih =>
    obtain ⟨a, b⟩ := p
    simp only [place] at hi
    simp only [AL.set]
    by_cases hx : a = k
    · simp [hx] at hi
    · simp only [hx, if_false] at hi ⊢
      rw [place_shift] at hi
      exact .cons he (ih (by cases hp : place k m 0 <;> simp_all))

theorem MapIs.erase {es : List MapEntry} {m : List (κ × β)} (h : MapIs kenc vr es m) (k : κ) (i : Nat) (hi : place k m 0 = some i) : MapIs kenc vr (es.eraseIdx i) (AL.del m k) := by
  induction h generalizing i with
  | nil => simp [place] at hi
  | @cons e p es m he hm ih =>
    obtain ⟨a, b⟩ := p
    simp only [place] at hi
    simp only [AL.del]
    by_cases hx : a = k
    · simp only [hx, if_true, Option.some.injEq] at hi ⊢
      subst hi
      exact hm
    · simp only [hx, if_false] at hi ⊢
      rw [place_shift] at hi
      cases hp : place k m 0 with
      | none => rw [hp] at hi; simp at hi
      | some j =>
        rw [hp] at hi
        simp only [Option.map_some, Option.some.injEq] at hi
        subst hi
        rw [show j + (0 + 1) = j + 1 by omega, List.eraseIdx_cons_succ]
        exact .cons he (ih j hp)

theorem del_absent {m : List (κ × β)} {k : κ} (h : place k m 0 = none) : AL.del m k = m := by
  induction m with
  | nil => rfl
  | cons p m ih =>
    obtain ⟨a, b⟩ := p
    simp only [place] at h
    simp only [AL.del]
    by_cases hx : a = k
    · simp [hx] at h
    · simp only [hx, if_false] at h ⊢
      rw [place_shift] at h
      rw [ih (by cases hp : place k m 0 <;> simp_all)]

/-- The entries' stamps: no two alike, all in the past. -/
def Born (es : List MapEntry) (k : Nat) : Prop := (es.map (·.born)).Nodup ∧ ∀ e ∈ es, e.born < k

theorem Born.modify {es : List MapEntry} {k : Nat} (h : Born es k) (i : Nat) (f : MapEntry → MapEntry) (hf : ∀ e, (f e).born = e.born) : Born (es.modify i f) k := by
  have hm : (es.modify i f).map (·.born) = es.map (·.born) := by
    apply List.ext_getElem?
    intro j
    simp only [List.getElem?_map, List.getElem?_modify]
    split
    · cases es[j]? <;> simp [hf]
    · simp
  refine ⟨by rw [hm]; exact h.1, fun e he => ?_⟩
  have : e.born ∈ (es.modify i f).map (·.born) := List.mem_map.2 ⟨e, he, rfl⟩
  rw [hm] at this
  obtain ⟨e', he', hb⟩ := List.mem_map.1 this
  rw [← hb]
  exact h.2 e' he'
theorem Born.push {es : List MapEntry} {k : Nat} (h : Born es k) (e : MapEntry) (he : e.born = k) : Born (es ++ [e]) (k + 1) := by
  refine ⟨?_, fun x hx => ?_⟩
  · rw [List.map_append]
    refine List.nodup_append.2 ⟨h.1, by simp, fun a ha b hb => ?_⟩
    obtain ⟨x, hx, rfl⟩ := List.mem_map.1 ha
    simp only [List.map_cons, List.map_nil, List.mem_singleton] at hb
    subst hb
    have := h.2 x hx
    omega
  · rcases List.mem_append.1 hx with hx | hx
    · have := h.2 x hx; omega
    · simp only [List.mem_singleton] at hx; subst hx; omega
theorem Born.erase {es : List MapEntry} {k : Nat} (h : Born es k) (i : Nat) : Born (es.eraseIdx i) k :=
  ⟨h.1.sublist ((List.eraseIdx_sublist es i).map _), fun e he => h.2 e ((List.eraseIdx_sublist es i).subset he)⟩
theorem Born.empty : Born [] 0 := ⟨by simp, by simp⟩

theorem place_key {m : List (κ × β)} {k : κ} {i : Nat} (h : place k m 0 = some i) : (AL.keys m)[i]? = some k := by
  induction m generalizing i with
  | nil => simp [place] at h
  | cons p m ih =>
    obtain ⟨a, b⟩ := p
    simp only [place] at h
    by_cases hx : a = k
    · simp only [hx, if_true, Option.some.injEq] at h
      subst h; subst hx; simp [AL.keys]
    · simp only [hx, if_false] at h
      rw [place_shift] at h
      cases hp : place k m 0 with
      | none => rw [hp] at h; simp at h
      | some j =>
        rw [hp] at h
        simp only [Option.map_some, Option.some.injEq] at h
        subst h
        have := ih hp
        simpa [AL.keys] using this

theorem key_at {es : Array MapEntry} {m : List (κ × β)} {k : κ} {i : Nat} (h : MapIs kenc vr es.toList m) (h1 : place k m 0 = some i) : (es[i]?).map (·.key) = some (kenc k) := by
  have e1 : (es.toList.map (·.key))[i]? = some (kenc k) := by rw [h.keys]; simp [place_key h1]
  simpa using e1

theorem run_mapUpdate {T eT : TypeId} {b : Nat} {es : Array MapEntry} {clock : Nat} {m : List (κ × β)} (K : KeyLaw (β := β) P kT kenc) (hT : P.underlying T = some (.map kT eT))
    (hb : w.heap[b]? = some (.map es clock)) (h : MapIs kenc vr es.toList m) (hB : Born es.toList clock) (k : κ) (x : β) (v : Value) (hv : vr x v) :
    ∃ es' c', (Instr.mapUpdate T (.map (some b)) (kenc k) v).run P w = .ok () (setB w b (.map es' c')) ∧ MapIs kenc vr es'.toList (AL.set m k x) ∧ Born es'.toList c' := by
  have hg : (getObj b).run P w = .ok (.map es clock) w := by simp [getObj, Sem.run, hb]
  rcases place_get k h with ⟨h1, h2⟩ | ⟨i, y, u, h1, h2, h3, h4, h5⟩
  · refine ⟨es.push { key := kenc k, val := v, born := clock }, clock + 1, ?_, by simpa using h.push k x v clock hv h1, by simpa using hB.push _ rfl⟩
    unfold Instr.mapUpdate
    simp only [Sem.run_bind, run_underlying hT, Result.andThen_ok, hg, K.check, K.find vr k es.toList m w h, h1, Option.map_none, run_setObj_map hb]
  · have hkey : (((es[i]?).map (·.key)).getD (kenc k)) = kenc k := by rw [key_at h h1]; rfl
    refine ⟨es.modify i fun e => { e with key := kenc k, val := v }, clock, ?_, ?_, ?_⟩
    · unfold Instr.mapUpdate
      simp only [Sem.run_bind, run_underlying hT, Result.andThen_ok, hg, K.check, K.find vr k es.toList m w h, h1, Option.map_some, hkey, Instr.keyThatStays, K.bits, if_true, Sem.run_pure, run_setObj_map hb]
    · rw [Array.toList_modify]
      exact h.modify k x v hv i h1
    · rw [Array.toList_modify]
      exact hB.modify i _ fun _ => rfl

theorem findIdx_born : ∀ (es : List MapEntry) (i : Nat) (e : MapEntry), (es.map (·.born)).Nodup → es[i]? = some e → es.findIdx? (fun x => (x.born : Int) == (e.born : Int)) = some i
  | [], _, _, _, h => by simp at h
  | a :: es, 0, e, _, h => by
    simp only [List.getElem?_cons_zero, Option.some.injEq] at h
    subst h
    simp [List.findIdx?_cons]
  | a :: es, i + 1, e, hn, h => by
    simp only [List.getElem?_cons_succ] at h
    simp only [List.map_cons, List.nodup_cons] at hn
    have hne : a.born ≠ e.born := fun he => hn.1 (by rw [he]; exact List.mem_map.2 ⟨e, List.mem_of_getElem? h, rfl⟩)
    have hb : ((a.born : Int) == (e.born : Int)) = false := by simpa using fun he => hne (by omega)
    rw [List.findIdx?_cons, hb, findIdx_born es i e hn.2 h]
    rfl

theorem run_mapEntry {T eT : TypeId} {b : Nat} {es : Array MapEntry} {clock : Nat} {m : List (κ × β)} {agg : Bool} {sz bytes : Nat} {z : Value} (K : KeyLaw (β := β) P kT kenc) (hT : P.underlying T = some (.map kT eT)) (he : TI P eT agg sz bytes z)
    (hb : w.heap[b]? = some (.map es clock)) (h : MapIs kenc vr es.toList m) (hB : Born es.toList clock) (k : κ) :
    ∃ v0 st es1 c1, (Instr.mapEntry T (.map (some b)) (kenc k)).run P w = .ok (.tuple #[v0, int st]) (setB w b (.map es1 c1)) ∧
      (∀ (w' : World) x v, w'.heap[b]? = some (.map es1 c1) → vr x v →
        ∃ es2, (Instr.entryStore T (.map (some b)) (int st) v).run P w' = .ok () (setB w' b (.map es2 c1)) ∧ MapIs kenc vr es2.toList (AL.set m k x) ∧ Born es2.toList c1) ∧ (AL.get m k ≠ none → es1 = es ∧ c1 = clock) := by
  have hg : (getObj b).run P w = .ok (.map es clock) w := by simp [getObj, Sem.run, hb]
  have fin : ∀ (es1 : Array MapEntry) (c1 i : Nat) (e : MapEntry), Born es1.toList c1 → es1[i]? = some e → (∀ x v, vr x v → MapIs kenc vr (es1.toList.modify i fun e => { e with val := v }) (AL.set m k x)) →
      ∀ (w' : World) x v, w'.heap[b]? = some (.map es1 c1) → vr x v →
        ∃ es2, (Instr.entryStore T (.map (some b)) (int e.born) v).run P w' = .ok () (setB w' b (.map es2 c1)) ∧ MapIs kenc vr es2.toList (AL.set m k x) ∧ Born es2.toList c1 := by
    intro es1 c1 i e hB1 hi hm w' x v hb' hv
    have hg' : (getObj b).run P w' = .ok (.map es1 c1) w' := by simp [getObj, Sem.run, hb']
    have hidx : es1.findIdx? (fun x => (x.born : Int) == (e.born : Int)) = some i := by
      rw [show es1 = es1.toList.toArray from rfl, List.findIdx?_toArray]
      exact findIdx_born es1.toList i e hB1.1 (by simpa using hi)
    refine ⟨es1.modify i fun e => { e with val := v }, ?_, ?_, ?_⟩
    · unfold Instr.entryStore
      simp only [Sem.run_bind, Result.andThen_ok, hg', asInt, asIntOf, Sem.run_pure, hidx, run_setObj_map hb']
    · rw [Array.toList_modify]; exact hm x v hv
    · rw [Array.toList_modify]; exact hB1.modify i _ fun _ => rfl
  rcases place_get k h with ⟨h1, h2⟩ | ⟨i, y, u, h1, h2, h3, h4, h5⟩
  · refine ⟨z, clock, es.push { key := kenc k, val := z, born := clock }, clock + 1, ?_, ?_, fun hn => absurd h2 hn⟩
    · unfold Instr.mapEntry
      simp only [Sem.run_bind, run_underlying hT, Result.andThen_ok, hg, K.check, K.find vr k es.toList m w h, h1, Option.map_none, he.run_zero, run_setObj_map hb, Sem.run_pure]
      rfl
    · refine fin _ _ es.size { key := kenc k, val := z, born := clock } (by simpa using hB.push _ rfl) (by simp) fun x v hv => ?_
      have hp := h.push k x v clock hv h1
      have e2 : ((es.push { key := kenc k, val := z, born := clock }).toList.modify es.size fun e => { e with val := v }) = es.toList ++ [{ key := kenc k, val := v, born := clock }] := by
        rw [Array.toList_push, ← Array.length_toList]
        clear hp h hb hB hg
        generalize es.toList = l
        induction l with
        | nil => rfl
        | cons a l ih => simp only [List.cons_append, List.length_cons, List.modify_succ_cons, ih]
      rw [e2]
      exact hp
  · have hkey : (((es[i]?).map (·.key)).getD (kenc k)) = kenc k := by rw [key_at h h1]; rfl
    have hi : i < es.size := by simpa using h5
    refine ⟨u, es[i].born, es.modify i fun e => { e with key := kenc k }, clock, ?_, ?_, fun _ => ⟨?_, rfl⟩⟩
    · unfold Instr.mapEntry
      simp only [Sem.run_bind, run_underlying hT, Result.andThen_ok, hg, K.check, K.find vr k es.toList m w h, h1, Option.map_some, hkey, Instr.keyThatStays, K.bits, if_true, Sem.run_pure, run_setObj_map hb, h3]
      simp [hi, goInt]
    · refine fin _ _ i { es[i] with key := kenc k } (by rw [Array.toList_modify]; exact hB.modify i _ fun _ => rfl) (by rw [Array.getElem?_modify, if_pos rfl]; simp [hi]) fun x v hv => ?_
      have hp := h.modify k x v hv i h1
      have e2 : ((es.modify i fun e => { e with key := kenc k }).toList.modify i fun e => { e with val := v }) = es.toList.modify i fun e => { e with key := kenc k, val := v } := by
        rw [Array.toList_modify]
        apply List.ext_getElem?
        intro j
        simp only [List.getElem?_modify]
        split
        · cases es.toList[j]? <;> simp
        · simp
      rw [e2]
      exact hp
    · have hk2 : es[i].key = kenc k := by
        have := key_at h h1
        rw [Array.getElem?_eq_getElem hi] at this
        simpa using this
      apply Array.ext_getElem?
      intro j
      rw [Array.getElem?_modify]
      split
      · rename_i hij
        subst hij
        rw [Array.getElem?_eq_getElem hi]
        simp only [Option.map_some]
        rw [← hk2]
      · rfl

theorem run_delete {T eT : TypeId} {b : Nat} {es : Array MapEntry} {clock : Nat} {m : List (κ × β)} (K : KeyLaw (β := β) P kT kenc) (hT : P.underlying T = some (.map kT eT))
    (hb : w.heap[b]? = some (.map es clock)) (h : MapIs kenc vr es.toList m) (hB : Born es.toList clock) (k : κ) (ts : Array TypeId) (hts : ts[0]? = some T) (ty : TypeId) :
    ∃ es', (Builtin.delete_ ts ty #[.map (some b), kenc k]).run P w = .ok (.tuple #[]) (setB w b (.map es' clock)) ∧ MapIs kenc vr es'.toList (AL.del m k) ∧ Born es'.toList clock := by
  have hg : (getObj b).run P w = .ok (.map es clock) w := by simp [getObj, Sem.run, hb]
  rcases place_get k h with ⟨h1, h2⟩ | ⟨i, y, u, h1, h2, h3, h4, h5⟩
  · refine ⟨es, ?_, by rw [del_absent h1]; exact h, hB⟩
    unfold Builtin.delete_
    simp [hts, run_underlying hT, hg, K.check, K.find vr k es.toList m w h, h1, run_setObj_map hb]
  · have hi : i < es.size := by simpa using h5
    have e2 : (es.eraseIdxIfInBounds i).toList = es.toList.eraseIdx i := by simp [Array.eraseIdxIfInBounds, hi]
    refine ⟨es.eraseIdxIfInBounds i, ?_, by rw [e2]; exact h.erase k i h1, by rw [e2]; exact hB.erase i⟩
    unfold Builtin.delete_
    simp [hts, run_underlying hT, hg, K.check, K.find vr k es.toList m w h, h1, run_setObj_map hb]

end
end Go.Fx
