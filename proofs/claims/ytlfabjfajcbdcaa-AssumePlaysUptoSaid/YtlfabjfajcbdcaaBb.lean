/-
  Chapter 27: the reference registry: what is current, what is broken.
-/
import Derived.Test.YtlfabjfajcbdcaaBa
set_option linter.unusedSimpArgs false
set_option linter.unusedVariables false
set_option linter.unusedSectionVars false
namespace Go.Fx.Ytlfabjfajcbdcaa
open Go Go.Fx Go.Proofs
set_option maxRecDepth 20000

def curR (F C : List Int) (xs : List Fact) : Bool := xs.all fun f => verR F C f.kind f.n == f.version
def known (m : List (Th × Int)) (xs : List Fact) : Prop := ∀ f ∈ xs, ¬ ver m (f.kind, f.n) < 0
theorem curR_cur {s : RS} {F C : List Int} {xs : List Fact} (ha : AgrV s F C) (hk : known s.vers xs) : curR F C xs = cur s.vers xs := by
  unfold curR cur
  rw [List.not_any_eq_all_not]
  rw [Bool.eq_iff_iff, List.all_eq_true, List.all_eq_true]
  constructor
  · intro h f hf
    have := h f hf
    rw [← ha] at this
    simp only [stale, ver_get (hk f hf)]
    simpa using this
  · intro h f hf
    have := h f hf
    simp only [stale, ver_get (hk f hf)] at this
    rw [← ha]
    simpa using this
/-- All modules rely on what is known. -/
def Kn (s : RS) : Prop := ∀ k xs, AL.get s.mods k = some xs → known s.vers xs
theorem known_bump {s : RS} {kind n : Int} {xs : List Fact} (h : known s.vers xs) (hv : ∀ k v, AL.get s.vers k = some v → 1 ≤ v) : known (s.bump kind n).vers xs := by
  intro f hf
  have h1 := h f hf
  unfold RS.bump
  split
  · exact h1
  · rename_i h2
    simp only
    rw [ver_set]
    split
    · rw [ver_get h2]; omega
    · exact h1
theorem bump_mods (s : RS) (kind n : Int) : (s.bump kind n).mods = s.mods := by
  unfold RS.bump
  split <;> rfl
theorem Kn.bump {s : RS} (h : Kn s) (hok : s.Ok) (kind n : Int) : Kn (s.bump kind n) := by
  intro k xs hk
  rw [bump_mods] at hk
  exact known_bump (h k xs hk) fun k v hv => (hok.low k v hv).1
theorem Kn.remove {s : RS} (h : Kn s) (hok : s.Ok) (k : Int) : Kn (s.remove k) := by
  intro j xs hj
  simp only [RS.remove] at hj ⊢
  rw [AL.get_del hok.mods] at hj
  split at hj
  · cases hj
  · exact h j xs hj
theorem chk_known {m : List (Th × Int)} {xs : List Fact} {seen : List (Th × Bool)} (h : chk m xs seen = true) : known m xs := by
  induction xs generalizing seen with
  | nil => intro f hf; cases hf
  | cons x xs ih =>
    simp only [chk] at h
    split at h
    · cases h
    · rename_i h1
      split at h
      · cases h
      · intro f hf
        rcases List.mem_cons.1 hf with rfl | hf
        · exact h1
        · exact ih h f hf
theorem Kn.add {s : RS} (h : Kn s) (k : Int) (xs : List Fact) : Kn (s.add k xs) := by
  by_cases e : s.addE k xs = 0
  · rw [RS.add_ok e]
    have hc : chk s.vers xs [] = true := by
      cases hh : chk s.vers xs [] with
      | true => rfl
      | false => rw [RS.addE_bad hh] at e; cases e
    intro j ys hj
    simp only at hj ⊢
    rw [AL.get_set] at hj
    split at hj
    · cases hj; exact chk_known hc
    · exact h j ys hj
  · rw [RS.add_same rfl e]; exact h
theorem Kn.new (f c : Nat) : Kn (RS.new f c) := fun k xs h => by simp [RS.new, AL.get] at h

/-! ### No fact comes twice -/
def dif (a b : Fact) : Prop := ¬ (a.kind = b.kind ∧ a.n = b.n)
theorem chk_iff {m : List (Th × Int)} {xs : List Fact} {seen : List (Th × Bool)} (hs : ∀ k v, AL.get seen k = some v → v = true) :
    chk m xs seen = true ↔ known m xs ∧ xs.Pairwise dif ∧ ∀ f ∈ xs, AL.get seen (f.kind, f.n) = none := by
  induction xs generalizing seen with
  | nil => simp [chk, known]
  | cons x xs ih =>
    have hs2 : ∀ k v, AL.get (AL.set seen (x.kind, x.n) true) k = some v → v = true := fun k v h => by
      rw [AL.get_set] at h
      split at h
      · cases h; rfl
      · exact hs k v h
    simp only [chk]
    by_cases h1 : ver m (x.kind, x.n) < 0
    · rw [if_pos h1]
      constructor
      · intro h; cases h
      · rintro ⟨h, _⟩; exact absurd h1 (h x (by simp))
    · rw [if_neg h1]
      by_cases h2 : (AL.get seen (x.kind, x.n)).getD false = true
      · rw [if_pos h2]
        constructor
        · intro h; cases h
        · rintro ⟨_, _, h⟩
          rw [h x (by simp)] at h2
          cases h2
      · rw [if_neg h2, ih hs2]
        have h3 : AL.get seen (x.kind, x.n) = none := by
          cases e : AL.get seen (x.kind, x.n) with
          | none => rfl
          | some v => rw [e] at h2; exact absurd (hs _ _ e) h2
        constructor
        · rintro ⟨a, b, c⟩
          refine ⟨fun f hf => ?_, List.pairwise_cons.2 ⟨fun f hf => ?_, b⟩, fun f hf => ?_⟩
          · rcases List.mem_cons.1 hf with rfl | hf
            · exact h1
            · exact a f hf
          · have := c f hf
            rw [AL.get_set] at this
            rintro ⟨e1, e2⟩
            rw [if_pos (by rw [e1, e2])] at this
            cases this
          · rcases List.mem_cons.1 hf with rfl | hf
            · exact h3
            · have := c f hf
              rw [AL.get_set] at this
              split at this
              · cases this
              · exact this
        · rintro ⟨a, b, c⟩
          have b' := List.pairwise_cons.1 b
          refine ⟨fun f hf => a f (by simp [hf]), b'.2, fun f hf => ?_⟩
          rw [AL.get_set, if_neg]
          · exact c f (by simp [hf])
          · intro e
            exact b'.1 f hf ⟨congrArg Prod.fst e, congrArg Prod.snd e⟩
theorem chk0_iff {m : List (Th × Int)} {xs : List Fact} : chk m xs [] = true ↔ known m xs ∧ xs.Pairwise dif := by
  rw [chk_iff (fun k v h => by simp [AL.get] at h)]
  simp [AL.get]
theorem chk0_no1 {m : List (Th × Int)} {xs : List Fact} {f : Fact} (hf : f ∈ xs) (h : ver m (f.kind, f.n) < 0) : chk m xs [] = false := by
  rw [← Bool.not_eq_true, chk0_iff]
  rintro ⟨h1, _⟩
  exact h1 f hf h
theorem chk0_no2 {m : List (Th × Int)} {xs : List Fact} {i j : Nat} (hj : j < i) (hi : i < xs.length) (h1 : xs[j].kind = xs[i].kind) (h2 : xs[j].n = xs[i].n) : chk m xs [] = false := by
  rw [← Bool.not_eq_true, chk0_iff]
  rintro ⟨_, h⟩
  exact (List.pairwise_iff_getElem.1 h) j i (by omega) hi hj ⟨h1, h2⟩
/-- The first k facts are known, and none of them comes twice. -/
def upto (m : List (Th × Int)) (xs : List Fact) (k : Nat) : Prop := ∀ i (hi : i < xs.length), i < k → ¬ ver m (xs[i].kind, xs[i].n) < 0 ∧ ∀ j (hj : j < xs.length), j < i → dif xs[j] xs[i]
def apart (xs : List Fact) (k j : Nat) : Prop := ∀ (hk : k < xs.length) i (hi : i < xs.length), i < j → dif xs[i] xs[k]
theorem upto_succ {m : List (Th × Int)} {xs : List Fact} {k : Nat} (h : upto m xs k) (hk : k < xs.length) (h1 : ¬ ver m (xs[k].kind, xs[k].n) < 0) (h2 : apart xs k k) : upto m xs (k + 1) := by
  intro i hi hlt
  by_cases e : i = k
  · subst e; exact ⟨h1, fun j hj hji => h2 hk j hj hji⟩
  · exact h i hi (by omega)
theorem apart_succ {xs : List Fact} {k j : Nat} (h : apart xs k j) (hj : j < xs.length) (hk : k < xs.length) (hd : dif xs[j] xs[k]) : apart xs k (j + 1) := by
  intro hk' i hi hlt
  by_cases e : i = j
  · subst e; exact hd
  · exact h hk' i hi (by omega)
theorem upto_all {m : List (Th × Int)} {xs : List Fact} {k : Nat} (h : upto m xs k) (hk : xs.length ≤ k) : chk m xs [] = true := by
  rw [chk0_iff]
  refine ⟨fun f hf => ?_, ?_⟩
  · obtain ⟨i, hi, rfl⟩ := List.getElem_of_mem hf
    exact (h i hi (by omega)).1
  · rw [List.pairwise_iff_getElem]
    intro i j hi hj hij
    exact (h j hj (by omega)).2 i hi hij

/-! ### What a bump breaks -/
theorem range_get {α β : Type} (xs : List α) (g : α → Option β) : ∀ i, i ≤ xs.length → (List.range i).filterMap (fun k => (xs[k]?).bind g) = (xs.take i).filterMap g
  | 0, _ => by simp
  | i + 1, h => by
    rw [List.range_succ, List.filterMap_append, range_get xs g i (by omega), List.take_succ_eq_append_getElem (by omega), List.filterMap_append]
    have e : [i].filterMap (fun k => (xs[k]?).bind g) = [xs[i]].filterMap g := by
      rw [List.filterMap_cons, List.filterMap_cons, List.getElem?_eq_getElem (show i < xs.length by omega)]
      rfl
    rw [e]
def heldT (F C : List Int) (xs : List Mo) (i : Nat) : List Int := (List.range i).filterMap fun (k : Nat) => (xs[k]?).bind fun x => if curR F C x.2 = true then some (k : Int) else none
def outT (F C : List Int) (xs : List Mo) (hs : List Int) : List Int := hs.filterMap fun h => (xs[h.toNat]?).bind fun x => if curR F C x.2 = true then none else some x.1
theorem heldT_yes {F C : List Int} {xs : List Mo} {i : Nat} (hi : i < xs.length) (h : curR F C xs[i].2 = true) : heldT F C xs (i + 1) = heldT F C xs i ++ [(i : Int)] := by
  unfold heldT
  rw [List.range_succ, List.filterMap_append]
  simp [List.getElem?_eq_getElem hi, h]
theorem heldT_no {F C : List Int} {xs : List Mo} {i : Nat} (hi : i < xs.length) (h : curR F C xs[i].2 = false) : heldT F C xs (i + 1) = heldT F C xs i := by
  unfold heldT
  rw [List.range_succ, List.filterMap_append]
  simp [List.getElem?_eq_getElem hi, h]
theorem heldT_in {F C : List Int} {xs : List Mo} {h : Int} (hm : h ∈ heldT F C xs xs.length) : ∃ k : Nat, h = (k : Int) ∧ k < xs.length := by
  unfold heldT at hm
  obtain ⟨k, hk, e⟩ := List.mem_filterMap.1 hm
  rw [List.mem_range] at hk
  rw [List.getElem?_eq_getElem hk] at e
  simp only [Option.bind_some] at e
  split at e
  · cases e; exact ⟨k, rfl, hk⟩
  · cases e
theorem heldT_len (F C : List Int) (xs : List Mo) (i : Nat) : (heldT F C xs i).length ≤ i := by
  unfold heldT
  have := List.length_filterMap_le (fun (k : Nat) => (xs[k]?).bind fun x => if curR F C x.2 = true then some (k : Int) else none) (List.range i)
  rwa [List.length_range] at this
theorem outT_yes {F C : List Int} {xs : List Mo} {hs : List Int} {i k : Nat} (hi : i < hs.length) (hk : k < xs.length) (e : hs[i] = (k : Int)) (h : curR F C xs[k].2 = false) : outT F C xs (hs.take (i + 1)) = outT F C xs (hs.take i) ++ [xs[k].1] := by
  unfold outT
  rw [List.take_succ_eq_append_getElem hi, List.filterMap_append, e]
  simp [List.getElem?_eq_getElem hk, h]
theorem outT_no {F C : List Int} {xs : List Mo} {hs : List Int} {i k : Nat} (hi : i < hs.length) (hk : k < xs.length) (e : hs[i] = (k : Int)) (h : curR F C xs[k].2 = true) : outT F C xs (hs.take (i + 1)) = outT F C xs (hs.take i) := by
  unfold outT
  rw [List.take_succ_eq_append_getElem hi, List.filterMap_append, e]
  simp [List.getElem?_eq_getElem hk, h]
theorem outT_len (F C : List Int) (xs : List Mo) (hs : List Int) : (outT F C xs hs).length ≤ hs.length := by
  unfold outT
  exact List.length_filterMap_le _ _
theorem getM_at {xs : List Mo} (hs : SrtM xs) {x : Mo} (hx : x ∈ xs) : AL.get xs x.1 = some x.2 := by
  induction xs with
  | nil => cases hx
  | cons y xs ih =>
    have hs' := List.pairwise_cons.1 hs
    obtain ⟨a, b⟩ := y
    rcases List.mem_cons.1 hx with rfl | hx
    · simp [AL.get]
    · have := hs'.1 x hx
      simp only at this
      simp only [AL.get]
      rw [if_neg (by omega)]
      exact ih hs'.2 hx
theorem filterMap_if {α β : Type} {p : α → Bool} {g : α → β} {l : List α} {q : α → Option β} (h : ∀ x ∈ l, q x = if p x = true then some (g x) else none) : l.filterMap q = (l.filter p).map g := by
  induction l with
  | nil => rfl
  | cons x l ih =>
    have h1 := h x (by simp)
    have h2 := ih fun y hy => h y (by simp [hy])
    rw [List.filterMap_cons, h1, List.filter_cons]
    cases e : p x with
    | true => simp [h2]
    | false => simp [h2]
theorem bumpL_out {s : RS} {F C F' C' : List Int} {xs : List Mo} {kind n : Int} (hs : SrtM xs) (hm : AgrM s xs) (hv : AgrV s F C) (hv' : AgrV (s.bump kind n) F' C') (hok : s.Ok) (hkn : Kn s) (hn : ¬ ver s.vers (kind, n) < 0) :
    outT F' C' xs (heldT F C xs xs.length) = s.bumpL kind n := by
  unfold outT heldT
  rw [List.filterMap_filterMap]
  have e1 : (fun (k : Nat) => ((xs[k]?).bind fun x => if curR F C x.2 = true then some (k : Int) else none).bind fun h => (xs[h.toNat]?).bind fun x => if curR F' C' x.2 = true then none else some x.1) =
      fun (k : Nat) => (xs[k]?).bind fun x => if (curR F C x.2 && !curR F' C' x.2) = true then some x.1 else none := by
    funext k
    cases e : xs[k]? with
    | none => rfl
    | some x =>
      simp only [Option.bind_some]
      by_cases h1 : curR F C x.2 = true
      · rw [if_pos h1]
        simp only [Option.bind_some, Int.toNat_natCast, e]
        by_cases h2 : curR F' C' x.2 = true
        · rw [if_pos h2, if_neg (by simp [h2])]
        · rw [if_neg h2, if_pos (by simp [h1, h2])]
      · rw [if_neg h1, if_neg (by simp [h1])]
        rfl
  rw [e1, range_get xs (fun x => if (curR F C x.2 && !curR F' C' x.2) = true then some x.1 else none) xs.length (Nat.le_refl _), List.take_length]
  unfold RS.bumpL
  rw [if_neg hn, ← mods_sorted hs hm hok.mods, List.filter_map]
  refine filterMap_if fun x hx => ?_
  have hg : AL.get s.mods x.1 = some x.2 := by rw [← hm x.1]; exact getM_at hs hx
  have hk := hkn _ _ hg
  have h1 := curR_cur hv hk
  have h2 := curR_cur hv' (known_bump hk fun k v hv => (hok.low k v hv).1)
  have h3 : (curR F C x.2 && !curR F' C' x.2) = ((x.2).any (usesF kind n) && holds s.vers s.mods x.1) := by
    rw [h1, h2]
    simp only [holds, hg, Option.isSome_some, Option.getD_some, Bool.true_and]
    cases hc : cur s.vers x.2 with
    | false => simp
    | true =>
      simp only [Bool.true_and, Bool.and_true]
      have hall : ∀ f ∈ x.2, ver s.vers (f.kind, f.n) = f.version := fun f hf => by
        unfold cur at hc
        rw [List.not_any_eq_all_not, List.all_eq_true] at hc
        have := hc f hf
        simp only [stale, ver_get (hk f hf)] at this
        simpa using this
      rw [Bool.eq_iff_iff]
      unfold cur
      rw [Bool.not_not, List.any_eq_true, List.any_eq_true]
      constructor
      · rintro ⟨f, hf, hst⟩
        refine ⟨f, hf, ?_⟩
        unfold RS.bump at hst
        rw [if_neg hn] at hst
        simp only [stale, AL.get_set] at hst
        by_cases e : (kind, n) = (f.kind, f.n)
        · cases e; simp [usesF]
        · rw [if_neg e, ver_get (hk f hf), hall f hf] at hst
          simp at hst
      · rintro ⟨f, hf, hu⟩
        refine ⟨f, hf, ?_⟩
        simp only [usesF, Bool.and_eq_true, beq_iff_eq] at hu
        unfold RS.bump
        rw [if_neg hn]
        simp only [stale, AL.get_set, hu.1, hu.2, if_true, Option.getD_some]
        have h4 := hall f hf
        have h5 := ver_get (hk f hf)
        rw [hu.1, hu.2] at h5 h4
        rw [h5, h4]
        have : f.version + 1 ≠ f.version := by omega
        simpa using this
  show _ = if ((fun k => ((AL.get s.mods k).getD []).any (usesF kind n) && holds s.vers s.mods k) ∘ fun x : Mo => x.1) x = true then some x.1 else none
  simp only [Function.comp, hg, Option.getD_some, h3]
end Go.Fx.Ytlfabjfajcbdcaa
