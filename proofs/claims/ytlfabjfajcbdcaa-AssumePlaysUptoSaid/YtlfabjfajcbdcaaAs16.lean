/-
  Chapter 27: in whatever order modules are added, as plain law.
-/
import Derived.Test.YtlfabjfajcbdcaaAs11
set_option linter.unusedSimpArgs false
set_option linter.unusedVariables false
set_option linter.unusedSectionVars false
namespace Go.Fx.Ytlfabjfajcbdcaa
open Go Go.Fx Go.Proofs
set_option maxRecDepth 20000

/-- Facts with which a module is taken up. -/
def good (m : List (Th × Int)) (xs : List Fact) : Bool := chk m xs [] && cur m xs

theorem addE_good {s : RS} {k : Int} {xs : List Fact} (hk : 0 ≤ k) (h : AL.get s.mods k = none) : (s.addE k xs = 0) ↔ good s.vers xs = true := by
  unfold RS.addE good
  rw [if_neg (by omega)]
  by_cases h1 : chk s.vers xs [] = false
  · simp [h1]
  · simp only [h1, if_false]
    rw [h]
    by_cases h2 : cur s.vers xs = false
    · simp [h2]
    · have h1' : chk s.vers xs [] = true := by simpa using h1
      have h2' : cur s.vers xs = true := by simpa using h2
      simp [h1', h2']
theorem add_vers (s : RS) (k : Int) (xs : List Fact) : (s.add k xs).vers = s.vers := by unfold RS.add; split <;> rfl
theorem add_cnt (s : RS) (k : Int) (xs : List Fact) : (s.add k xs).cnt = s.cnt := by unfold RS.add; split <;> rfl
theorem add_get {s : RS} {k : Int} {xs : List Fact} (hk : 0 ≤ k) (h : AL.get s.mods k = none) (j : Int) :
    AL.get (s.add k xs).mods j = if k = j ∧ good s.vers xs = true then some xs else AL.get s.mods j := by
  have hg := addE_good (xs := xs) hk h
  unfold RS.add
  by_cases h1 : s.addE k xs = 0
  · rw [if_pos h1]
    simp only [AL.get_set]
    simp [hg.1 h1]
  · rw [if_neg h1]
    have : ¬ good s.vers xs = true := fun e => h1 (hg.2 e)
    simp [this]
theorem AL.set_len' {κ β : Type} [DecidableEq κ] (m : List (κ × β)) (k : κ) (v : β) : (AL.set m k v).length ≤ m.length + 1 := by
  induction m with
  | nil => simp [AL.set]
  | cons p m ih =>
    obtain ⟨a, b⟩ := p
    simp only [AL.set]
    split <;> simp only [List.length_cons] <;> omega
theorem add_len (s : RS) (k : Int) (xs : List Fact) : (s.add k xs).mods.length ≤ s.mods.length + 1 := by
  unfold RS.add
  split
  · exact AL.set_len' _ _ _
  · omega

/-- The modules whose numbers are ks, in this order, each with its facts. -/
def addAll (l : List (List Fact)) (s : RS) : List Nat → RS
  | [] => s
  | k :: ks => addAll l (s.add (k : Int) (l.getD k [])) ks

structure Same (l : List (List Fact)) (m : List (Th × Int)) (ks : List Nat) (s : RS) : Prop where
  vers : s.vers = m
  cnt : s.cnt = 0
  len : s.mods.length ≤ ks.length
  ok : AL.Ok s.mods
  get : ∀ j, AL.get s.mods j = if (∃ k, k ∈ ks ∧ j = (k : Int) ∧ good m (l.getD k []) = true) then some (l.getD j.toNat []) else none

theorem Same.start (l : List (List Fact)) (f c : Nat) : Same l (RS.new f c).vers [] (RS.new f c) :=
  ⟨rfl, rfl, Nat.le_refl _, AL.Ok.nil, fun j => by simp [RS.new, AL.get]⟩

theorem Same.step {l : List (List Fact)} {m : List (Th × Int)} {ks : List Nat} {s : RS} (h : Same l m ks s) {k : Nat} (hk : k ∉ ks) {xs : List Fact} (hx : xs = l.getD k []) : Same l m (ks ++ [k]) (s.add (k : Int) xs) := by
  subst hx
  have h0 : AL.get s.mods (k : Int) = none := by
    rw [h.get]
    rw [if_neg]
    rintro ⟨k', hk', e, _⟩
    have : k = k' := by omega
    exact hk (this ▸ hk')
  refine ⟨by rw [add_vers, h.vers], by rw [add_cnt, h.cnt], ?_, ?_, fun j => ?_⟩
  · have := add_len s (k : Int) (l.getD k [])
    have := h.len
    simp only [List.length_append, List.length_cons, List.length_nil]
    omega
  · unfold RS.add
    split
    · exact h.ok.set _ _
    · exact h.ok
  · rw [add_get (by omega) h0, h.vers, h.get]
    by_cases e : (k : Int) = j ∧ good m (l.getD k []) = true
    · rw [if_pos e, if_pos]
      · rw [← e.1]; simp
      · exact ⟨k, by simp, e.1.symm, e.2⟩
    · rw [if_neg e]
      congr 1
      apply propext
      constructor
      · rintro ⟨k', h1, h2, h3⟩
        exact ⟨k', by simp [h1], h2, h3⟩
      · rintro ⟨k', h1, h2, h3⟩
        rcases List.mem_append.1 h1 with h1 | h1
        · exact ⟨k', h1, h2, h3⟩
        · simp at h1
          subst h1
          exact absurd ⟨h2.symm, h3⟩ e

theorem Same.gets {l : List (List Fact)} {m : List (Th × Int)} {ks js : List Nat} {a b : RS} (ha : Same l m ks a) (hb : Same l m js b) (h : ∀ k, k ∈ ks ↔ k ∈ js) (j : Int) : AL.get a.mods j = AL.get b.mods j := by
  rw [ha.get, hb.get]
  congr 1
  apply propext
  constructor <;> rintro ⟨k, h1, h2, h3⟩
  · exact ⟨k, (h k).1 h1, h2, h3⟩
  · exact ⟨k, (h k).2 h1, h2, h3⟩

theorem modules_same {a b : RS} (ha : AL.Ok a.mods) (hb : AL.Ok b.mods) (h : ∀ j, AL.get a.mods j = AL.get b.mods j) : a.modules = b.modules := by
  have hp : (AL.keys a.mods).Perm (AL.keys b.mods) := by
    rw [List.perm_ext_iff_of_nodup ha hb]
    intro j
    rw [← AL.get_some, ← AL.get_some, h]
  unfold RS.modules
  have e := sorted_eq (le := leZ) leZ_trans leZ_total leZ_anti (List.pairwise_mergeSort leZ_trans leZ_total (AL.keys a.mods)) ((List.mergeSort_perm _ _).trans hp)
  exact e
theorem holds_same {m : List (Th × Int)} {a b : List (Int × List Fact)} (h : ∀ j, AL.get a j = AL.get b j) (k : Int) : holds m a k = holds m b k := by
  unfold holds
  rw [h]
theorem bumpL_same {a b : RS} (ha : AL.Ok a.mods) (hb : AL.Ok b.mods) (hv : a.vers = b.vers) (h : ∀ j, AL.get a.mods j = AL.get b.mods j) (kind n : Int) : a.bumpL kind n = b.bumpL kind n := by
  unfold RS.bumpL
  rw [hv, modules_same ha hb h]
  congr 1
  apply List.filter_congr
  intro k _
  rw [h, holds_same h]
theorem bump_same {a b : RS} (hv : a.vers = b.vers) (h : ∀ j, AL.get a.mods j = AL.get b.mods j) (kind n k : Int) : holds (a.bump kind n).vers (a.bump kind n).mods k = holds (b.bump kind n).vers (b.bump kind n).mods k := by
  unfold RS.bump
  rw [hv]
  split
  · rw [hv]; exact holds_same h k
  · exact holds_same h k

theorem bumpL_len (s : RS) (kind n : Int) (h : s.mods.length ≤ 1048576) : (s.bumpL kind n).length ≤ 4611686018427387904 := by
  unfold RS.bumpL
  split
  · simp
  · refine Nat.le_trans (List.length_filter_le _ _) ?_
    rw [RS.modules_len]
    omega

/-- The turned numbers: all of them, each once. -/
def turned (n t k : Nat) : List Nat := (List.range k).map fun i => (i + t) % n
theorem turned_succ (n t k : Nat) : turned n t (k + 1) = turned n t k ++ [(k + t) % n] := by
  unfold turned
  rw [List.range_succ, List.map_append]
  rfl
theorem mod_inj {n i j t : Nat} (hi : i < n) (hj : j < n) (h : (i + t) % n = (j + t) % n) : i = j := by
  have hn : 0 < n := by omega
  have h1 := Nat.div_add_mod (i + t) n
  have h2 := Nat.div_add_mod (j + t) n
  rw [h] at h1
  generalize (i + t) / n = a at *
  generalize (j + t) / n = b at *
  generalize (j + t) % n = r at *
  rcases Nat.lt_trichotomy a b with hlt | heq | hgt
  · have : n * (a + 1) ≤ n * b := Nat.mul_le_mul_left _ hlt
    rw [Nat.mul_add] at this
    omega
  · subst heq; omega
  · have : n * (b + 1) ≤ n * a := Nat.mul_le_mul_left _ hgt
    rw [Nat.mul_add] at this
    omega
theorem turned_new {n t k : Nat} (hk : k < n) : (k + t) % n ∉ turned n t k := by
  intro h
  unfold turned at h
  obtain ⟨i, hi, e⟩ := List.mem_map.1 h
  have := List.mem_range.1 hi
  have := mod_inj (by omega) hk e
  omega
theorem turned_all (n t : Nat) : ∀ k, k ∈ List.range n ↔ k ∈ turned n t n := by
  intro k
  unfold turned
  rw [List.mem_range, List.mem_map]
  constructor
  · intro hk
    refine ⟨(k + (n - t % n)) % n, List.mem_range.2 (Nat.mod_lt _ (by omega)), ?_⟩
    rw [Nat.mod_add_mod]
    have h1 := Nat.div_add_mod t n
    have h2 : t % n < n := Nat.mod_lt _ (by omega)
    have e : k + (n - t % n) + t = k + n * (t / n + 1) := by rw [Nat.mul_add]; omega
    rw [e, Nat.add_mul_mod_self_left, Nat.mod_eq_of_lt hk]
  · rintro ⟨i, hi, rfl⟩
    have := List.mem_range.1 hi
    exact Nat.mod_lt _ (by omega)
end Go.Fx.Ytlfabjfajcbdcaa
