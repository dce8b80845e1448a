/-
  Chapter 27: the reference registry in memory.
-/
import Derived.Test.YtlfabjfajcbdcaaAs19
set_option linter.unusedSimpArgs false
set_option linter.unusedVariables false
set_option linter.unusedSectionVars false
namespace Go.Fx.Ytlfabjfajcbdcaa
open Go Go.Fx Go.Proofs
set_option maxRecDepth 20000

abbrev Mo := Int × List Fact
def tyMo : Ty Mo := Ty.int.pair (Ty.slice tyFact)
theorem tyMo_open {R : Hp} {x : Mo} {c : List Value} (h : tyMo.rel R x c) : ∃ v, c = [.int .i64 x.1, v] ∧ RdS tyFact R v x.2 := by
  obtain ⟨c1, c2, rfl, e1, v, rfl, h2⟩ := h
  have h1 : c1 = [_] := e1
  subst h1
  exact ⟨v, rfl, h2⟩
theorem tyMo_mk {R : Hp} {a : Int} {xs : List Fact} {v : Value} (h : RdS tyFact R v xs) : tyMo.rel R (a, xs) [.int .i64 a, v] := ⟨[_], [_], rfl, rfl, v, rfl, h⟩

/-! ### Versions -/
def verR (F C : List Int) (kind n : Int) : Int :=
  if kind = 1 ∧ 0 ≤ n ∧ n < F.length then F.getD n.toNat 0 else if kind = 2 ∧ 0 ≤ n ∧ n < C.length then C.getD n.toNat 0 else -1
def AgrV (s : RS) (F C : List Int) : Prop := ∀ kind n, ver s.vers (kind, n) = verR F C kind n
theorem verR_f {F C : List Int} {n : Nat} (h : n < F.length) : verR F C 1 (n : Int) = F[n] := by
  unfold verR
  rw [if_pos ⟨rfl, by omega, by omega⟩, Int.toNat_natCast, List.getD_eq_getElem?_getD, List.getElem?_eq_getElem h]
  rfl
theorem verR_c {F C : List Int} {n : Nat} (h : n < C.length) : verR F C 2 (n : Int) = C[n] := by
  unfold verR
  rw [if_neg (by omega), if_pos ⟨rfl, by omega, by omega⟩, Int.toNat_natCast, List.getD_eq_getElem?_getD, List.getElem?_eq_getElem h]
  rfl
theorem verR_no {F C : List Int} {kind n : Int} (h : ¬ (kind = 1 ∧ 0 ≤ n ∧ n < F.length)) (h2 : ¬ (kind = 2 ∧ 0 ≤ n ∧ n < C.length)) : verR F C kind n = -1 := by
  unfold verR
  rw [if_neg h, if_neg h2]
theorem ver_set {m : List (Th × Int)} {j k : Th} {v : Int} : ver (AL.set m j v) k = if j = k then v else ver m k := by
  unfold ver
  rw [AL.get_set]
  by_cases e : j = k
  · rw [if_pos e, if_pos e]
  · rw [if_neg e, if_neg e]
theorem ver_get {m : List (Th × Int)} {k : Th} (h : ¬ ver m k < 0) : (AL.get m k).getD 0 = ver m k := by
  unfold ver at *
  cases e : AL.get m k with
  | none => rw [e] at h; simp at h
  | some v => rfl
theorem AgrV.bump1 {s : RS} {F C : List Int} {n : Nat} (h : AgrV s F C) (hn : n < F.length) (hv : ¬ ver s.vers (1, (n : Int)) < 0) : AgrV (s.bump 1 n) (F.set n (F[n] + 1)) C := by
  intro k j
  have he : ver s.vers (1, (n : Int)) = F[n] := by rw [h, verR_f hn]
  unfold RS.bump
  rw [if_neg hv]
  simp only
  rw [ver_set, ver_get hv, he]
  by_cases e : ((1 : Int), (n : Int)) = (k, j)
  · rw [if_pos e]
    cases e
    rw [verR_f (by rw [List.length_set]; exact hn), List.getElem_set_self]
  · rw [if_neg e, h]
    unfold verR
    simp only [List.length_set]
    by_cases c1 : k = 1 ∧ 0 ≤ j ∧ j < F.length
    · rw [if_pos c1, if_pos c1]
      obtain ⟨rfl, c2, c3⟩ := c1
      have hne : n ≠ j.toNat := by
        rintro rfl
        exact e (by rw [Int.toNat_of_nonneg c2])
      rw [List.getD_eq_getElem?_getD, List.getD_eq_getElem?_getD, List.getElem?_set_ne hne]
    · rw [if_neg c1, if_neg c1]
theorem AgrV.bump2 {s : RS} {F C : List Int} {n : Nat} (h : AgrV s F C) (hn : n < C.length) (hv : ¬ ver s.vers (2, (n : Int)) < 0) : AgrV (s.bump 2 n) F (C.set n (C[n] + 1)) := by
  intro k j
  have he : ver s.vers (2, (n : Int)) = C[n] := by rw [h, verR_c hn]
  unfold RS.bump
  rw [if_neg hv]
  simp only
  rw [ver_set, ver_get hv, he]
  by_cases e : ((2 : Int), (n : Int)) = (k, j)
  · rw [if_pos e]
    cases e
    rw [verR_c (by rw [List.length_set]; exact hn), List.getElem_set_self]
  · rw [if_neg e, h]
    unfold verR
    simp only [List.length_set]
    by_cases c1 : k = 1 ∧ 0 ≤ j ∧ j < F.length
    · rw [if_pos c1, if_pos c1]
    · rw [if_neg c1, if_neg c1]
      by_cases c2 : k = 2 ∧ 0 ≤ j ∧ j < C.length
      · rw [if_pos c2, if_pos c2]
        obtain ⟨rfl, c3, c4⟩ := c2
        have hne : n ≠ j.toNat := by
          rintro rfl
          exact e (by rw [Int.toNat_of_nonneg c3])
        rw [List.getD_eq_getElem?_getD, List.getD_eq_getElem?_getD, List.getElem?_set_ne hne]
      · rw [if_neg c2, if_neg c2]

/-! ### Modules by their ids -/
def SrtM (xs : List Mo) : Prop := xs.Pairwise fun a b => a.1 < b.1
def AgrM (s : RS) (xs : List Mo) : Prop := ∀ k, AL.get xs k = AL.get s.mods k
def posM : List Mo → Int → Nat
  | [], _ => 0
  | x :: xs, k => if x.1 < k then posM xs k + 1 else 0
def thrM (xs : List Mo) (k : Int) : Bool := match xs[posM xs k]? with
  | none => false
  | some x => x.1 == k
theorem posM_le (xs : List Mo) (k : Int) : posM xs k ≤ xs.length := by
  induction xs with
  | nil => exact Nat.le_refl _
  | cons x xs ih => simp only [posM]; split <;> simp <;> omega
theorem posM_drop {xs : List Mo} {k : Int} {i : Nat} (hi : i < xs.length) (h : xs[i].1 < k) : posM (xs.drop i) k = posM (xs.drop (i + 1)) k + 1 := by
  rw [List.drop_eq_getElem_cons hi]
  simp only [posM]
  rw [if_pos h]
theorem posM_stop {xs : List Mo} {k : Int} {i : Nat} (hi : i < xs.length) (h : ¬ xs[i].1 < k) : posM (xs.drop i) k = 0 := by
  rw [List.drop_eq_getElem_cons hi]
  simp only [posM]
  rw [if_neg h]
theorem posM_end {xs : List Mo} {k : Int} {i : Nat} (hi : xs.length ≤ i) : posM (xs.drop i) k = 0 := by
  rw [List.drop_eq_nil_of_le hi]; rfl
theorem thrM_no {xs : List Mo} {k : Int} {i : Nat} (hp : posM xs k = i) (hi : xs.length ≤ i) : thrM xs k = false := by
  unfold thrM; rw [hp, List.getElem?_eq_none hi]
theorem thrM_at {xs : List Mo} {k : Int} {i : Nat} (hp : posM xs k = i) (hi : i < xs.length) : thrM xs k = (xs[i].1 == k) := by
  unfold thrM; rw [hp, List.getElem?_eq_getElem hi]
theorem thrM_cons {x : Mo} {xs : List Mo} {k : Int} (h : x.1 < k) : thrM (x :: xs) k = thrM xs k := by
  unfold thrM
  simp only [posM]
  rw [if_pos h, List.getElem?_cons_succ]
theorem thrM_cons0 {x : Mo} {xs : List Mo} {k : Int} (h : ¬ x.1 < k) : thrM (x :: xs) k = (x.1 == k) := by
  unfold thrM
  simp only [posM]
  rw [if_neg h]
  rfl
theorem getM_after {xs : List Mo} {k : Int} (h : ∀ x ∈ xs, k < x.1) : AL.get xs k = none := by
  induction xs with
  | nil => rfl
  | cons x xs ih =>
    have h1 := h x (by simp)
    simp only [AL.get]
    rw [if_neg (by omega)]
    exact ih fun y hy => h y (by simp [hy])
theorem thrM_get {xs : List Mo} {k : Int} (hs : SrtM xs) : thrM xs k = (AL.get xs k).isSome := by
  induction xs with
  | nil => rfl
  | cons x xs ih =>
    have hs' := List.pairwise_cons.1 hs
    obtain ⟨a, b⟩ := x
    by_cases hb : a < k
    · rw [thrM_cons hb, ih hs'.2]
      simp only [AL.get]
      rw [if_neg (by omega)]
    · rw [thrM_cons0 hb]
      by_cases e : a = k
      · subst e; simp [AL.get]
      · have : AL.get ((a, b) :: xs) k = none := getM_after fun y hy => by
          rcases List.mem_cons.1 hy with rfl | hy
          · simp only; omega
          · have := hs'.1 y hy; simp only at this; omega
        rw [this]
        simp [e]
theorem thrM_yes {xs : List Mo} {k : Int} (hs : SrtM xs) (h : thrM xs k = true) : ∃ hp : posM xs k < xs.length, AL.get xs k = some (xs[posM xs k]).2 ∧ (xs[posM xs k]).1 = k := by
  induction xs with
  | nil => simp [thrM] at h
  | cons x xs ih =>
    have hs' := List.pairwise_cons.1 hs
    obtain ⟨a, b⟩ := x
    by_cases hb : a < k
    · rw [thrM_cons hb] at h
      obtain ⟨hp, h1, h2⟩ := ih hs'.2 h
      have hq : posM ((a, b) :: xs) k = posM xs k + 1 := by simp only [posM]; rw [if_pos hb]
      refine ⟨by rw [hq]; simp; exact hp, ?_, ?_⟩
      · simp only [AL.get]
        rw [if_neg (by omega), h1]
        simp only [hq, List.getElem_cons_succ]
      · simp only [hq, List.getElem_cons_succ]; exact h2
    · rw [thrM_cons0 hb] at h
      have e : a = k := by simpa using h
      have hq : posM ((a, b) :: xs) k = 0 := by simp only [posM]; rw [if_neg hb]
      refine ⟨by rw [hq]; simp, ?_, ?_⟩
      · simp only [AL.get, hq, List.getElem_cons_zero]
        rw [if_pos e]
      · simp only [hq, List.getElem_cons_zero]; exact e
def insM (xs : List Mo) (k : Int) (fs : List Fact) : List Mo := xs.take (posM xs k) ++ (k, fs) :: xs.drop (posM xs k)
theorem insM_get {xs : List Mo} {k : Int} {fs : List Fact} (hs : SrtM xs) (ht : thrM xs k = false) : SrtM (insM xs k fs) ∧ ∀ i, AL.get (insM xs k fs) i = if k = i then some fs else AL.get xs i := by
  induction xs with
  | nil => exact ⟨by simp [SrtM, insM, posM], fun i => by simp [insM, posM, AL.get]⟩
  | cons x xs ih =>
    have hs' := List.pairwise_cons.1 hs
    obtain ⟨a, b⟩ := x
    by_cases hb : a < k
    · rw [thrM_cons hb] at ht
      obtain ⟨h1, h2⟩ := ih hs'.2 ht
      have hp : insM ((a, b) :: xs) k fs = (a, b) :: insM xs k fs := by unfold insM; simp only [posM]; rw [if_pos hb]; rfl
      rw [hp]
      refine ⟨List.pairwise_cons.2 ⟨fun z hz => ?_, h1⟩, fun i => ?_⟩
      · unfold insM at hz
        rcases List.mem_append.1 hz with hz | hz
        · exact hs'.1 z (List.mem_of_mem_take hz)
        · rcases List.mem_cons.1 hz with rfl | hz
          · exact hb
          · exact hs'.1 z (List.mem_of_mem_drop hz)
      · simp only [AL.get]
        by_cases e : a = i
        · rw [if_pos e, if_pos e, if_neg (by omega)]
        · rw [if_neg e, if_neg e]; exact h2 i
    · rw [thrM_cons0 hb] at ht
      have hne : a ≠ k := by simpa using ht
      have hp : insM ((a, b) :: xs) k fs = (k, fs) :: (a, b) :: xs := by unfold insM; simp only [posM]; rw [if_neg hb]; rfl
      rw [hp]
      refine ⟨List.pairwise_cons.2 ⟨fun z hz => ?_, hs⟩, fun i => by simp only [AL.get]⟩
      rcases List.mem_cons.1 hz with rfl | hz
      · show k < a; omega
      · have := hs'.1 z hz; simp only at this ⊢; omega
def delM (xs : List Mo) (k : Int) : List Mo := xs.take (posM xs k) ++ xs.drop (posM xs k + 1)
theorem delM_get {xs : List Mo} {k : Int} (hs : SrtM xs) (ht : thrM xs k = true) : SrtM (delM xs k) ∧ ∀ i, AL.get (delM xs k) i = if k = i then none else AL.get xs i := by
  induction xs with
  | nil => simp [thrM] at ht
  | cons x xs ih =>
    have hs' := List.pairwise_cons.1 hs
    obtain ⟨a, b⟩ := x
    by_cases hb : a < k
    · rw [thrM_cons hb] at ht
      obtain ⟨h1, h2⟩ := ih hs'.2 ht
      have hp : delM ((a, b) :: xs) k = (a, b) :: delM xs k := by unfold delM; simp only [posM]; rw [if_pos hb]; rfl
      rw [hp]
      refine ⟨List.pairwise_cons.2 ⟨fun z hz => ?_, h1⟩, fun i => ?_⟩
      · unfold delM at hz
        rcases List.mem_append.1 hz with hz | hz
        · exact hs'.1 z (List.mem_of_mem_take hz)
        · exact hs'.1 z (List.mem_of_mem_drop hz)
      · simp only [AL.get]
        by_cases e : a = i
        · rw [if_pos e, if_pos e, if_neg (by omega)]
        · rw [if_neg e, if_neg e]; exact h2 i
    · rw [thrM_cons0 hb] at ht
      have e : a = k := by simpa using ht
      have hp : delM ((a, b) :: xs) k = xs := by unfold delM; simp only [posM]; rw [if_neg hb]; rfl
      rw [hp]
      refine ⟨hs'.2, fun i => ?_⟩
      simp only [AL.get]
      by_cases ei : k = i
      · rw [if_pos ei, ← ei]
        exact getM_after fun y hy => by have := hs'.1 y hy; simp only at this; omega
      · rw [if_neg ei, if_neg (by omega)]
theorem mods_sorted {s : RS} {xs : List Mo} (hs : SrtM xs) (ha : AgrM s xs) (hk : AL.Ok s.mods) : xs.map (·.1) = s.modules := by
  unfold RS.modules
  have h1 : (xs.map (·.1)).Pairwise fun a b => a < b := by rw [List.pairwise_map]; exact hs
  refine List.Perm.eq_of_pairwise (le := fun a b => decide (a ≤ b) = true) (fun a b _ _ h g => by simp only [decide_eq_true_eq] at h g; omega) (h1.imp fun h => by simp only [decide_eq_true_eq]; omega)
    (List.pairwise_mergeSort (fun a b c h g => by simp only [decide_eq_true_eq] at h g ⊢; omega) (fun a b => by simp only [Bool.or_eq_true, decide_eq_true_eq]; omega) _) ((?_ : (xs.map (·.1)).Perm (AL.keys s.mods)).trans (List.mergeSort_perm _ _).symm)
  refine (List.perm_ext_iff_of_nodup ?_ hk).2 fun k => ?_
  · rw [List.nodup_iff_pairwise_ne]
    exact h1.imp fun h => by omega
  · show k ∈ AL.keys xs ↔ _
    rw [← AL.get_some, ← AL.get_some, ha k]
end Go.Fx.Ytlfabjfajcbdcaa
