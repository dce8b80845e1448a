/-
  Chapter 27: the reference registry: lemmas for Add, Bump, New.
-/
import Derived.Test.YtlfabjfajcbdcaaBe
set_option linter.unusedSimpArgs false
set_option linter.unusedVariables false
set_option linter.unusedSectionVars false
namespace Go.Fx.Ytlfabjfajcbdcaa
open Go Go.Fx Go.Proofs
set_option maxRecDepth 20000

theorem AgrM.add {s : RS} {xs : List Mo} {k : Int} {fs : List Fact} (hs : SrtM xs) (ha : AgrM s xs) (h : thrM xs k = false) : AgrM { s with mods := AL.set s.mods k fs } (insM xs k fs) := fun i => by
  rw [(insM_get hs h).2 i]
  simp only
  rw [AL.get_set, ha i]
theorem AgrM.addOk {s : RS} {xs : List Mo} {k : Int} {fs : List Fact} (hs : SrtM xs) (ha : AgrM s xs) (h : thrM xs k = false) (he : s.addE k fs = 0) : AgrM (s.add k fs) (insM xs k fs) := by
  rw [RS.add_ok he]; exact AgrM.add hs ha h
theorem AgrV.addOk {s : RS} {F C : List Int} {k : Int} {fs : List Fact} (h : AgrV s F C) (he : s.addE k fs = 0) : AgrV (s.add k fs) F C := by
  rw [RS.add_ok he]; exact h
theorem RS.Ok.addOk {s : RS} {k : Int} {fs : List Fact} (h : s.Ok) (he : s.addE k fs = 0) (hx : fs.length ≤ 1099511627776) : (s.add k fs).Ok := by
  rw [RS.add_ok he]; exact h.set k hx
theorem upto_0 (m : List (Th × Int)) (xs : List Fact) : upto m xs 0 := fun i _ h => absurd h (by omega)
theorem apart_0 (xs : List Fact) (k : Nat) : apart xs k 0 := fun _ i _ h => absurd h (by omega)
theorem apart_ge {xs : List Fact} {k j : Nat} (h : apart xs k j) (hj : k ≤ j) : apart xs k k := fun hk i hi hlt => h hk i hi (by omega)
theorem chkR_no1 {s : RS} {F C : List Int} {xs : List Fact} {k : Nat} {f : Fact} (ha : AgrV s F C) (hk : k < xs.length) (hf : f = xs[k]) (h : verR F C f.kind f.n < 0) : chk s.vers xs [] = false := by
  refine chk0_no1 (f := f) (by rw [hf]; exact List.getElem_mem hk) ?_
  rw [ha]; exact h
theorem chkR_no2 {m : List (Th × Int)} {xs : List Fact} {k j : Nat} {f g : Fact} (hj : j < k) (hk : k < xs.length) (hf : f = xs[k]) (hg : g = xs[j]'(by omega)) (h1 : g.kind = f.kind) (h2 : g.n = f.n) : chk m xs [] = false := by
  subst hf; subst hg
  exact chk0_no2 hj hk h1 h2
theorem uptoR_succ {s : RS} {F C : List Int} {xs : List Fact} {k : Nat} {f : Fact} (h : upto s.vers xs k) (ha : AgrV s F C) (hk : k < xs.length) (hf : f = xs[k]) (h1 : ¬ verR F C f.kind f.n < 0) (h2 : apart xs k k) : upto s.vers xs (k + 1) := by
  refine upto_succ h hk ?_ h2
  rw [ha, ← hf]; exact h1
theorem apartR_succ {xs : List Fact} {k j : Nat} {f g : Fact} (h : apart xs k j) (hj : j < k) (hk : k < xs.length) (hf : f = xs[k]) (hg : g = xs[j]'(by omega)) (h1 : ¬ (g.kind = f.kind ∧ g.n = f.n)) : apart xs k (j + 1) := by
  subst hf; subst hg
  exact apart_succ h (by omega) hk h1
theorem curR_chk {s : RS} {F C : List Int} {xs : List Fact} (ha : AgrV s F C) (h : chk s.vers xs [] = true) : cur s.vers xs = curR F C xs := (curR_cur ha (chk_known h)).symm
theorem mods_none {s : RS} {xs : List Mo} {k : Int} (hs : SrtM xs) (ha : AgrM s xs) (h : thrM xs k = false) : (AL.get s.mods k).isSome = false := by rw [← thrM_mods hs ha]; exact h
theorem mods_some {s : RS} {xs : List Mo} {k : Int} (hs : SrtM xs) (ha : AgrM s xs) (h : thrM xs k = true) : (AL.get s.mods k).isSome = true := by rw [← thrM_mods hs ha]; exact h
theorem retE {a b : Int} (h : a = b) : int a = int b := by rw [h]

/-! ### Bump -/
theorem ver_le {s : RS} (h : s.Ok) {kn : Th} (hn : ¬ ver s.vers kn < 0) : 0 ≤ ver s.vers kn ∧ ver s.vers kn ≤ s.cnt + 1 := by
  unfold ver at *
  cases e : AL.get s.vers kn with
  | none => rw [e] at hn; simp at hn
  | some v => have := h.low _ _ e; simp only [Option.getD_some]; omega
theorem F_le {s : RS} {F C : List Int} (h : s.Ok) (ha : AgrV s F C) {j : Nat} (hj : j < F.length) (hn : ¬ verR F C 1 (j : Int) < 0) : F[j] ≤ s.cnt + 1 ∧ 0 ≤ F[j] := by
  have := ver_le h (kn := (1, (j : Int))) (by rw [ha]; exact hn)
  rw [ha, verR_f hj] at this
  omega
theorem C_le {s : RS} {F C : List Int} (h : s.Ok) (ha : AgrV s F C) {j : Nat} (hj : j < C.length) (hn : ¬ verR F C 2 (j : Int) < 0) : C[j] ≤ s.cnt + 1 ∧ 0 ≤ C[j] := by
  have := ver_le h (kn := (2, (j : Int))) (by rw [ha]; exact hn)
  rw [ha, verR_c hj] at this
  omega
/-- What is known is one of the functions or classes. -/
theorem verR_known {F C : List Int} {kind n : Int} (h : ¬ verR F C kind n < 0) : ∃ j : Nat, n = (j : Int) ∧ (kind = 1 ∧ j < F.length ∨ kind = 2 ∧ j < C.length) := by
  unfold verR at h
  split at h
  · rename_i h1; exact ⟨n.toNat, by omega, .inl ⟨h1.1, by omega⟩⟩
  · split at h
    · rename_i h1; exact ⟨n.toNat, by omega, .inr ⟨h1.1, by omega⟩⟩
    · omega
theorem bump_none {s : RS} {F C : List Int} {kind n : Int} (ha : AgrV s F C) (h : verR F C kind n < 0) : s.bump kind n = s ∧ s.bumpL kind n = [] := by
  have h' : ver s.vers (kind, n) < 0 := by rw [ha]; exact h
  exact ⟨by unfold RS.bump; rw [if_pos h'], by unfold RS.bumpL; rw [if_pos h']⟩
theorem AgrM.bump {s : RS} {xs : List Mo} (h : AgrM s xs) (kind n : Int) : AgrM (s.bump kind n) xs := fun k => by rw [bump_mods]; exact h k
/-- The list of those that held, read. -/
theorem held_open {F C : List Int} {xs : List Mo} {i : Nat} (hi : i < (heldT F C xs xs.length).length) : ∃ j : Nat, (heldT F C xs xs.length)[i] = (j : Int) ∧ j < xs.length := heldT_in (List.getElem_mem hi)

/-! ### New -/
theorem new_agr (f c : Nat) : AgrV (RS.new f c) (List.replicate f 1) (List.replicate c 1) := by
  have hF : ∀ f kind n, ver (vF f) (kind, n) = if kind = 1 ∧ 0 ≤ n ∧ n < (f : Int) then 1 else -1 := by
    intro f
    induction f with
    | zero => intro kind n; rw [if_neg (by omega)]; rfl
    | succ f ih =>
      intro kind n
      simp only [vF]
      rw [ver_set, ih]
      by_cases e : ((1 : Int), (f : Int)) = (kind, n)
      · rw [if_pos e]; cases e; rw [if_pos (by omega)]
      · rw [if_neg e]
        by_cases h : kind = 1 ∧ 0 ≤ n ∧ n < (f : Int)
        · rw [if_pos h, if_pos (by omega)]
        · rw [if_neg h, if_neg]
          rintro ⟨rfl, h2, h3⟩
          have : n ≠ (f : Int) := fun q => e (by rw [q])
          omega
  have hC : ∀ c kind n, ver (vC f c) (kind, n) = if kind = 1 ∧ 0 ≤ n ∧ n < (f : Int) then 1 else if kind = 2 ∧ 0 ≤ n ∧ n < (c : Int) then 1 else -1 := by
    intro c
    induction c with
    | zero => intro kind n; simp only [vC]; rw [hF]; split; rfl; rw [if_neg (by omega)]
    | succ c ih =>
      intro kind n
      simp only [vC]
      rw [ver_set, ih]
      by_cases e : ((2 : Int), (c : Int)) = (kind, n)
      · rw [if_pos e]; cases e; rw [if_neg (by omega), if_pos (by omega)]
      · rw [if_neg e]
        by_cases h : kind = 1 ∧ 0 ≤ n ∧ n < (f : Int)
        · rw [if_pos h, if_pos h]
        · rw [if_neg h, if_neg h]
          by_cases h2 : kind = 2 ∧ 0 ≤ n ∧ n < (c : Int)
          · rw [if_pos h2, if_pos (by omega)]
          · rw [if_neg h2, if_neg]
            rintro ⟨rfl, h3, h4⟩
            have : n ≠ (c : Int) := fun q => e (by rw [q])
            omega
  intro kind n
  show ver (vC f c) (kind, n) = _
  rw [hC]
  unfold verR
  simp only [List.length_replicate]
  by_cases h1 : kind = 1 ∧ 0 ≤ n ∧ n < (f : Int)
  · rw [if_pos h1, if_pos h1]
    rw [List.getD_eq_getElem?_getD, List.getElem?_replicate, if_pos (by omega)]
    rfl
  · rw [if_neg h1, if_neg h1]
    by_cases h2 : kind = 2 ∧ 0 ≤ n ∧ n < (c : Int)
    · rw [if_pos h2, if_pos h2]
      rw [List.getD_eq_getElem?_getD, List.getElem?_replicate, if_pos (by omega)]
      rfl
    · rw [if_neg h2, if_neg h2]
theorem rep_succ (k : Nat) : List.replicate k (1 : Int) ++ [1] = List.replicate (k + 1) 1 := by rw [List.replicate_succ']
end Go.Fx.Ytlfabjfajcbdcaa
