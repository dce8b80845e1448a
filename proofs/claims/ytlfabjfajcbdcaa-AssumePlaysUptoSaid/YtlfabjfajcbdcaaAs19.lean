/-
  Chapter 27: what Bump breaks, as plain law.
-/
import Derived.Test.YtlfabjfajcbdcaaAs15
import Derived.Test.YtlfabjfajcbdcaaAs16
set_option linter.unusedSimpArgs false
set_option linter.unusedVariables false
set_option linter.unusedSectionVars false
namespace Go.Fx.Ytlfabjfajcbdcaa
open Go Go.Fx Go.Proofs
set_option maxRecDepth 20000

theorem AL.get_congr_len {κ β : Type} [DecidableEq κ] {a b : List (κ × β)} (ha : AL.Ok a) (hb : AL.Ok b) (h : ∀ k, AL.get a k = AL.get b k) : a.length = b.length := by
  have hp : (AL.keys a).Perm (AL.keys b) := by
    rw [List.perm_ext_iff_of_nodup ha hb]
    intro j
    rw [← AL.get_some, ← AL.get_some, h]
  have := hp.length_eq
  simpa [AL.keys] using this

/-- A registry and what a law keeps beside it: the same modules; their facts are of this day or of old. -/
structure BI (s : RS) (F : List (Int × List Fact)) : Prop where
  okS : AL.Ok s.mods
  okF : AL.Ok F
  get : ∀ k, AL.get F k = AL.get s.mods k
  low : ∀ k xs, AL.get s.mods k = some xs → ∀ f ∈ xs, f.version ≤ (AL.get s.vers f.th).getD 0

theorem BI.start (f c : Nat) : BI (RS.new f c) [] :=
  ⟨AL.Ok.nil, AL.Ok.nil, fun k => rfl, fun k xs h => by simp [RS.new, AL.get] at h⟩

theorem cur_eq {m : List (Th × Int)} {xs : List Fact} (h : cur m xs = true) : ∀ f ∈ xs, (AL.get m f.th).getD 0 = f.version := by
  intro f hf
  simp only [cur, Bool.not_eq_true', List.any_eq_false] at h
  have := h f hf
  simpa [stale, Fact.th] using this

theorem addE_zero {s : RS} {k : Int} {xs : List Fact} (h : s.addE k xs = 0) : (AL.get s.mods k).isSome = false ∧ cur s.vers xs = true := by
  unfold RS.addE at h
  split at h
  · cases h
  · split at h
    · cases h
    · split at h
      · cases h
      · rename_i h3
        split at h
        · cases h
        · rename_i h4
          exact ⟨by simpa using h3, by simpa using h4⟩

theorem BI.add {s : RS} {F : List (Int × List Fact)} (h : BI s F) {k : Int} {xs : List Fact} (he : s.addE k xs = 0) : BI (s.add k xs) (AL.set F k xs) := by
  obtain ⟨h1, h2⟩ := addE_zero he
  rw [RS.add_ok he]
  refine ⟨h.okS.set _ _, h.okF.set _ _, fun j => ?_, fun j ys hj => ?_⟩
  · simp only [AL.get_set, h.get]
  · simp only [AL.get_set] at hj
    split at hj
    · cases hj
      intro f hf
      have := cur_eq h2 f hf
      simp only
      omega
    · exact h.low j ys hj
theorem BI.add' {s : RS} {F : List (Int × List Fact)} (h : BI s F) {k : Int} {xs : List Fact} (he : ¬ s.addE k xs = 0) : BI (s.add k xs) F := by
  rw [RS.add_same rfl he]
  exact h
theorem BI.remove {s : RS} {F : List (Int × List Fact)} (h : BI s F) (k : Int) : BI (s.remove k) (AL.del F k) := by
  refine ⟨h.okS.del _, h.okF.del _, fun j => ?_, fun j ys hj => ?_⟩
  · simp only [RS.remove, AL.get_del h.okS, AL.get_del h.okF, h.get]
  · simp only [RS.remove, AL.get_del h.okS] at hj
    split at hj
    · cases hj
    · exact h.low j ys hj
theorem BI.remove' {s : RS} {F : List (Int × List Fact)} (h : BI s F) {k : Int} (hk : (AL.get s.mods k).isSome = false) : BI (s.remove k) F := by
  have hn : AL.get s.mods k = none := by cases e : AL.get s.mods k with
    | none => rfl
    | some v => rw [e] at hk; cases hk
  refine ⟨h.okS.del _, h.okF, fun j => ?_, fun j ys hj => ?_⟩
  · simp only [RS.remove, AL.get_del h.okS, h.get]
    split
    · rename_i e; rw [← e, hn]
    · rfl
  · simp only [RS.remove, AL.get_del h.okS] at hj
    split at hj
    · cases hj
    · exact h.low j ys hj
theorem bump_low {s : RS} (kind n : Int) (k : Th) : (AL.get s.vers k).getD 0 ≤ (AL.get (s.bump kind n).vers k).getD 0 := by
  unfold RS.bump
  split
  · exact Int.le_refl _
  · simp only [AL.get_set]
    split
    · rename_i e; subst e; simp only [Option.getD_some]; omega
    · exact Int.le_refl _
theorem BI.bump {s : RS} {F : List (Int × List Fact)} (h : BI s F) (kind n : Int) : BI (s.bump kind n) F := by
  refine ⟨by rw [RS.bump_mods]; exact h.okS, h.okF, fun j => by rw [RS.bump_mods]; exact h.get j, fun j ys hj f hf => ?_⟩
  rw [RS.bump_mods] at hj
  exact Int.le_trans (h.low j ys hj f hf) (bump_low kind n f.th)

/-- What is there to be broken. -/
def wants (s : RS) (F : List (Int × List Fact)) (kind n k : Int) : Bool := (((AL.get F k).getD []).any (usesF kind n) && holds s.vers s.mods k) && decide (ver s.vers (kind, n) ≥ 0)
theorem BI.want {s : RS} {F : List (Int × List Fact)} (h : BI s F) (kind n : Int) : s.bumpL kind n = s.modules.filter (wants s F kind n) := by
  unfold RS.bumpL
  by_cases hv : ver s.vers (kind, n) < 0
  · rw [if_pos hv]
    symm
    rw [List.filter_eq_nil_iff]
    intro k _
    simp only [wants, Bool.and_eq_true, decide_eq_true_eq]
    omega
  · rw [if_neg hv]
    apply List.filter_congr
    intro k _
    simp only [wants, h.get]
    have : decide (ver s.vers (kind, n) ≥ 0) = true := decide_eq_true (by omega)
    rw [this, Bool.and_true]

/-- What uses kind and n holds no more. -/
def Broken (kind n : Int) (s : RS) : Prop := ∀ k xs, AL.get s.mods k = some xs → xs.any (usesF kind n) = true → holds s.vers s.mods k = false
theorem BI.broken {s : RS} {F : List (Int × List Fact)} (h : BI s F) {kind n : Int} (hv : ¬ ver s.vers (kind, n) < 0) : Broken kind n (s.bump kind n) := by
  intro k xs hk hu
  rw [RS.bump_mods] at hk
  simp only [holds, RS.bump_mods, hk, Option.isSome_some, Option.getD_some, Bool.true_and]
  rw [List.any_eq_true] at hu
  obtain ⟨f, hf, hq⟩ := hu
  have hth : f.th = (kind, n) := by
    simp only [usesF, Bool.and_eq_true, beq_iff_eq] at hq
    simp [Fact.th, hq.1, hq.2]
  have hlow := h.low k xs hk f hf
  rw [hth] at hlow
  have : (AL.get (s.bump kind n).vers (kind, n)).getD 0 = (AL.get s.vers (kind, n)).getD 0 + 1 := by
    unfold RS.bump
    rw [if_neg hv]
    simp [AL.get_set]
  simp only [cur, Bool.not_eq_false', List.any_eq_true]
  refine ⟨f, hf, ?_⟩
  simp only [stale, bne_iff_ne, ne_eq]
  have e : (f.kind, f.n) = (kind, n) := hth
  rw [e, this]
  omega
theorem Broken.none {kind n : Int} {s : RS} (h : Broken kind n s ∨ ver s.vers (kind, n) < 0) : s.bumpL kind n = [] := by
  unfold RS.bumpL
  split
  · rfl
  · rename_i hv
    rcases h with h | h
    · rw [List.filter_eq_nil_iff]
      intro k _
      simp only [Bool.and_eq_true, not_and, Bool.not_eq_true]
      intro hu
      cases e : AL.get s.mods k with
      | none => rw [e] at hu; simp at hu
      | some xs => rw [e] at hu; exact h k xs e hu
    · exact absurd h hv
theorem ver_bump {s : RS} {kind n : Int} (hv : ¬ ver s.vers (kind, n) < 0) : ¬ ver (s.bump kind n).vers (kind, n) < 0 := by
  have h2 := ver_pos hv
  have hg : AL.get (s.bump kind n).vers (kind, n) = some ((AL.get s.vers (kind, n)).getD 0 + 1) := by
    unfold RS.bump
    rw [if_neg hv]
    simp [AL.get_set]
  have h3 : ver (s.bump kind n).vers (kind, n) = (AL.get s.vers (kind, n)).getD 0 + 1 := by
    unfold ver
    rw [hg]
  omega
theorem bump_ver {s : RS} {kind n : Int} (h : ver s.vers (kind, n) < 0) : s.bump kind n = s := by unfold RS.bump; rw [if_pos h]
/-- Nothing of what was broken holds, whatever is bumped behind it. -/
structure After (kind n : Int) (s0 : RS) (F : List (Int × List Fact)) (s : RS) : Prop where
  bi : BI s F
  mods : s.mods = s0.mods
  br : Broken kind n s ∨ ver s.vers (kind, n) < 0
  ne : s.vers ≠ []
  pos : ¬ ver s0.vers (kind, n) < 0 → ¬ ver s.vers (kind, n) < 0
theorem After.first {s : RS} {F : List (Int × List Fact)} (h : BI s F) (hn : s.vers ≠ []) (kind n : Int) : After kind n s F (s.bump kind n) := by
  refine ⟨h.bump kind n, RS.bump_mods s kind n, ?_, RS.bump_ne hn kind n, ver_bump⟩
  by_cases hv : ver s.vers (kind, n) < 0
  · right; rw [bump_ver hv]; exact hv
  · left; exact h.broken hv
theorem After.bump {s0 s : RS} {F : List (Int × List Fact)} {kind n : Int} (h : After kind n s0 F s) : After kind n s0 F (s.bump kind n) := by
  refine ⟨h.bi.bump kind n, (RS.bump_mods s kind n).trans h.mods, ?_, RS.bump_ne h.ne kind n, fun hv => ver_bump (h.pos hv)⟩
  by_cases hv : ver s.vers (kind, n) < 0
  · right; rw [bump_ver hv]; exact hv
  · left; exact h.bi.broken hv
theorem modules_mods {a b : RS} (h : a.mods = b.mods) : a.modules = b.modules := by unfold RS.modules; rw [h]
theorem mem_bumpL {s : RS} {kind n k : Int} (h : k ∈ s.bumpL kind n) : k ∈ s.modules ∧ ((AL.get s.mods k).getD []).any (usesF kind n) = true ∧ ¬ ver s.vers (kind, n) < 0 := by
  unfold RS.bumpL at h
  split at h
  · cases h
  · rename_i hv
    obtain ⟨h1, h2⟩ := List.mem_filter.1 h
    simp only [Bool.and_eq_true] at h2
    exact ⟨h1, h2.1, hv⟩
/-- A module that Bump named does not hold any more, and is there. -/
theorem After.gone {s0 s : RS} {F : List (Int × List Fact)} {kind n k : Int} (h : After kind n s0 F s) (hk : k ∈ s0.bumpL kind n) : holds s.vers s.mods k = false := by
  obtain ⟨_, hu, hv⟩ := mem_bumpL hk
  rcases h.br with hb | hb
  · cases e : AL.get s.mods k with
    | none => simp [holds, e]
    | some xs =>
      refine hb k xs e ?_
      rw [← h.mods, e] at hu
      exact hu
  · exact absurd hb (h.pos hv)
theorem After.there {s0 s : RS} {F : List (Int × List Fact)} {kind n k : Int} (h : After kind n s0 F s) (hk : k ∈ s0.bumpL kind n) : k ∈ s.modules := by
  rw [modules_mods h.mods]
  exact (mem_bumpL hk).1
theorem After.len {s0 s : RS} {F : List (Int × List Fact)} {kind n : Int} (h : After kind n s0 F s) : s.modules.length = F.length := by
  rw [RS.modules_len]
  exact (AL.get_congr_len h.bi.okF h.bi.okS h.bi.get).symm
theorem remove_len (s : RS) (k : Int) : (s.remove k).mods.length ≤ s.mods.length := by
  have : ∀ (m : List (Int × List Fact)), (AL.del m k).length ≤ m.length := by
    intro m
    induction m with
    | nil => simp [AL.del]
    | cons p m ih =>
      obtain ⟨a, b⟩ := p
      simp only [AL.del]
      split <;> simp only [List.length_cons] <;> omega
  exact this s.mods
theorem any_step {α : Type} {p : α → Bool} {xs : List α} {k : Nat} {u : Bool} (hk : k < xs.length) (h : u = (xs.take k).any p) : (xs.take (k + 1)).any p = (u || p (xs[k]'hk)) := by
  rw [List.take_succ_eq_append_getElem hk, List.any_append, ← h]
  simp
theorem any_end {α : Type} {p : α → Bool} {xs : List α} {k : Nat} {u : Bool} (hk : xs.length ≤ k) (h : u = (xs.take k).any p) : u = xs.any p := by
  rw [List.take_of_length_le hk] at h
  exact h

theorem Reg.ok {R : Hp} {p : Nat} {s : RS} {c : Hp} (h : Reg R p s c) : s.Ok := by
  obtain ⟨_, _, _, _, _, _, _, _, _, h5, _⟩ := h
  exact h5

/-! ### Acts -/
structure Act where
  what : Int
  module : Int
  facts : List Fact
def tyAct : Ty Act := (Ty.int.pair (Ty.int.pair (Ty.slice tyFact))).via (fun a => (a.what, a.module, a.facts))
theorem tyAct_open {R : Hp} {x : Act} {c : List Value} (h : tyAct.rel R x c) : ∃ v, c = [.int .i64 x.what, .int .i64 x.module, v] ∧ RdS tyFact R v x.facts := by
  obtain ⟨c1, c2, rfl, e1, c3, c4, rfl, e3, v, e4, hv⟩ := h
  have h1 : c1 = [_] := e1
  have h3 : c3 = [_] := e3
  subst h1; subst h3; subst e4
  exact ⟨v, rfl, hv⟩
theorem tmod6 (x : Int) : -5 ≤ Int.tmod x 6 ∧ Int.tmod x 6 ≤ 5 := by
  rcases Int.le_total 0 x with h | h
  · rw [Int.tmod_eq_emod_of_nonneg h]; omega
  · have h1 := Int.neg_tmod x 6
    rw [Int.tmod_eq_emod_of_nonneg (by omega : 0 ≤ -x)] at h1
    omega
end Go.Fx.Ytlfabjfajcbdcaa
