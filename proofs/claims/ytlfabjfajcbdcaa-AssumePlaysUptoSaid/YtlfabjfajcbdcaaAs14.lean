/-
  Chapter 27: what AssumeErrors reckons, as plain law.
-/
import Derived.Test.YtlfabjfajcbdcaaAs11
set_option linter.unusedSimpArgs false
set_option linter.unusedVariables false
set_option linter.unusedSectionVars false
namespace Go.Fx.Ytlfabjfajcbdcaa
open Go Go.Fx Go.Proofs
set_option maxRecDepth 20000

def wantStep (m : List (Th × Int)) (seen : List (Th × Bool)) (w : Int) (f : Fact) : Int :=
  if ver m (f.kind, f.n) < 0 then 1 else if (AL.get seen (f.kind, f.n)).getD false = true then 1 else if f.version = ver m (f.kind, f.n) then w else if w = 0 then 40 else w
def wantF (m : List (Th × Int)) : List Fact → List (Th × Bool) → Int → Int
  | [], _, w => w
  | f :: fs, seen, w => wantF m fs (AL.set seen (f.kind, f.n) true) (wantStep m seen w f)

theorem wantF_step {m : List (Th × Int)} {xs : List Fact} {k : Nat} {seen : List (Th × Bool)} {w w' q : Int} (hk : k < xs.length) (h : wantF m (xs.drop k) seen w = q) (hw : wantStep m seen w (xs[k]'hk) = w') :
    wantF m (xs.drop (k + 1)) (AL.set seen ((xs[k]'hk).kind, (xs[k]'hk).n) true) w' = q := by
  rw [List.drop_eq_getElem_cons hk] at h
  simp only [wantF] at h
  rw [hw] at h
  exact h
theorem wantF_end {m : List (Th × Int)} {xs : List Fact} {k : Nat} {seen : List (Th × Bool)} {w q : Int} (hk : xs.length ≤ k) (h : wantF m (xs.drop k) seen w = q) : w = q := by
  rw [List.drop_eq_nil_of_le hk] at h
  exact h
theorem wantStep_1 {m : List (Th × Int)} {seen : List (Th × Bool)} {w : Int} {f : Fact} (h : ver m (f.kind, f.n) < 0) : wantStep m seen w f = 1 := by unfold wantStep; rw [if_pos h]
theorem wantStep_2 {m : List (Th × Int)} {seen : List (Th × Bool)} {w : Int} {f : Fact} (h : ¬ ver m (f.kind, f.n) < 0) (h2 : (AL.get seen (f.kind, f.n)).getD false = true) : wantStep m seen w f = 1 := by
  unfold wantStep; rw [if_neg h, if_pos h2]
theorem wantStep_3 {m : List (Th × Int)} {seen : List (Th × Bool)} {w : Int} {f : Fact} (h : ¬ ver m (f.kind, f.n) < 0) (h2 : (AL.get seen (f.kind, f.n)).getD false = false) (h3 : f.version = ver m (f.kind, f.n)) : wantStep m seen w f = w := by
  unfold wantStep; rw [if_neg h, if_neg (by rw [h2]; simp), if_pos h3]
theorem wantStep_4 {m : List (Th × Int)} {seen : List (Th × Bool)} {w : Int} {f : Fact} (h : ¬ ver m (f.kind, f.n) < 0) (h2 : (AL.get seen (f.kind, f.n)).getD false = false) (h3 : ¬ f.version = ver m (f.kind, f.n)) (h4 : w = 0) : wantStep m seen w f = 40 := by
  unfold wantStep; rw [if_neg h, if_neg (by rw [h2]; simp), if_neg h3, if_pos h4]
theorem wantStep_5 {m : List (Th × Int)} {seen : List (Th × Bool)} {w : Int} {f : Fact} (h : ¬ ver m (f.kind, f.n) < 0) (h2 : (AL.get seen (f.kind, f.n)).getD false = false) (h3 : ¬ f.version = ver m (f.kind, f.n)) (h4 : ¬ w = 0) : wantStep m seen w f = w := by
  unfold wantStep; rw [if_neg h, if_neg (by rw [h2]; simp), if_neg h3, if_neg h4]

theorem wantF_one (m : List (Th × Int)) (xs : List Fact) : ∀ seen, wantF m xs seen 1 = 1 := by
  induction xs with
  | nil => intro seen; rfl
  | cons f fs ih =>
    intro seen
    simp only [wantF]
    have : wantStep m seen 1 f = 1 := by
      unfold wantStep
      split
      · rfl
      · split
        · rfl
        · split <;> rfl
    rw [this]
    exact ih _

theorem ver_pos {m : List (Th × Int)} {k : Th} (h : ¬ ver m k < 0) : (AL.get m k).getD 0 = ver m k := by
  unfold ver at h ⊢
  cases e : AL.get m k with
  | none => rw [e] at h; simp at h
  | some v => rfl

theorem wantF_eq (m : List (Th × Int)) (xs : List Fact) : ∀ seen w, (w = 0 ∨ w = 40) → wantF m xs seen w = if chk m xs seen = false then 1 else if w = 40 then 40 else if cur m xs = false then 40 else 0 := by
  induction xs with
  | nil =>
    intro seen w hw
    simp only [wantF, chk, cur, List.any_nil]
    rcases hw with rfl | rfl <;> simp
  | cons f fs ih =>
    intro seen w hw
    simp only [wantF]
    by_cases h1 : ver m (f.kind, f.n) < 0
    · have hc : chk m (f :: fs) seen = false := by simp [chk, h1]
      rw [wantStep_1 h1, wantF_one, if_pos hc]
    · by_cases h2 : (AL.get seen (f.kind, f.n)).getD false = true
      · have hc : chk m (f :: fs) seen = false := by simp [chk, h1, h2]
        rw [wantStep_2 h1 h2, wantF_one, if_pos hc]
      · have h2' : (AL.get seen (f.kind, f.n)).getD false = false := by simpa using h2
        have hk : chk m (f :: fs) seen = chk m fs (AL.set seen (f.kind, f.n) true) := by simp [chk, h1, h2']
        have hc : cur m (f :: fs) = (decide (f.version = ver m (f.kind, f.n)) && cur m fs) := by
          simp only [cur, List.any_cons, stale, ver_pos h1, Bool.not_or]
          congr 1
          by_cases e : f.version = ver m (f.kind, f.n)
          · simp [e]
          · have e' : ver m (f.kind, f.n) ≠ f.version := fun x => e x.symm
            simp [e, e']
        simp only [hk, hc]
        by_cases h3 : f.version = ver m (f.kind, f.n)
        · rw [wantStep_3 h1 h2' h3, ih _ _ hw]
          simp [h3]
        · rcases hw with rfl | rfl
          · rw [wantStep_4 h1 h2' h3 rfl, ih _ _ (.inr rfl)]
            simp [h3]
          · rw [wantStep_5 h1 h2' h3 (by decide), ih _ _ (.inr rfl)]
            simp

/-- What AssumeErrors wants at the end. -/
def want2 (k w : Int) : Int := if k = 5 ∧ (if k < 0 then 1 else w) ≠ 1 then 41 else if k < 0 then 1 else w

theorem RS.addE_want {s : RS} (h : s.mods = [(5, [])]) (k : Int) (xs : List Fact) {w : Int} (hw : w = wantF s.vers xs [] 0) : s.addE k xs = want2 k w := by
  subst hw
  rw [wantF_eq _ _ _ _ (.inl rfl)]
  unfold RS.addE want2
  by_cases h0 : k < 0
  · simp only [h0, if_true]
    rw [if_neg (by omega)]
  · simp only [h0, if_false]
    by_cases h1 : chk s.vers xs [] = false
    · simp [h1]
    · simp only [h1, if_false]
      rw [h]
      by_cases h5 : k = 5
      · subst h5
        by_cases h6 : cur s.vers xs = false <;> simp [AL.get, h6]
      · have h5' : ¬ (5 : Int) = k := fun e => h5 e.symm
        simp [AL.get, h5, h5']

theorem RS.five {s : RS} (h : s.mods = [(5, [])]) (k : Int) (xs : List Fact) : holds (s.add k xs).vers (s.add k xs).mods 5 = true := by
  have hv : (s.add k xs).vers = s.vers := by unfold RS.add; split <;> rfl
  rw [hv]
  have hg : AL.get (s.add k xs).mods 5 = some [] := by
    unfold RS.add
    split
    · rename_i e
      have h5 : k ≠ 5 := by
        rintro rfl
        rw [RS.addE_want h 5 xs rfl] at e
        unfold want2 at e
        split at e
        · omega
        · rename_i e2
          simp at e2 e
          omega
      simp only [AL.get_set, h5, if_false]
      rw [h]; rfl
    · rw [h]; rfl
  simp [holds, hg, cur]

theorem RS.holds_add {s : RS} (h : s.mods = [(5, [])]) (k : Int) (xs : List Fact) {w : Int} (hw : s.addE k xs = w) : holds (s.add k xs).vers (s.add k xs).mods k = (decide (w = 0) || decide (k = 5)) := by
  by_cases h5 : k = 5
  · subst h5
    rw [RS.five h]
    simp
  · by_cases h0 : w = 0
    · subst h0
      rw [RS.add_ok hw]
      have hc : cur s.vers xs = true := by
        unfold RS.addE at hw
        split at hw
        · cases hw
        · split at hw
          · cases hw
          · split at hw
            · cases hw
            · split at hw
              · cases hw
              · rename_i h; simpa using h
      simp [holds, AL.get_set, hc]
    · rw [RS.add_same hw h0]
      have h5' : ¬ (5 : Int) = k := fun e => h5 e.symm
      simp [holds, h, AL.get, h5, h5', h0]

theorem AL.set_len {κ β : Type} [DecidableEq κ] (m : List (κ × β)) (k : κ) (v : β) : (AL.set m k v).length ≤ m.length + 1 := by
  induction m with
  | nil => simp [AL.set]
  | cons p m ih =>
    obtain ⟨a, b⟩ := p
    simp only [AL.set]
    split <;> simp only [List.length_cons] <;> omega
theorem RS.two {s : RS} (h : s.mods = [(5, [])]) (k : Int) (xs : List Fact) : (s.add k xs).mods.length ≤ 2 := by
  unfold RS.add
  split
  · simp only
    rw [h]
    exact AL.set_len _ _ _
  · rw [h]; simp

def e0 : RS := RS.new 3 2
def e1 : RS := e0.add 5 []
theorem e0_add : e0.addE 5 [] = 0 := by decide
theorem e1_mods : e1.mods = [(5, [])] := by
  unfold e1
  rw [RS.add_ok e0_add]
  rfl
theorem RS.bump_mods (s : RS) (kind n : Int) : (s.bump kind n).mods = s.mods := by
  unfold RS.bump
  split <;> rfl
end Go.Fx.Ytlfabjfajcbdcaa
