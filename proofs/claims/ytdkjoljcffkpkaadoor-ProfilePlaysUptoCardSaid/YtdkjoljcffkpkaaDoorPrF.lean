/-
  Chapter 14: calls by numbers, and the plain laws of ProfileSteps and ProfileApart.
-/
import Derived.Test.YtdkjoljcffkpkaaDoorPrL
set_option linter.unusedSimpArgs false
set_option linter.unusedVariables false
set_option linter.unusedSectionVars false
namespace Go.Fx.YtdkjoljcffkpkaaDoor
open Go Go.Fx Go.Proofs
set_option maxRecDepth 20000

theorem tmod_bd (a : Int) {m : Int} (hm : 0 < m) : -m < Int.tmod a m ∧ Int.tmod a m < m := by
  have h1 := Int.lt_tmod_of_pos a hm
  have h2 := Int.tmod_lt_of_pos a hm
  omega
theorem tmod_mod {a m : Int} (hm : 0 < m) : (Int.tmod a m < 0 → Int.tmod a m + m = a % m) ∧ (¬ Int.tmod a m < 0 → Int.tmod a m = a % m) := by
  have h1 := Int.tmod_eq_emod (a := a) (b := m)
  have h2 := Int.emod_nonneg a (show m ≠ 0 by omega)
  have h3 := Int.emod_lt_of_pos a hm
  have h4 := tmod_bd a hm
  have h5 : (m.natAbs : Int) = m := by omega
  by_cases h : 0 ≤ a ∨ m ∣ a
  · rw [if_pos h] at h1
    constructor <;> intro h6 <;> omega
  · rw [if_neg h, h5] at h1
    have : a % m ≠ 0 := fun e => h (.inr (Int.dvd_of_emod_eq_zero e))
    constructor <;> intro h6 <;> omega

structure Act where
  what : Int
  a : Int
  n : Int
def tyAct : Ty Act := (Ty.int.pair (Ty.int.pair Ty.int)).via (fun x => (x.what, x.a, x.n))
theorem tyAct_open {R : Hp} {x : Act} {c : List Value} (h : tyAct.rel R x c) : c = [.int .i64 x.what, .int .i64 x.a, .int .i64 x.n] := by
  obtain ⟨c1, c2, rfl, e1, c3, c4, rfl, e3, e4⟩ := h
  have h1 : c1 = [_] := e1
  have h3 : c3 = [_] := e3
  have h4 : c4 = [_] := e4
  subst h1; subst h3; subst h4
  rfl
structure Act.Ok (x : Act) : Prop where
  what : I64 x.what
  a : I64 x.a
  n : I64 x.n
def actV (x : Act) : Value := .agg #[.int .i64 x.what, .int .i64 x.a, .int .i64 x.n]
def Act.pl (x : Act) : Pl := (x.a % 2, x.a % 3)
def Act.exit (x : Act) : Int := x.n % 4 - 1
def Act.err (x : Act) : Int := if x.n % 3 = 0 then 0 else if x.n % 3 = 1 then 30 else 2
def Act.times (x : Act) : Nat := 1 + (x.n % 9).toNat
theorem Act.times_le (x : Act) : x.times ≤ 9 := by
  have := Int.emod_nonneg x.n (show (9 : Int) ≠ 0 by decide)
  have := Int.emod_lt_of_pos x.n (show (0 : Int) < 9 by decide)
  unfold Act.times
  omega
theorem Act.err0 {x : Act} (h : x.n % 3 = 0) : x.err = 0 := by unfold Act.err; rw [if_pos h]
theorem Act.err1 {x : Act} (h : x.n % 3 = 1) : x.err = 30 := by unfold Act.err; rw [if_neg (by omega), if_pos h]
theorem Act.err2 {x : Act} (h : x.n % 3 = 2) : x.err = 2 := by unfold Act.err; rw [if_neg (by omega), if_neg (by omega)]
theorem Act.times_int (x : Act) : (x.times : Int) = 1 + x.n % 9 := by
  have := Int.emod_nonneg x.n (show (9 : Int) ≠ 0 by decide)
  unfold Act.times
  omega

theorem Act.Ok.exit {x : Act} (h : x.Ok) : I64 x.exit := by
  have := Int.emod_nonneg x.n (show (4 : Int) ≠ 0 by decide)
  have := Int.emod_lt_of_pos x.n (show (0 : Int) < 4 by decide)
  unfold Act.exit
  constructor <;> omega
theorem Act.Ok.err {x : Act} (h : x.Ok) : I64 x.err := by
  unfold Act.err
  constructor <;> (split <;> (try split) <;> decide)
def madeP (a b c d : Int) : PS := ⟨1 + a % 3, 1 + b % 4, 1 + b % 4 + 1 + c % 5, 1 + d % 3, [], [], 0⟩

def bN (b : Bool) : Nat := if b then 1 else 0
def PS.backs (s : PS) (k : Pl) : Nat → PS × Nat
  | 0 => (s, 0)
  | t + 1 => (((s.backs k t).1.back k).1, (s.backs k t).2 + bN ((s.backs k t).1.back k).2)
def PS.act (s : PS) (x : Act) : PS × Nat :=
  if x.what % 6 = 4 then ((s.left x.pl x.exit).1, bN (s.left x.pl x.exit).2)
  else if x.what % 6 = 5 then (s.failed x.pl x.err, 0)
  else s.backs x.pl x.times
theorem act_4 {s : PS} {x : Act} (h : x.what % 6 = 4) : s.act x = ((s.left x.pl x.exit).1, bN (s.left x.pl x.exit).2) := by unfold PS.act; rw [if_pos h]
theorem act_5 {s : PS} {x : Act} (h : x.what % 6 = 5) : s.act x = (s.failed x.pl x.err, 0) := by unfold PS.act; rw [if_neg (by omega), if_pos h]
theorem act_b {s : PS} {x : Act} (h : x.what % 6 ≠ 4) (h2 : x.what % 6 ≠ 5) : s.act x = s.backs x.pl x.times := by unfold PS.act; rw [if_neg h, if_neg h2]

/-! ### What a call for a place leaves as it is -/
structure Oth (k : Pl) (s t : PS) : Prop where
  sample : t.sample = s.sample
  warm : t.warm = s.warm
  hot : t.hot = s.hot
  cold : t.cold = s.cold
  recs : ∀ j, j ≠ k → AL.get t.recs j = AL.get s.recs j
  decs : ∃ l, t.decs = s.decs ++ l ∧ ∀ d ∈ l, d.pl = k
theorem Oth.refl (k : Pl) (s : PS) : Oth k s s := ⟨rfl, rfl, rfl, rfl, fun _ _ => rfl, [], by simp, by simp⟩
theorem Oth.trans {k : Pl} {s t u : PS} (h : Oth k s t) (g : Oth k t u) : Oth k s u := by
  obtain ⟨l, e, hl⟩ := h.decs
  obtain ⟨m, f, hm⟩ := g.decs
  refine ⟨g.sample.trans h.sample, g.warm.trans h.warm, g.hot.trans h.hot, g.cold.trans h.cold, fun j hj => (g.recs j hj).trans (h.recs j hj), l ++ m, by rw [f, e, List.append_assoc], ?_⟩
  intro d hd
  rcases List.mem_append.1 hd with hd | hd
  · exact hl d hd
  · exact hm d hd
theorem Oth.put (k : Pl) (s : PS) (r : Rec) : Oth k s (s.put k r) :=
  ⟨rfl, rfl, rfl, rfl, fun j hj => by simp only [PS.put, AL.get_set]; rw [if_neg (by first | exact hj | exact fun e => hj e.symm)], [], by simp [PS.put], by simp⟩
theorem Oth.decide (k : Pl) (s : PS) (r : Rec) (t : Int) (b : ByteArray) : Oth k s (s.decide k r t b) :=
  ⟨rfl, rfl, rfl, rfl, fun j hj => by simp only [PS.decide, AL.get_set]; rw [if_neg (by first | exact hj | exact fun e => hj e.symm)], [⟨k, t, b⟩], rfl, by simp⟩
theorem Oth.back (s : PS) (k : Pl) : Oth k s (s.back k).1 := by
  simp only [PS.back]
  split
  · exact .put ..
  · split
    · exact .put ..
    · split
      · exact .decide ..
      · split
        · exact .decide ..
        · exact .put ..
theorem Oth.setBack (s : PS) (k : Pl) (r : Rec) (t : Int) (l : List Wd) : Oth k s (s.setBack k r t l) := by
  simp only [PS.setBack]
  split <;> exact .decide ..
theorem Oth.left (s : PS) (k : Pl) (e : Int) : Oth k s (s.left k e).1 := by
  simp only [PS.left]
  split
  · exact .refl ..
  · split
    · exact .refl ..
    · split
      · exact .put ..
      · exact .setBack ..
theorem Oth.failed (s : PS) (k : Pl) (e : Int) : Oth k s (s.failed k e) := by
  simp only [PS.failed]
  split
  · exact .refl ..
  · split
    · exact .refl ..
    · exact .setBack ..
theorem Oth.backs (s : PS) (k : Pl) : ∀ t, Oth k s (s.backs k t).1
  | 0 => .refl ..
  | t + 1 => (Oth.backs s k t).trans (.back ..)
theorem Oth.act (s : PS) (x : Act) : Oth x.pl s (s.act x).1 := by
  unfold PS.act
  split
  · exact .left ..
  · split
    · exact .failed ..
    · exact .backs ..

/-! ### Steps -/
theorem n_put (s : PS) (k : Pl) (r : Rec) : (s.put k r).n = s.n + 1 := rfl
theorem n_decide (s : PS) (k : Pl) (r : Rec) (t : Int) (b : ByteArray) : (s.decide k r t b).n = s.n + 1 := rfl
theorem n_back (s : PS) (k : Pl) : (s.back k).1.n ≤ s.n + 1 := by
  simp only [PS.back]
  split
  · exact Nat.le_refl _
  · split
    · exact Nat.le_refl _
    · split
      · exact Nat.le_refl _
      · split <;> exact Nat.le_refl _
theorem n_setBack (s : PS) (k : Pl) (r : Rec) (t : Int) (l : List Wd) : (s.setBack k r t l).n ≤ s.n + 1 := by
  simp only [PS.setBack]
  split <;> exact Nat.le_refl _
theorem n_left (s : PS) (k : Pl) (e : Int) : (s.left k e).1.n ≤ s.n + 1 := by
  simp only [PS.left]
  split
  · exact Nat.le_succ _
  · split
    · exact Nat.le_succ _
    · split
      · exact Nat.le_refl _
      · exact n_setBack ..
theorem n_failed (s : PS) (k : Pl) (e : Int) : (s.failed k e).n ≤ s.n + 1 := by
  simp only [PS.failed]
  split
  · exact Nat.le_succ _
  · split
    · exact Nat.le_succ _
    · exact n_setBack ..
theorem n_backs (s : PS) (k : Pl) : ∀ t, (s.backs k t).1.n ≤ s.n + t
  | 0 => Nat.le_refl _
  | t + 1 => by have h := n_backs s k t; have h2 := n_back (s.backs k t).1 k; show ((s.backs k t).1.back k).1.n ≤ _; omega
theorem n_act (s : PS) (x : Act) : (s.act x).1.n ≤ s.n + 9 := by
  unfold PS.act
  split
  · have := n_left s x.pl x.exit; show (s.left x.pl x.exit).1.n ≤ _; omega
  · split
    · have := n_failed s x.pl x.err; show (s.failed x.pl x.err).n ≤ _; omega
    · have := n_backs s x.pl x.times; have := x.times_le; omega

/-! ### How many decisions there are -/
theorem len_back (s : PS) (k : Pl) : (s.back k).1.decs.length = s.decs.length + bN (s.back k).2 := by
  simp only [PS.back]
  split
  · rfl
  · split
    · rfl
    · split
      · simp [PS.decide, bN]
      · split
        · simp [PS.decide, bN]
        · rfl
theorem len_setBack (s : PS) (k : Pl) (r : Rec) (t : Int) (l : List Wd) : (s.setBack k r t l).decs.length = s.decs.length + 1 := by
  simp only [PS.setBack]
  split <;> simp [PS.decide]
theorem len_left (s : PS) (k : Pl) (e : Int) : (s.left k e).1.decs.length = s.decs.length + bN (s.left k e).2 := by
  simp only [PS.left]
  split
  · rfl
  · split
    · rfl
    · split
      · rfl
      · exact len_setBack ..
theorem len_failed (s : PS) (k : Pl) (e : Int) : s.decs.length ≤ (s.failed k e).decs.length ∧ (s.failed k e).decs.length ≤ s.decs.length + 1 := by
  simp only [PS.failed]
  split
  · omega
  · split
    · omega
    · rw [len_setBack]; omega
theorem len_backs (s : PS) (k : Pl) : ∀ t, (s.backs k t).1.decs.length = s.decs.length + (s.backs k t).2
  | 0 => rfl
  | t + 1 => by
    have h := len_backs s k t
    have h2 := len_back (s.backs k t).1 k
    show ((s.backs k t).1.back k).1.decs.length = s.decs.length + ((s.backs k t).2 + bN ((s.backs k t).1.back k).2)
    omega
theorem act_len (s : PS) (x : Act) : (x.what % 6 ≠ 5 → (s.act x).1.decs.length = s.decs.length + (s.act x).2) ∧ s.decs.length ≤ (s.act x).1.decs.length ∧ (x.what % 6 = 5 → (s.act x).1.decs.length ≤ s.decs.length + 1) := by
  by_cases h : x.what % 6 = 4
  · rw [act_4 h]
    have := len_left s x.pl x.exit
    refine ⟨fun _ => this, by rw [this]; omega, fun _ => by omega⟩
  · by_cases h5 : x.what % 6 = 5
    · rw [act_5 h5]
      have := len_failed s x.pl x.err
      exact ⟨fun e => absurd h5 e, this.1, fun _ => this.2⟩
    · rw [act_b h h5]
      have := len_backs s x.pl x.times
      exact ⟨fun _ => this, by rw [this]; omega, fun e => absurd e h5⟩
theorem Prof.decs_le {R : Hp} {p : Nat} {s : PS} {c : Hp} (h : Prof R p s c) : s.decs.length ≤ s.n := by
  obtain ⟨_, _, _, _, _, _, _, _, _, _, _, _, _, hok⟩ := h
  exact hok.decs
end Go.Fx.YtdkjoljcffkpkaaDoor
