/-
  Chapter 14 (profile): plain data, and how they lie in memory.
-/
import Derived.Test.YtdkjoljcffkpkaaDoorProg
import Derived.Test.YtdkjoljcffkpkaaDoorFx19
import Derived.Lib.Join
import Derived.Lib.ItoaLen
set_option linter.unusedSimpArgs false
set_option linter.unusedVariables false
set_option linter.unusedSectionVars false
namespace Go.Fx.YtdkjoljcffkpkaaDoor
open Go Go.Fx Go.Proofs
set_option maxRecDepth 20000

abbrev Pl := Int × Int
structure Rec where
  tier : Int
  calls : Int
  count : Int
  failures : Int
  exits : List (Int × Int)
def rec0 : Rec := ⟨0, 0, 0, 0, []⟩

inductive Wd where
  | i (n : Int)
  | s (t : ByteArray)
def Wd.txt : Wd → ByteArray
  | .i n => ⟨(Lib.itoa n).toArray⟩
  | .s t => t
/-- Words and numbers, joined by spaces. -/
def joinW (l : List Wd) : ByteArray := ⟨(Lib.join (l.map fun w => w.txt.data.toList) [32]).toArray⟩

structure Dec where
  pl : Pl
  tier : Int
  reason : ByteArray
def tyDec : Ty Dec := (Ty.int.pair (Ty.int.pair (Ty.int.pair Ty.str))).via (fun d => (d.pl.1, d.pl.2, d.tier, d.reason))
theorem tyDec_open {R : Hp} {x : Dec} {c : List Value} (h : tyDec.rel R x c) : c = [.int .i64 x.pl.1, .int .i64 x.pl.2, .int .i64 x.tier, .string x.reason] := by
  obtain ⟨c1, c2, rfl, e1, c3, c4, rfl, e3, c5, c6, rfl, e5, e6⟩ := h
  have h1 : c1 = [_] := e1
  have h3 : c3 = [_] := e3
  have h5 : c5 = [_] := e5
  have h6 : c6 = [_] := e6
  subst h1; subst h3; subst h5; subst h6
  rfl
theorem tyDec_mk (R : Hp) (a b t : Int) (s : ByteArray) : tyDec.rel R ⟨(a, b), t, s⟩ [.int .i64 a, .int .i64 b, .int .i64 t, .string s] := ⟨[_], [_, _, _], rfl, rfl, [_], [_, _], rfl, rfl, [_], [_], rfl, rfl, rfl⟩

/-- Words as they are handed on: values of interfaces. -/
def Wd.val : Wd → Value
  | .i n => .iface 3 (.int .i64 n)
  | .s t => .iface 9 (.string t)
def tyWd : Ty Wd where
  sz := 1
  rel _ x cs := cs = [x.val]
  mono _ h := h
  len h := by subst h; rfl
  ones h := by subst h; rename_i x; cases x <;> rfl
def tyPl : Ty Pl := Ty.int.pair Ty.int

def kk (p : Pl) : Value := .agg #[.int .i64 p.1, .int .i64 p.2]
def vP : Option Nat → Value
  | none => .pointer none
  | some a => ptr a 0

/-- The record r lies at a. -/
def RecIs (a : Nat) (r : Rec) (c : Hp) : Prop :=
  ∃ be cE, c = uni (one a (.cells #[.int .i64 r.tier, .int .i64 r.calls, .int .i64 r.count, .int .i64 r.failures, .map (some be)] 93 (0, 0))) cE ∧
    Dj (one a (.cells #[.int .i64 r.tier, .int .i64 r.calls, .int .i64 r.count, .int .i64 r.failures, .map (some be)] 93 (0, 0))) cE ∧ MapC (Value.int .i64) (vE (Value.int .i64)) (some be) r.exits cE

/-- The records that the pointers of a map lead to. -/
inductive Recs : List (Pl × Option Nat) → List (Pl × Rec) → Hp → Prop
  | nil : Recs [] [] non
  | cons {k a r m rs c1 c2} : RecIs a r c1 → Recs m rs c2 → Dj c1 c2 → Recs ((k, some a) :: m) ((k, r) :: rs) (uni c1 c2)

theorem uni_comm {A B : Hp} (h : Dj A B) : uni A B = uni B A := by
  funext b
  simp only [uni]
  rcases h b with e | e
  · rw [e]; cases B b <;> rfl
  · rw [e]; cases A b <;> rfl
theorem uni_assoc (A B C : Hp) : uni (uni A B) C = uni A (uni B C) := by
  funext b
  simp only [uni]
  cases A b <;> rfl
theorem uni_non (A : Hp) : uni A non = A := by
  funext b
  simp only [uni, non]
  cases A b <;> rfl
theorem non_uni (A : Hp) : uni non A = A := by
  funext b
  simp only [uni, non]
  cases A b <;> rfl
theorem Dj.non_r (A : Hp) : Dj A non := fun b => .inr rfl
theorem Dj.uni_r {A B C : Hp} (h : Dj A B) (k : Dj A C) : Dj A (uni B C) := (Dj.uni_left h.symm k.symm).symm

/-- A key is known to none, or its record may be taken out and laid back. -/
theorem Recs.look {m : List (Pl × Option Nat)} {rs : List (Pl × Rec)} {c : Hp} (h : Recs m rs c) (k : Pl) :
    (AL.get m k = none ∧ AL.get rs k = none) ∨
    ∃ a r c1 c2, AL.get m k = some (some a) ∧ AL.get rs k = some r ∧ RecIs a r c1 ∧ c = uni c1 c2 ∧ Dj c1 c2 ∧
      ∀ r' c1', RecIs a r' c1' → Dj c1' c2 → Recs m (AL.set rs k r') (uni c1' c2) := by
  induction h with
  | nil => exact .inl ⟨rfl, rfl⟩
  | @cons j a r m rs c1 c2 hr hm hd ih =>
    by_cases e : j = k
    · subst e
      refine .inr ⟨a, r, c1, c2, by simp [AL.get], by simp [AL.get], hr, rfl, hd, fun r' c1' h1 h2 => ?_⟩
      simp only [AL.set, if_true]
      exact .cons h1 hm h2
    · rcases ih with ⟨h1, h2⟩ | ⟨a', r', c3, c4, h1, h2, h3, rfl, h5, h6⟩
      · exact .inl ⟨by simp [AL.get, e, h1], by simp [AL.get, e, h2]⟩
      · have hd2 : Dj c1 c3 ∧ Dj c1 c4 := by
          have := Dj.of_uni_left hd.symm
          exact ⟨this.1.symm, this.2.symm⟩
        refine .inr ⟨a', r', c3, uni c1 c4, by simp [AL.get, e, h1], by simp [AL.get, e, h2], h3, ?_, ?_, fun r'' c1' k1 k2 => ?_⟩
        · rw [← uni_assoc, uni_comm hd2.1, uni_assoc]
        · exact Dj.uni_r hd2.1.symm h5
        · have k3 := (Dj.of_uni_left k2.symm)
          have k4 : Dj c1 (uni c1' c4) := Dj.uni_r k3.1 hd2.2
          simp only [AL.set, e, if_false]
          have := Recs.cons (k := j) hr (h6 r'' c1' k1 k3.2.symm) k4
          rw [← uni_assoc, uni_comm k3.1, uni_assoc] at this
          exact this
theorem Recs.add {m : List (Pl × Option Nat)} {rs : List (Pl × Rec)} {c : Hp} (h : Recs m rs c) {k : Pl} (hk : AL.get m k = none) {a : Nat} {r : Rec} {c1 : Hp} (hr : RecIs a r c1) (hd : Dj c1 c) :
    Recs (AL.set m k (some a)) (AL.set rs k r) (uni c1 c) := by
  induction h with
  | nil =>
    have := Recs.cons (k := k) hr .nil hd
    exact this
  | @cons j a' r' m rs c2 c3 h1 h2 h3 ih =>
    have e : j ≠ k := by
      rintro rfl
      simp [AL.get] at hk
    have hk' : AL.get m k = none := by simpa [AL.get, e] using hk
    have hd2 : Dj c1 c2 ∧ Dj c1 c3 := by
      have := Dj.of_uni_left hd.symm
      exact ⟨this.1.symm, this.2.symm⟩
    have := Recs.cons (k := j) h1 (ih hk' hd2.2) (Dj.uni_r hd2.1.symm h3)
    rw [← uni_assoc, uni_comm hd2.1.symm, uni_assoc] at this
    simp only [AL.set, e, if_false]
    exact this
theorem Recs.keys {m : List (Pl × Option Nat)} {rs : List (Pl × Rec)} {c : Hp} (h : Recs m rs c) : AL.keys m = AL.keys rs := by
  induction h with
  | nil => rfl
  | cons _ _ _ ih => simp only [AL.keys, List.map_cons] at ih ⊢; rw [ih]

/-! ### The profile -/
structure PS where
  sample : Int
  warm : Int
  hot : Int
  cold : Int
  recs : List (Pl × Rec)
  decs : List Dec
  n : Nat

structure Rec.Ok (n : Nat) (r : Rec) : Prop where
  tier : -1 ≤ r.tier ∧ r.tier ≤ 2
  calls : 0 ≤ r.calls ∧ r.calls ≤ n
  count : 0 ≤ r.count ∧ r.count ≤ 1000000
  failures : 0 ≤ r.failures ∧ r.failures ≤ n
  exits : ∀ k v, AL.get r.exits k = some v → 0 ≤ v ∧ v ≤ n
theorem Rec.Ok.mono {m n : Nat} {r : Rec} (h : r.Ok m) (l : m ≤ n) : r.Ok n :=
  ⟨h.tier, ⟨h.calls.1, by have := h.calls.2; omega⟩, h.count, ⟨h.failures.1, by have := h.failures.2; omega⟩, fun k v e => by have := h.exits k v e; omega⟩
structure PS.Ok (s : PS) : Prop where
  sample : 1 ≤ s.sample ∧ s.sample ≤ 1000
  warm : 1 ≤ s.warm ∧ s.warm ≤ 1000000
  hot : s.warm + 1 ≤ s.hot ∧ s.hot ≤ 1000000
  cold : 1 ≤ s.cold ∧ s.cold ≤ 1000000
  keys : AL.Ok s.recs
  recs : ∀ k r, AL.get s.recs k = some r → r.Ok s.n
  decs : s.decs.length ≤ s.n
  short : ∀ d ∈ s.decs, d.reason.size ≤ 1000

abbrev profB (p : Nat) (s : PS) (bm : Nat) (v : Value) : Hp := one p (.cells #[.int .i64 s.sample, .int .i64 s.warm, .int .i64 s.hot, .int .i64 s.cold, .map (some bm), v] 67 (0, 0))

/-- The piece c is the profile at p. -/
def Prof (R : Hp) (p : Nat) (s : PS) (c : Hp) : Prop :=
  ∃ bm m v cM cR cD, c = uni (profB p s bm v) (tri cM cR cD) ∧ Dj (profB p s bm v) (tri cM cR cD) ∧ Dj cM (uni cR cD) ∧ Dj cR cD ∧
    MapC kk (vE vP) (some bm) m cM ∧ Recs m s.recs cR ∧ OwnL tyDec 49 R v s.decs cD ∧ s.Ok

theorem Encs.redec {R R' : Hp} {xs : List Dec} {cs : List Value} (h : Encs tyDec R xs cs) : Encs tyDec R' xs cs := by
  induction h with
  | nil => exact .nil
  | cons hx _ ih => exact .cons hx ih
theorem _root_.Go.Fx.OwnL.redec {R R' : Hp} {T : Nat} {v : Value} {xs : List Dec} {c : Hp} (h : OwnL tyDec T R v xs c) : OwnL tyDec T R' v xs c := by
  obtain ⟨cells, h1, h2⟩ := h
  exact ⟨cells, h1, Encs.redec h2⟩
section
variable {w w0 : World} {R0 R : Hp} {L0 Lr : List Hp} {p bm : Nat} {s : PS} {m : List (Pl × Option Nat)} {v : Value} {cM cR cD : Hp}
theorem Prof.close (h : Step w0 R0 L0 w R (profB p s bm v :: cM :: cR :: cD :: Lr)) (hM : MapC kk (vE vP) (some bm) m cM) (hR : Recs m s.recs cR) (hD : OwnL tyDec 49 R v s.decs cD) (hok : s.Ok) :
    ∃ c, Step w0 R0 L0 w R (c :: Lr) ∧ Prof R p s c := by
  obtain ⟨h1, d1, d2⟩ := (((h.front 3 rfl rfl).front 3 rfl rfl).front 3 rfl rfl).join3
  have h2 := h1.front 1 rfl rfl
  have d3 := (List.pairwise_cons.1 h2.sats.dj).1 _ (List.mem_cons_self ..)
  exact ⟨_, h2.join, bm, m, v, cM, cR, cD, rfl, d3, d1, d2, hM, hR, hD, hok⟩
theorem Prof.closeR {a be : Nat} {r : Rec} {cE c2 : Hp} (h : Step w0 R0 L0 w R (profB p s bm v :: cM :: one a (.cells #[.int .i64 r.tier, .int .i64 r.calls, .int .i64 r.count, .int .i64 r.failures, .map (some be)] 93 (0, 0)) :: cE :: c2 :: cD :: Lr))
    (hM : MapC kk (vE vP) (some bm) m cM) (hE : MapC (Value.int .i64) (vE (Value.int .i64)) (some be) r.exits cE) (hb : ∀ c1, RecIs a r c1 → Dj c1 c2 → Recs m s.recs (uni c1 c2)) (hD : OwnL tyDec 49 R v s.decs cD) (hok : s.Ok) :
    ∃ c, Step w0 R0 L0 w R (c :: Lr) ∧ Prof R p s c := by
  have h1 := (h.front 3 rfl rfl).front 3 rfl rfl
  have d1 := (List.pairwise_cons.1 h1.sats.dj).1 _ (List.mem_cons_self ..)
  have h2 := h1.join
  have h3 := (h2.front 3 rfl rfl).front 1 rfl rfl
  have d2 := (List.pairwise_cons.1 h3.sats.dj).1 _ (List.mem_cons_self ..)
  have hr := hb _ ⟨be, cE, rfl, d1, hE⟩ d2
  have h4 := h3.join
  exact Prof.close ((h4.front 2 rfl rfl).front 2 rfl rfl) hM hr hD hok
end
theorem Prof.lift {R R' : Hp} {p : Nat} {s : PS} {c : Hp} (h : Prof R p s c) (l : Le R R') : Prof R' p s c := by
  obtain ⟨bm, m, v, cM, cR, cD, e, h1, h2, h3, h4, h5, h6, h7⟩ := h
  exact ⟨bm, m, v, cM, cR, cD, e, h1, h2, h3, h4, h5, h6.mono l, h7⟩
end Go.Fx.YtdkjoljcffkpkaaDoor
