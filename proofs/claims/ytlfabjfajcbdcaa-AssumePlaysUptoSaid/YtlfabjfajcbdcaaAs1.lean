/-
  Chapter 27 (assume): facts as plain data, and how they lie in memory.
-/
import Derived.Test.YtlfabjfajcbdcaaProg
import Derived.Test.YtlfabjfajcbdcaaFx13
set_option linter.unusedSimpArgs false
set_option linter.unusedVariables false
namespace Go.Fx.Ytlfabjfajcbdcaa
open Go Go.Fx Go.Proofs
set_option maxRecDepth 10000

structure Fact where
  kind : Int
  n : Int
  version : Int
deriving DecidableEq

abbrev Th := Int × Int
def Fact.th (f : Fact) : Th := (f.kind, f.n)

def tyFact : Ty Fact := (Ty.int.pair (Ty.int.pair Ty.int)).via (fun f => (f.kind, f.n, f.version))
theorem tyFact_open {R : Hp} {x : Fact} {c : List Value} (h : tyFact.rel R x c) : c = [.int .i64 x.kind, .int .i64 x.n, .int .i64 x.version] := by
  obtain ⟨c1, c2, rfl, rfl, c3, c4, rfl, rfl, rfl⟩ := h
  rfl
theorem tyFact_mk (R : Hp) (a b c : Int) : tyFact.rel R ⟨a, b, c⟩ [.int .i64 a, .int .i64 b, .int .i64 c] := ⟨[_], [_, _], rfl, rfl, [_], [_], rfl, rfl, rfl⟩
def encFact (x : Fact) : Value := .agg #[.int .i64 x.kind, .int .i64 x.n, .int .i64 x.version]

theorem Encs.refact {R R' : Hp} {xs : List Fact} {cs : List Value} (h : Encs tyFact R xs cs) : Encs tyFact R' xs cs := by
  induction h with
  | nil => exact .nil
  | cons hx _ ih => exact .cons hx ih

def kk (p : Th) : Value := .agg #[.int .i64 p.1, .int .i64 p.2]
theorem kk_law {β : Type} {kT : TypeId} {P : Program} {d : TypeDesc} (hu : P.underlying kT = some d) (hd : ∀ a b, Instr.sameNow d (kk a) (kk b) = none)
    (hc : ∀ b x y w, (Instr.checkKey b 10000 kT (.agg #[.int .i64 x, .int .i64 y])).run P w = .ok () w)
    (he : ∀ x y x' y' w, (Op.equal kT (.agg #[.int .i64 x, .int .i64 y]) (.agg #[.int .i64 x', .int .i64 y'])).run P w = .ok (x == x' && y == y') w) : KeyLaw (β := β) P kT kk :=
  KeyLaw.ofEq hu hd (fun b k w => hc b k.1 k.2 w) (fun a b w => by
    obtain ⟨x, y⟩ := a
    obtain ⟨x', y'⟩ := b
    have := he x y x' y' w
    simp only [kk]
    rw [this]
    congr 1
    by_cases h1 : x = x' <;> by_cases h2 : y = y' <;> simp [h1, h2]) (fun k => by simp [kk, Instr.sameBits])

theorem law74 {β : Type} : KeyLaw (β := β) Try.prog 74 kk := by
  have hS : Try.prog.underlying 74 = some (.struct (Try.prog.fieldsOf 74)) := by kernel_rfl
  have hp : Try.prog.stoodInHeld 74 = false := by kernel_rfl
  refine kk_law hS (fun a b => rfl) (fun b x y w => by kernel_rfl) fun x y x' y' w => ?_
  have h3 := Try.isAgg3
  have u3 := Try.underlying3
  unfold Op.equal Op.maxDepth
  rw [show (10000 : Nat) = 9999 + 1 from rfl, run_equalIn_agg w 9999 74 _ _ hS hp]
  have e : Try.prog.fieldsOf 74 = (match Try.prog.underlying 74 with | some (.struct fs) => fs | _ => #[]) := by kernel_rfl
  rw [e, Try.underlying74]
  simp only [go_sem, h3]
  have hq : ∀ a b w, (Op.equalIn 9999 3 (.int .i64 a) (.int .i64 b)).run Try.prog w = .ok (a == b) w := fun a b w => run_equalIn_int w 9998 3 .i64 .i64 a b u3
  by_cases h1 : x = x' <;> by_cases h2 : y = y' <;> simp [h3, hq, h1, h2]

theorem law3 {β : Type} : KeyLaw (β := β) Try.prog 3 (Value.int .i64) := KeyLaw.int Try.underlying3

/-! ### The pure registry -/
def ver (m : List (Th × Int)) (k : Th) : Int := match AL.get m k with
  | some v => v
  | none => -1

theorem ver_some {m : List (Th × Int)} {k : Th} (h : (AL.get m k).isSome = true) : (AL.get m k).getD 0 = ver m k := by
  unfold ver
  cases e : AL.get m k with
  | none => rw [e] at h; cases h
  | some v => rfl
theorem ver_none {m : List (Th × Int)} {k : Th} (h : (AL.get m k).isSome = false) : -1 = ver m k := by
  unfold ver
  cases e : AL.get m k with
  | none => rfl
  | some v => rw [e] at h; cases h

/-- A fact that is no longer so. -/
def stale (m : List (Th × Int)) (f : Fact) : Bool := (AL.get m (f.kind, f.n)).getD 0 != f.version
def cur (m : List (Th × Int)) (xs : List Fact) : Bool := !xs.any (stale m)
def usesF (kind n : Int) (f : Fact) : Bool := f.kind == kind && f.n == n
def holds (m : List (Th × Int)) (mm : List (Int × List Fact)) (k : Int) : Bool := (AL.get mm k).isSome && cur m ((AL.get mm k).getD [])

theorem len_get {mm : List (Int × List Fact)} (h : ∀ k xs, AL.get mm k = some xs → xs.length ≤ 4611686018427387904) (k : Int) : ((AL.get mm k).getD []).length ≤ 4611686018427387904 := by
  cases e : AL.get mm k with
  | none => simp
  | some xs => exact h k xs e

/-- A list of facts that is only read. -/
def vS (R : Hp) : List Fact → Value → Prop := fun xs v => RdS tyFact R v xs
theorem vS.lift {R R' : Hp} {m : List (Int × List Fact)} {bo : Option Nat} {c : Hp} (h : MapC (Value.int .i64) (vS R) bo m c) (l : Le R R') : MapC (Value.int .i64) (vS R') bo m c := h.imp fun _ _ q => RdS.mono q l

/-- The first place at which p holds, or -1. -/
def idxF {α : Type} (p : α → Bool) (xs : List α) : Int := match xs.findIdx? p with
  | some i => (i : Int)
  | none => -1

theorem idxF_at {α : Type} {p : α → Bool} {xs : List α} {k : Nat} (hk : k < xs.length) (h : ∀ j (hj : j < xs.length), j < k → p xs[j] = false) (hp : p xs[k] = true) : idxF p xs = (k : Int) := by
  have : xs.findIdx? p = some k := by
    rw [List.findIdx?_eq_some_iff_getElem]
    exact ⟨hk, hp, fun j hj => by simpa using h j (by omega) hj⟩
  simp [idxF, this]
theorem idxF_none {α : Type} {p : α → Bool} {xs : List α} (h : ∀ j (hj : j < xs.length), p xs[j] = false) : idxF p xs = -1 := by
  have : xs.findIdx? p = none := by
    rw [List.findIdx?_eq_none_iff]
    intro x hx
    obtain ⟨j, hj, rfl⟩ := List.getElem_of_mem hx
    exact h j hj
  simp [idxF, this]
theorem all_step {α : Type} {p : α → Bool} {xs : List α} {k : Nat} {hk : k < xs.length} (h : ∀ j (hj : j < xs.length), j < k → p xs[j] = false) (hp : p xs[k] = false) : ∀ j (hj : j < xs.length), j < k + 1 → p xs[j] = false := by
  intro j hj hlt
  rcases Nat.lt_or_ge j k with h1 | h1
  · exact h j hj h1
  · obtain rfl : j = k := by omega
    exact hp
theorem idxF_ge {α : Type} (p : α → Bool) (xs : List α) : decide (idxF p xs ≥ 0) = xs.any p := by
  unfold idxF
  cases h : xs.findIdx? p with
  | none =>
    rw [List.findIdx?_eq_none_iff] at h
    simp only [Int.reduceNeg, ge_iff_le, Int.reduceLE, decide_false]
    symm
    rw [List.any_eq_false]
    intro x hx
    simp [h x hx]
  | some i =>
    rw [List.findIdx?_eq_some_iff_getElem] at h
    obtain ⟨hi, hp, _⟩ := h
    have : xs.any p = true := List.any_eq_true.2 ⟨xs[i], List.getElem_mem hi, hp⟩
    simp [this]

/-! ### A registry -/
structure RS where
  vers : List (Th × Int)
  mods : List (Int × List Fact)
  cnt : Nat

structure RS.Ok (s : RS) : Prop where
  mods : AL.Ok s.mods
  big : ∀ k xs, AL.get s.mods k = some xs → xs.length ≤ 1099511627776
  low : ∀ k v, AL.get s.vers k = some v → 1 ≤ v ∧ v ≤ s.cnt + 1

abbrev regBlk (p : Nat) (bv bm : Option Nat) : Hp := one p (.cells #[.map bv, .map bm] 60 (0, 0))

/-- The piece c is the registry at p. -/
def Reg (R : Hp) (p : Nat) (s : RS) (c : Hp) : Prop :=
  ∃ bv bm cV cM, c = tri (regBlk p bv bm) cV cM ∧ Dj (regBlk p bv bm) (uni cV cM) ∧ Dj cV cM ∧ MapC kk (vE (Value.int .i64)) bv s.vers cV ∧ MapC (Value.int .i64) (vS R) bm s.mods cM ∧ s.Ok ∧ (bm = none → s.vers = [])

theorem Reg.lift {R R' : Hp} {p : Nat} {s : RS} {c : Hp} (h : Reg R p s c) (l : Le R R') : Reg R' p s c := by
  obtain ⟨bv, bm, cV, cM, e, h1, h2, h3, h4, h5⟩ := h
  exact ⟨bv, bm, cV, cM, e, h1, h2, h3, vS.lift h4 l, h5⟩

theorem Reg.close {w w0 : World} {R0 R : Hp} {L0 Lr : List Hp} {p : Nat} {bv bm : Option Nat} {cV cM : Hp} {s : RS} (h : Step w0 R0 L0 w R (regBlk p bv bm :: cV :: cM :: Lr)) (hm : MapC kk (vE (Value.int .i64)) bv s.vers cV)
    (hM : MapC (Value.int .i64) (vS R) bm s.mods cM) (hok : s.Ok) (hbm : bm = none → s.vers = []) : ∃ c, Step w0 R0 L0 w R (c :: Lr) ∧ Reg R p s c := by
  obtain ⟨h1, h2, h3⟩ := h.join3
  exact ⟨_, h1, bv, bm, cV, cM, rfl, h2, h3, hm, hM, hok, hbm⟩

def RS.remove (s : RS) (k : Int) : RS := { s with mods := AL.del s.mods k }
theorem RS.Ok.remove {s : RS} (h : s.Ok) (k : Int) : (s.remove k).Ok :=
  ⟨h.mods.del k, fun j xs hj => by
    have := AL.get_del h.mods k j
    simp only [RS.remove] at hj
    rw [this] at hj
    split at hj
    · cases hj
    · exact h.big j xs hj, h.low⟩

/-- The facts are known, and none comes twice. -/
def chk (m : List (Th × Int)) : List Fact → List (Th × Bool) → Bool
  | [], _ => true
  | f :: fs, seen => if ver m (f.kind, f.n) < 0 then false else if (AL.get seen (f.kind, f.n)).getD false = true then false else chk m fs (AL.set seen (f.kind, f.n) true)

def RS.addE (s : RS) (k : Int) (xs : List Fact) : Int :=
  if k < 0 then 1 else if chk s.vers xs [] = false then 1 else if (AL.get s.mods k).isSome = true then 41 else if cur s.vers xs = false then 40 else 0
def RS.add (s : RS) (k : Int) (xs : List Fact) : RS := if s.addE k xs = 0 then { s with mods := AL.set s.mods k xs } else s
theorem RS.Ok.set {s : RS} (h : s.Ok) (k : Int) {xs : List Fact} (hx : xs.length ≤ 1099511627776) : RS.Ok { s with mods := AL.set s.mods k xs } :=
  ⟨h.mods.set k xs, fun j ys hj => by
    simp only at hj
    rw [AL.get_set] at hj
    split at hj
    · cases hj; exact hx
    · exact h.big j ys hj, h.low⟩

theorem chk_step {m : List (Th × Int)} {xs : List Fact} {k : Nat} {seen : List (Th × Bool)} {q : Bool} (hk : k < xs.length) (h : chk m (xs.drop k) seen = q) (h1 : ¬ ver m ((xs[k]'hk).kind, (xs[k]'hk).n) < 0)
    (h2 : (AL.get seen ((xs[k]'hk).kind, (xs[k]'hk).n)).getD false = false) : chk m (xs.drop (k + 1)) (AL.set seen ((xs[k]'hk).kind, (xs[k]'hk).n) true) = q := by
  rw [List.drop_eq_getElem_cons hk] at h
  simp only [chk] at h
  rw [if_neg h1, if_neg (by rw [h2]; simp)] at h
  exact h
theorem chk_bad1 {m : List (Th × Int)} {xs : List Fact} {k : Nat} {seen : List (Th × Bool)} {q : Bool} (hk : k < xs.length) (h : chk m (xs.drop k) seen = q) (h1 : ver m ((xs[k]'hk).kind, (xs[k]'hk).n) < 0) : q = false := by
  rw [List.drop_eq_getElem_cons hk] at h
  simp only [chk] at h
  rw [if_pos h1] at h
  exact h.symm
theorem chk_bad2 {m : List (Th × Int)} {xs : List Fact} {k : Nat} {seen : List (Th × Bool)} {q : Bool} (hk : k < xs.length) (h : chk m (xs.drop k) seen = q) (h1 : ¬ ver m ((xs[k]'hk).kind, (xs[k]'hk).n) < 0)
    (h2 : (AL.get seen ((xs[k]'hk).kind, (xs[k]'hk).n)).getD false = true) : q = false := by
  rw [List.drop_eq_getElem_cons hk] at h
  simp only [chk] at h
  rw [if_neg h1, if_pos h2] at h
  exact h.symm
theorem chk_end {m : List (Th × Int)} {xs : List Fact} {k : Nat} {seen : List (Th × Bool)} {q : Bool} (hk : xs.length ≤ k) (h : chk m (xs.drop k) seen = q) : q = true := by
  rw [List.drop_eq_nil_of_le hk] at h
  exact h.symm
theorem RS.add_same {s : RS} {k : Int} {xs : List Fact} {e : Int} (h : s.addE k xs = e) (he : e ≠ 0) : s.add k xs = s := by
  unfold RS.add
  rw [if_neg (by rw [h]; exact he)]
theorem RS.addE_neg {s : RS} {k : Int} {xs : List Fact} (h : k < 0) : s.addE k xs = 1 := by unfold RS.addE; rw [if_pos h]
theorem RS.addE_bad {s : RS} {k : Int} {xs : List Fact} (h : chk s.vers xs [] = false) : s.addE k xs = 1 := by
  unfold RS.addE
  rw [if_pos h]
  split <;> rfl
theorem RS.addE_busy {s : RS} {k : Int} {xs : List Fact} (h0 : ¬ k < 0) (h : chk s.vers xs [] = true) (h1 : (AL.get s.mods k).isSome = true) : s.addE k xs = 41 := by
  unfold RS.addE
  rw [if_neg h0, if_neg (by rw [h]; simp), if_pos h1]
theorem RS.addE_stale {s : RS} {k : Int} {xs : List Fact} (h0 : ¬ k < 0) (h : chk s.vers xs [] = true) (h1 : (AL.get s.mods k).isSome = false) (h2 : cur s.vers xs = false) : s.addE k xs = 40 := by
  unfold RS.addE
  rw [if_neg h0, if_neg (by rw [h]; simp), if_neg (by rw [h1]; simp), if_pos h2]
theorem RS.addE_ok {s : RS} {k : Int} {xs : List Fact} (h0 : ¬ k < 0) (h : chk s.vers xs [] = true) (h1 : (AL.get s.mods k).isSome = false) (h2 : cur s.vers xs = true) : s.addE k xs = 0 := by
  unfold RS.addE
  rw [if_neg h0, if_neg (by rw [h]; simp), if_neg (by rw [h1]; simp), if_neg (by rw [h2]; simp)]
theorem RS.add_ok {s : RS} {k : Int} {xs : List Fact} (h : s.addE k xs = 0) : s.add k xs = { s with mods := AL.set s.mods k xs } := by
  unfold RS.add
  rw [if_pos h]

def RS.modules (s : RS) : List Int := (AL.keys s.mods).mergeSort fun a b => decide (a ≤ b)
def RS.bumpL (s : RS) (kind n : Int) : List Int :=
  if ver s.vers (kind, n) < 0 then [] else s.modules.filter fun k => ((AL.get s.mods k).getD []).any (usesF kind n) && holds s.vers s.mods k
def RS.bump (s : RS) (kind n : Int) : RS :=
  if ver s.vers (kind, n) < 0 then s else { s with vers := AL.set s.vers (kind, n) ((AL.get s.vers (kind, n)).getD 0 + 1), cnt := s.cnt + 1 }
theorem RS.Ok.bump {s : RS} (h : s.Ok) (kind n : Int) : (s.bump kind n).Ok := by
  unfold RS.bump
  split
  · exact h
  · rename_i hv
    refine ⟨h.mods, h.big, fun k v hk => ?_⟩
    simp only at hk ⊢
    rw [AL.get_set] at hk
    split at hk
    · cases hk
      unfold ver at hv
      cases e : AL.get s.vers (kind, n) with
      | none => rw [e] at hv; simp at hv
      | some u => have := h.low _ u e; simp only [Option.getD_some]; omega
    · have := h.low _ v hk; omega

def vF : Nat → List (Th × Int)
  | 0 => []
  | n + 1 => AL.set (vF n) (1, (n : Int)) 1
def vC (f : Nat) : Nat → List (Th × Int)
  | 0 => vF f
  | n + 1 => AL.set (vC f n) (2, (n : Int)) 1
def RS.new (f c : Nat) : RS := ⟨vC f c, [], 0⟩

theorem low_set {m : List (Th × Int)} (h : ∀ k v, AL.get m k = some v → v = 1) (j : Th) : ∀ k v, AL.get (AL.set m j 1) k = some v → v = 1 := by
  intro k v hk
  rw [AL.get_set] at hk
  split at hk
  · cases hk; rfl
  · exact h k v hk
theorem vC_one (f c : Nat) : ∀ k v, AL.get (vC f c) k = some v → v = 1 := by
  have h0 : ∀ f k v, AL.get (vF f) k = some v → v = 1 := by
    intro f
    induction f with
    | zero => intro k v h; simp [vF, AL.get] at h
    | succ n ih => exact low_set ih _
  induction c with
  | zero => exact h0 f
  | succ n ih => exact low_set ih _
theorem RS.Ok.new (f c : Nat) : (RS.new f c).Ok :=
  ⟨AL.Ok.nil, fun k xs h => by simp [RS.new, AL.get] at h, fun k v h => by have := vC_one f c k v h; simp only [RS.new]; omega⟩

end Go.Fx.Ytlfabjfajcbdcaa
