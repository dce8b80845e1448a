/-
  Chapter 14 (profile): the pure profile.
-/
import Derived.Test.YtdkjoljcffkpkaaDoorPr1
import Derived.Lib.LaidTab
set_option linter.unusedSimpArgs false
set_option linter.unusedVariables false
set_option linter.unusedSectionVars false
namespace Go.Fx.YtdkjoljcffkpkaaDoor
open Go Go.Fx Go.Proofs
set_option maxRecDepth 20000

theorem law43 {β : Type} : KeyLaw (β := β) Tryd.prog 43 kk := by
  have hS : Tryd.prog.underlying 43 = some (.struct (Tryd.prog.fieldsOf 43)) := by kernel_rfl
  have hp : Tryd.prog.stoodInHeld 43 = false := by kernel_rfl
  have h3 := Tryd.isAgg3
  have u3 := Tryd.underlying3
  have heq : ∀ x y x' y' w, (Op.equal 43 (.agg #[.int .i64 x, .int .i64 y]) (.agg #[.int .i64 x', .int .i64 y'])).run Tryd.prog w = .ok (x == x' && y == y') w := by
    intro x y x' y' w
    unfold Op.equal Op.maxDepth
    rw [show (10000 : Nat) = 9999 + 1 from rfl, run_equalIn_agg w 9999 43 _ _ hS hp]
    have e : Tryd.prog.fieldsOf 43 = (match Tryd.prog.underlying 43 with | some (.struct fs) => fs | _ => #[]) := by kernel_rfl
    rw [e, Tryd.underlying43]
    simp only [go_sem, h3]
    have hq : ∀ a b w, (Op.equalIn 9999 3 (.int .i64 a) (.int .i64 b)).run Tryd.prog w = .ok (a == b) w := fun a b w => run_equalIn_int w 9998 3 .i64 .i64 a b u3
    by_cases h1 : x = x' <;> by_cases h2 : y = y' <;> simp [h3, hq, h1, h2]
  refine KeyLaw.ofEq hS (fun a b => rfl) (fun b k w => by
    obtain ⟨x, y⟩ := k
    have : ∀ b x y w, (Instr.checkKey b 10000 43 (.agg #[.int .i64 x, .int .i64 y])).run Tryd.prog w = .ok () w := fun b x y w => by kernel_rfl
    exact this b x y w) (fun a b w => ?_) (fun k => by simp [kk, Instr.sameBits])
  obtain ⟨x, y⟩ := a
  obtain ⟨x', y'⟩ := b
  simp only [kk]
  rw [heq]
  congr 1
  by_cases h1 : x = x' <;> by_cases h2 : y = y' <;> simp [h1, h2]
theorem law3 {β : Type} : KeyLaw (β := β) Tryd.prog 3 (Value.int .i64) := KeyLaw.int Tryd.underlying3

/-! ### The table of powers -/
theorem gTab : Tryd.prog.globalNamed "internal/strconv.uint64pow10" = some 0 := by kernel_rfl
def Tab (R : Hp) : Prop := ∃ T fz, R 0 = some (.cells (Lib.pow10Tab.map fun z => Value.int .u64 z).toArray T fz)
theorem Tab.mono {R R' : Hp} (h : Tab R) (l : Le R R') : Tab R' := by
  obtain ⟨T, fz, e⟩ := h
  exact ⟨T, fz, l _ _ e⟩

theorem Tab.is {R : Hp} {w : World} (h : Tab R) (l : Le R (hp w)) : Lib.TabIs Tryd.prog w "internal/strconv.uint64pow10" .u64 Lib.pow10Tab := by
  obtain ⟨T, fz, e⟩ := h
  have hb : w.heap[0]? = some (.cells (Lib.pow10Tab.map fun z => Value.int .u64 z).toArray T fz) := l _ _ e
  unfold Lib.TabIs World.var?
  simp [gTab, hb]

/-! ### What the profile does -/
def PS.rc (s : PS) (k : Pl) : Rec := (AL.get s.recs k).getD rec0
def PS.put (s : PS) (k : Pl) (r : Rec) : PS := { s with recs := AL.set s.recs k r, n := s.n + 1 }
def PS.decide (s : PS) (k : Pl) (r : Rec) (tier : Int) (t : ByteArray) : PS := { s with recs := AL.set s.recs k { r with tier := tier }, decs := s.decs ++ [⟨k, tier, t⟩], n := s.n + 1 }
def wWarm : ByteArray := ⟨#[119, 97, 114, 109]⟩
def wHot : ByteArray := ⟨#[104, 111, 116]⟩
def wExit : ByteArray := ⟨#[101, 120, 105, 116]⟩
def wLeft : ByteArray := ⟨#[108, 101, 102, 116]⟩
def wTimes : ByteArray := ⟨#[116, 105, 109, 101, 115]⟩
def wError : ByteArray := ⟨#[101, 114, 114, 111, 114]⟩
def wGiven : ByteArray := ⟨#[44, 32, 103, 105, 118, 101, 110, 32, 117, 112]⟩

def PS.back (s : PS) (k : Pl) : PS × Bool :=
  let r := s.rc k
  if r.tier < 0 then (s.put k r, false) else
  let r1 := { r with calls := r.calls + 1 }
  if Int.tmod r1.calls s.sample ≠ 0 then (s.put k r1, false) else
  let r2 := { r1 with count := min (r1.count + 1) 1000000 }
  if r.tier = 0 ∧ s.warm ≤ r2.count then (s.decide k r2 1 (joinW [.s wWarm, .i r2.count]), true)
  else if r.tier = 1 ∧ s.hot ≤ r2.count then (s.decide k r2 2 (joinW [.s wHot, .i r2.count]), true)
  else (s.put k r2, false)

def PS.setBack (s : PS) (k : Pl) (r : Rec) (tier : Int) (l : List Wd) : PS :=
  let r1 := { r with failures := r.failures + 1, exits := [] }
  if r1.failures = 3 then s.decide k r1 (-1) (joinW [.s (joinW l ++ wGiven)]) else s.decide k r1 tier (joinW [.s (joinW l)])

def PS.left (s : PS) (k : Pl) (exit : Int) : PS × Bool :=
  match AL.get s.recs k with
  | none => (s, false)
  | some r =>
    if r.tier ≠ 2 ∨ exit < 0 then (s, false) else
    let c := (AL.get r.exits exit).getD 0 + 1
    let r1 := { r with exits := AL.set r.exits exit c }
    if c < s.cold then (s.put k r1, false) else (s.setBack k { r1 with count := s.warm } 1 [.s wExit, .i exit, .s wLeft, .i s.cold, .s wTimes], true)

def PS.failed (s : PS) (k : Pl) (e : Int) : PS :=
  match AL.get s.recs k with
  | none => s
  | some r => if r.tier < 1 ∨ e = 0 then s else s.setBack k { r with count := 0 } 0 [.s wError, .i e]

def PS.tier (s : PS) (k : Pl) : Int := ((AL.get s.recs k).map (·.tier)).getD 0

theorem PS.rc_none {s : PS} {k : Pl} (h : AL.get s.recs k = none) : s.rc k = rec0 := by simp [PS.rc, h]
theorem PS.rc_some {s : PS} {k : Pl} {r : Rec} (h : AL.get s.recs k = some r) : s.rc k = r := by simp [PS.rc, h]
theorem rec0_ok (n : Nat) : rec0.Ok n := ⟨by decide, ⟨by decide, by simp [rec0]⟩, by decide, ⟨by decide, by simp [rec0]⟩, fun k v h => by simp [rec0, AL.get] at h⟩
theorem PS.Ok.rc {s : PS} (h : s.Ok) (k : Pl) : (s.rc k).Ok s.n := by
  unfold PS.rc
  cases e : AL.get s.recs k with
  | none => exact rec0_ok _
  | some r => exact h.recs k r e

theorem PS.Ok.put {s : PS} (h : s.Ok) (k : Pl) {r : Rec} (hr : r.Ok (s.n + 1)) : (s.put k r).Ok := by
  refine ⟨h.sample, h.warm, h.hot, h.cold, h.keys.set _ _, fun j q hj => ?_, Nat.le_succ_of_le h.decs, h.short⟩
  simp only [PS.put, AL.get_set] at hj ⊢
  split at hj
  · cases hj; exact hr
  · exact (h.recs j q hj).mono (Nat.le_succ _)
theorem PS.Ok.decide {s : PS} (h : s.Ok) (k : Pl) {r : Rec} (hr : r.Ok (s.n + 1)) {tier : Int} (ht : -1 ≤ tier ∧ tier ≤ 2) {t : ByteArray} (hs : t.size ≤ 1000) : (s.decide k r tier t).Ok := by
  refine ⟨h.sample, h.warm, h.hot, h.cold, h.keys.set _ _, fun j q hj => ?_, ?_, fun d hd => ?_⟩
  · simp only [PS.decide, AL.get_set] at hj ⊢
    split at hj
    · cases hj; exact ⟨ht, hr.calls, hr.count, hr.failures, hr.exits⟩
    · exact (h.recs j q hj).mono (Nat.le_succ _)
  · have := h.decs
    simp only [PS.decide, List.length_append, List.length_cons, List.length_nil]
    omega
  · simp only [PS.decide] at hd
    rcases List.mem_append.1 hd with hd | hd
    · exact h.short d hd
    · simp at hd; subst hd; exact hs

/-! ### How long texts are -/
theorem joinW_size (l : List Wd) : (joinW l).size = (Lib.join (l.map fun w => w.txt.data.toList) [32]).length := by
  unfold joinW
  simp [ByteArray.size]
theorem txt_i {n : Int} (h : I64 n) : (Wd.i n).txt.data.toList.length ≤ 21 := by
  simpa [Wd.txt] using Lib.itoa_length_le n h.1 h.2
theorem lens_cons (x : List UInt8) (l : List (List UInt8)) : Lib.lens (x :: l) = x.length + Lib.lens l := by simp [Lib.lens]
end Go.Fx.YtdkjoljcffkpkaaDoor
