/-
  Chapter 14: the profile as a text.
-/
import Derived.Test.YtdkjoljcffkpkaaDoorPrW
set_option linter.unusedSimpArgs false
set_option linter.unusedVariables false
set_option linter.unusedSectionVars false
namespace Go.Fx.YtdkjoljcffkpkaaDoor
open Go Go.Fx Go.Proofs
set_option maxRecDepth 20000

def lineW (s : PS) (k : Pl) : List Wd := [.i k.1, .i k.2, .i (s.rc k).tier, .i (s.rc k).calls, .i (s.rc k).count, .i (s.rc k).failures]
def lineB (s : PS) (k : Pl) : ByteArray := joinW (lineW s k) ++ ⟨#[10]⟩
/-- The lines of the places ys. -/
def textL (s : PS) (ys : List Pl) : List UInt8 := ys.flatMap fun k => (lineB s k).data.toList

theorem Sm6 {a b c d e f : Wd} (h : a.Sm) (h2 : b.Sm) (h3 : c.Sm) (h4 : d.Sm) (h5 : e.Sm) (h6 : f.Sm) : ∀ x ∈ [a, b, c, d, e, f], x.Sm := by
  intro x hx
  simp only [List.mem_cons, List.not_mem_nil, or_false] at hx
  rcases hx with rfl | rfl | rfl | rfl | rfl | rfl <;> assumption
theorem joinW_line {l : List Wd} (h : ∀ x ∈ l, x.Ok) (hl : l.length ≤ 8) : (joinW l).size ≤ 1128 := by
  have := joinW_le (b := 140) fun x hx => (h x hx).size
  have : (140 + 1) * l.length ≤ 141 * 8 := Nat.mul_le_mul_left _ hl
  omega
def nl : ByteArray := ⟨#[10]⟩
theorem nl_size : nl.size = 1 := by decide
theorem line_room {t : ByteArray} (h : t.size ≤ 1128) : t.size + nl.size ≤ 4611686018427387904 := by rw [nl_size]; omega
theorem line_size {t : ByteArray} (h : t.size ≤ 1128) : (t ++ nl).size ≤ 1129 := by rw [size_append, nl_size]; omega
theorem textL_le {s : PS} {ys : List Pl} (h : ∀ k ∈ ys, (lineB s k).size ≤ 1129) : (textL s ys).length ≤ 1129 * ys.length := by
  induction ys with
  | nil => simp [textL]
  | cons x ys ih =>
    have h1 := h x (by simp)
    have h2 := ih (fun k hk => h k (by simp [hk]))
    have h3 : (lineB s x).data.toList.length = (lineB s x).size := Array.length_toList ..
    simp only [textL, List.flatMap_cons, List.length_append, List.length_cons] at h2 ⊢
    omega
theorem textL_take {s : PS} {ys : List Pl} {k : Nat} (hk : k < ys.length) : textL s (ys.take (k + 1)) = textL s (ys.take k) ++ (lineB s ys[k]).data.toList := by
  unfold textL
  rw [List.take_succ_eq_append_getElem hk, List.flatMap_append]
  simp
theorem textL_all {s : PS} {ys : List Pl} {k : Nat} (hk : ys.length ≤ k) : textL s (ys.take k) = textL s ys := by rw [List.take_of_length_le hk]
theorem textL_room {s : PS} {ys : List Pl} {k : Nat} {t : ByteArray} (h : ∀ k ∈ ys, (lineB s k).size ≤ 1129) (hl : ys.length ≤ 12) (ht : t.size ≤ 1129) : (textL s (ys.take k)).length + t.size ≤ 140737488355328 := by
  have h1 := textL_le (s := s) (ys := ys.take k) fun x hx => h x (List.mem_of_mem_take hx)
  have h2 : (ys.take k).length ≤ 12 := by rw [List.length_take]; omega
  have : 1129 * (ys.take k).length ≤ 1129 * 12 := Nat.mul_le_mul_left _ h2
  omega
theorem line_ok {s : PS} (hok : s.Ok) (hn : s.n ≤ 1000000000) {k : Pl} (hk : I64 k.1 ∧ I64 k.2) : ∀ x ∈ lineW s k, x.Sm := by
  have hro := hok.rc k
  obtain ⟨⟨a1, a2⟩, ⟨b1, b2⟩, ⟨c1, c2⟩, ⟨d1, d2⟩, _⟩ := hro
  exact Sm6 (Sm_i hk.1) (Sm_i hk.2) (Sm_i (by constructor <;> omega)) (Sm_i (by constructor <;> omega)) (Sm_i (by constructor <;> omega)) (Sm_i (by constructor <;> omega))
theorem lineB_le {s : PS} (hok : s.Ok) (hn : s.n ≤ 1000000000) {k : Pl} (hk : I64 k.1 ∧ I64 k.2) : (lineB s k).size ≤ 1129 :=
  line_size (joinW_line (Oks (line_ok hok hn hk)) (Nat.le_of_ble_eq_true rfl))

theorem Grow.below_of {w0 w1 w2 : World} (g : Grow w0 w1) (h : RowKit.Below w0.heap.size w1 w2) : Grow w0 w2 :=
  ⟨h.os.trans g.os, h.tape.trans g.tape, h.output.trans g.output, Nat.le_trans g.size h.size, fun b hb => (h.block b hb).trans (g.keep b hb)⟩
theorem Bld.is {w : World} {B b : Nat} {l : List UInt8} {c : Hp} (h : Bld b l c) (hc : Le c (hp w)) (hn : ∀ x, c x ≠ none → B ≤ x) : Lib.IsBuilder 86 5 B b (Lib.byteCells l) w := by
  obtain ⟨addr, v, cb, rfl, hd, ha, ho⟩ := h
  have hb : w.heap[b]? = some (.cells #[addr, v] 86 (0, 0)) := hc _ _ (uni_l _ _ _ _ (one_self _ _))
  have hB : B ≤ b := hn b (by rw [uni_l _ _ _ _ (one_self _ _)]; simp)
  have hat : Lib.BuilderAt 86 5 B b addr (Lib.byteCells l) w := by
    refine ⟨hB, v, hb, ?_, ?_⟩
    · rw [Lib.byteCells_length]
      rcases ho with ⟨rfl, hn0, e, _⟩ | ⟨g, cap, cs, rfl, rfl, e, h1, h2, h3⟩
      · exact ⟨by rw [Lib.byteCells_length]; omega, .inl ⟨rfl, hn0⟩⟩
      · refine ⟨by rw [Lib.byteCells_length]; omega, .inr ⟨g, cap, cs, rfl, hn g (by rw [uni_r hd _ _ (one_self _ _)]; simp), hc _ _ (uni_r hd _ _ (one_self _ _)), h1, h3, h2.symm, e.symm⟩⟩
    · rcases ho with ⟨rfl, _⟩ | ⟨g, cap, cs, rfl, rfl, _⟩
      · simp [Value.ownBlock]
      · simp only [Value.ownBlock]
        rintro e
        cases e
        rcases hd b with h | h
        · rw [one_self] at h; cases h
        · rw [one_self] at h; cases h
  rcases ha with rfl | rfl
  · exact .inl hat
  · exact .inr hat
theorem Step.fresh {w0 w : World} {R : Hp} {Lc : List Hp} (h : Step w0 (hp w0) [] w R Lc) {i : Nat} {c : Hp} (hi : Lc[i]? = some c) : ∀ x, c x ≠ none → w0.heap.size ≤ x := by
  intro x hx
  have hm : c ∈ Lc := List.mem_of_getElem? hi
  rcases h.newL c hm x hx with h1 | h1 | ⟨_, h1, _⟩
  · exact h1
  · exfalso
    rcases h.sats.rd c hm x with h2 | h2
    · cases e : hp w0 x with
      | none => exact h1 e
      | some o => rw [h.rle x o e] at h2; cases h2
    · exact hx h2
  · cases h1
theorem Bld.new {w0 w : World} {R0 R : Hp} {L0 Lr : List Hp} {b : Nat} (h : Step w0 R0 L0 w R (one b (.cells #[.pointer none, .slice none 0 0] 86 (0, 0)) :: Lr)) : ∃ c, Step w0 R0 L0 w R (c :: Lr) ∧ Bld b [] c := by
  have h1 := h.nothing.front 1 rfl rfl
  have hdj := (List.pairwise_cons.1 h1.sats.dj).1 _ (List.mem_cons_self ..)
  exact ⟨_, h1.join, _, _, _, rfl, hdj, .inl rfl, OwnS.empty 5 1⟩
theorem get_of_key {β : Type} {m : List (Pl × β)} {k : Pl} (h : k ∈ AL.keys m) : AL.get m k ≠ none := by
  induction m with
  | nil => cases h
  | cons a m ih =>
    obtain ⟨j, u⟩ := a
    by_cases e : j = k
    · simp [AL.get, e]
    · simp only [AL.get, e, if_false]
      refine ih ?_
      simp only [AL.keys, List.map_cons, List.mem_cons] at h ⊢
      rcases h with h | h
      · exact absurd h.symm e
      · exact h
end Go.Fx.YtdkjoljcffkpkaaDoor
