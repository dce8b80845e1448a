/-
  Slices cut and appended.
-/
import Derived.Test.YtjpdhfhiimbpgaaGreatDoorFx26
set_option linter.unusedSimpArgs false
set_option linter.unusedVariables false
set_option linter.unusedSectionVars false
namespace Go.Fx
open Go
section
variable {α : Type} {ty : Ty α} {P : Program} {w w0 : World} {R R0 : Hp} {L0 Lr : List Hp} {t e : TypeId} {agg : Bool} {sz bytes : Nat} {z v y : Value} {xs ys : List α} {c : Hp}
theorem run_sliceLo {k len cap : Nat} {a : Option Addr} (hu : SL P t e) (he : TI P e agg sz bytes z) (hk : k ≤ len) (hc : len ≤ cap) :
    (Instr.slice t (.slice a len cap) (some (int (k : Int))) none none).run P w = .ok (.slice (if cap = k then a else a.map (·.add (k * sz))) (len - k) (cap - k)) w := by
  unfold Instr.slice
  simp only [Sem.run_bind, run_underlying hu, Result.andThen_ok]
  have h1 : ∀ b, k ≤ b → (Instr.sliceBound (int (k : Int)) b .sliceB).run P w = .ok k w := by
    intro b hb
    unfold Instr.sliceBound
    simp [asIntOf, hb]
  have h2 : (Instr.sliceBounds true len cap (some (int (k : Int))) none none).run P w = .ok (k, len, cap) w := by
    unfold Instr.sliceBounds
    simp [h1 _ hk]
  simp only [h2, Result.andThen_ok, he.run_size, Sem.run_pure, Sem.run_bind]
theorem RdS.dropK {k cap : Nat} {a : Option Addr} (h : RdS ty R (.slice a xs.length cap) xs) (hk : k ≤ xs.length) : RdS ty R (.slice (if cap = k then a else a.map (·.add (k * ty.sz))) (xs.length - k) (cap - k)) (xs.drop k) := by
  obtain ⟨a', cap', e, hc, h⟩ := h
  cases e
  refine ⟨_, _, by rw [List.length_drop], by rw [List.length_drop]; omega, fun hne => ?_⟩
  have hlt : k < xs.length := by
    rcases Nat.lt_or_ge k xs.length with h1 | h1
    · exact h1
    · exact absurd (List.drop_eq_nil_of_le h1) hne
  have hx : xs ≠ [] := by rintro rfl; simp at hlt
  obtain ⟨b, off, cs, T, fz, rfl, hb, he⟩ := h hx
  refine ⟨b, off + k * ty.sz, cs, T, fz, by rw [if_neg (by omega)]; simp [Addr.add], hb, ?_⟩
  have h2 := he.drop k
  have e : (seg cs off (xs.length * ty.sz)).drop (k * ty.sz) = seg cs (off + k * ty.sz) ((xs.drop k).length * ty.sz) := by
    simp only [seg, List.length_drop, List.drop_take, List.drop_drop]
    rw [Nat.mul_sub_right_distrib]
  rw [e] at h2
  exact h2
theorem RdS.takeK {k cap : Nat} {a : Option Addr} (h : RdS ty R (.slice a xs.length cap) xs) (hk : k ≤ xs.length) : RdS ty R (.slice a k cap) (xs.take k) := by
  obtain ⟨a', cap', e, hc, h'⟩ := h.take k hk
  cases e
  exact h'
/-- append of what is read now. -/
theorem run_appendR {tt : TypeId} (hu : SL P t e) (he : TI P e agg ty.sz bytes z) (hz : z.cells.size = ty.sz) (how : OwnL ty e R v xs c) (hst : Step w0 R0 L0 w R (c :: Lr)) (hy : RdS ty (hp w) y ys) (hre : ∀ {cs}, Encs ty (hp w) ys cs → Encs ty R ys cs)
    (hroom : (xs.length + ys.length) * bytes ≤ 2 ^ 47) (hmax : xs.length + ys.length ≤ maxLen) :
    ∃ v' c' w', (Builtin.append_ #[t, t] tt #[v, y]).run P w = .ok v' w' ∧ OwnL ty e R v' (xs ++ ys) c' ∧ Step w0 R0 L0 w' R (c' :: Lr) := by
  have hy0 := hy
  obtain ⟨a, cap, rfl, hc, h⟩ := hy
  obtain ⟨cells, h1, h2⟩ := how
  cases a with
  | none =>
    have hn := RdS.nil hy0
    subst hn
    refine ⟨v, c, w, run_append_zero hu he h1, ⟨cells, by simpa using h1, by simpa using h2⟩, hst⟩
  | some a =>
    obtain ⟨src, hs, hsrc⟩ := RdS.src hy0 (Le.refl _)
    have hs2 := hre hs
    obtain ⟨v', c', w', hr, ho', hst'⟩ := run_append (ty := tt) (cap2 := cap) hu he hz h1 hst hs2.len hsrc hs2.ones hroom hmax
    exact ⟨v', c', w', hr, ⟨cells ++ src, by simpa using ho', h2.append hs2⟩, hst'⟩
/-- append of what has long been read, and of what is one's own. -/
theorem run_appendM {tt : TypeId} (hu : SL P t e) (he : TI P e agg ty.sz bytes z) (hz : z.cells.size = ty.sz) (how : OwnL ty e R v xs c) (hst : Step w0 R0 L0 w R (c :: Lr)) (hy : RdS ty R y ys) (hR : Le R (hp w))
    (hroom : (xs.length + ys.length) * bytes ≤ 2 ^ 47) (hmax : xs.length + ys.length ≤ maxLen) :
    ∃ v' c' w', (Builtin.append_ #[t, t] tt #[v, y]).run P w = .ok v' w' ∧ OwnL ty e R v' (xs ++ ys) c' ∧ Step w0 R0 L0 w' R (c' :: Lr) := by
  have hy0 := hy
  obtain ⟨a, cap, rfl, hc, h⟩ := hy
  obtain ⟨cells, h1, h2⟩ := how
  cases a with
  | none =>
    have hn := RdS.nil hy0
    subst hn
    exact ⟨v, c, w, run_append_zero hu he h1, ⟨cells, by simpa using h1, by simpa using h2⟩, hst⟩
  | some a =>
    obtain ⟨src, hs2, hsrc⟩ := RdS.src hy0 hR
    obtain ⟨v', c', w', hr, ho', hst'⟩ := run_append (ty := tt) (cap2 := cap) hu he hz h1 hst hs2.len hsrc hs2.ones hroom hmax
    exact ⟨v', c', w', hr, ⟨cells ++ src, by simpa using ho', h2.append hs2⟩, hst'⟩
theorem run_appendO {tt : TypeId} {c2 : Hp} (hu : SL P t e) (he : TI P e agg ty.sz bytes z) (hz : z.cells.size = ty.sz) (how : OwnL ty e R v xs c) (hst : Step w0 R0 L0 w R (c :: Lr)) (hy : OwnL ty e R y ys c2) (hR : Le c2 (hp w))
    (hroom : (xs.length + ys.length) * bytes ≤ 2 ^ 47) (hmax : xs.length + ys.length ≤ maxLen) :
    ∃ v' c' w', (Builtin.append_ #[t, t] tt #[v, y]).run P w = .ok v' w' ∧ OwnL ty e R v' (xs ++ ys) c' ∧ Step w0 R0 L0 w' R (c' :: Lr) := by
  obtain ⟨cs2, g1, g2⟩ := hy
  obtain ⟨cells, h1, h2⟩ := how
  rcases g1 with ⟨rfl, hn, rfl, rfl⟩ | ⟨b, cap, cs, rfl, rfl, rfl, hc, hs, hm⟩
  · have hx : ys = [] := List.eq_nil_of_length_eq_zero hn
    subst hx
    exact ⟨v, c, w, run_append_zero hu he h1, ⟨cells, by simpa using h1, by simpa using h2⟩, hst⟩
  · have hb : w.heap[b]? = some (.cells cs e (0, 0)) := hR b _ (one_self _ _)
    have hl := g2.len
    obtain ⟨v', c', w', hr, ho', hst'⟩ := run_append (ty := tt) (cap2 := cap) (a := ⟨b, 0, none⟩) hu he hz h1 hst hl (fun j u hj => by
      have hlt : j < (cs.toList.take (ys.length * ty.sz)).length := (List.getElem?_eq_some_iff.1 hj).1
      rw [add_zero_spot, cell_at hb]
      rw [List.getElem?_take] at hj
      split at hj
      · simpa using hj
      · cases hj) g2.ones hroom hmax
    exact ⟨v', c', w', hr, ⟨_, by simpa using ho', h2.append g2⟩, hst'⟩
variable {ρ : Operand → Value} {o : Oper} {x h1 : Operand}
theorem x_sliceLo {b v' : Value} (ho : o.op = .slice t x (some h1) none none) (hx : ρ x = v) (hh : ρ h1 = b) (hu : SL P t e) (h : (Instr.slice t v (some b) none none).run P w = .ok v' w) : (execOp ρ o).run P w = .ok (.value v') w := by
  unfold execOp
  simp [ho, hx, hh, Instr.sliceAt, run_underlying hu, h]
end
end Go.Fx
