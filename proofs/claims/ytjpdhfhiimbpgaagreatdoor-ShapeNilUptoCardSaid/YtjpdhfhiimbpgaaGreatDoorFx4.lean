/-
  Slices that the call itself owns: made, appended to, cut; structs and literals.
-/
import Derived.Test.YtjpdhfhiimbpgaaGreatDoorFx3
import Derived.Laws.AppendOwn
set_option linter.unusedSimpArgs false
set_option linter.unusedVariables false
namespace Go.Fx
open Go

/-- v is a slice of n elements of the type T (sz cells each) whose cells are 'cells' and lie in the piece c. -/
def OwnS (T sz : Nat) (v : Value) (n : Nat) (cells : List Value) (c : Hp) : Prop :=
  (v = .slice none 0 0 ∧ n = 0 ∧ cells = [] ∧ c = non) ∨
  ∃ b cap cs, v = .slice (some ⟨b, 0, none⟩) n cap ∧ c = one b (.cells cs T (0, 0)) ∧ cells = cs.toList.take (n * sz) ∧ n ≤ cap ∧ cap * sz = cs.size ∧ cap ≤ maxLen

theorem OwnS.empty (T sz : Nat) : OwnS T sz (.slice none 0 0) 0 [] non := .inl ⟨rfl, rfl, rfl, rfl⟩
theorem OwnS.len {T sz : Nat} {v : Value} {n : Nat} {cells : List Value} {c : Hp} (h : OwnS T sz v n cells c) : cells.length = n * sz := by
  rcases h with ⟨_, rfl, rfl, _⟩ | ⟨b, cap, cs, _, _, rfl, h1, h2, _⟩
  · simp
  · simp only [List.length_take, Array.length_toList]
    have : n * sz ≤ cap * sz := Nat.mul_le_mul_right _ h1
    omega

section
variable {P : Program} {w w0 : World} {R0 R : Hp} {L0 Lr : List Hp}

theorem run_firstCells {sz m b off cap : Nat} {cs : Array Value} {T : TypeId} {fz : Nat × Nat} {l : List Value} (hb : w.heap[b]? = some (.cells cs T fz))
    (hl : seg cs off (m * sz) = l) (hn : l.length = m * sz) : (Builtin.firstCells sz m (.slice (some ⟨b, off, none⟩) m cap)).run P w = .ok l.toArray w := by
  unfold Builtin.firstCells
  simp only
  rw [← hn]
  refine run_loadCells_list w _ l fun j v hj => ?_
  rw [add_zero_spot, cell_at hb]
  subst hl
  have hlt : j < m * sz := by
    have := (List.getElem?_eq_some_iff.1 hj).1
    simp [seg] at this
    omega
  simp only [seg, List.getElem?_take, hlt, if_true, List.getElem?_drop] at hj
  simpa using hj

/-- append to a slice of one's own: the new one is one's own, too. -/
theorem run_append {t ty e : TypeId} {sz bytes : Nat} {z v : Value} {n m cap2 : Nat} {a : Addr} {agg : Bool} {cells src : List Value} {c : Hp} (hu : SL P t e) (he : TI P e agg sz bytes z) (hz : z.cells.size = sz)
    (ho : OwnS e sz v n cells c) (hst : Step w0 R0 L0 w R (c :: Lr)) (hsl : src.length = m * sz) (hsrc : ∀ j u, src[j]? = some u → w.cell? (a.add j) = some u) (h1 : src.all (·.oneCell') = true)
    (hroom : (n + m) * bytes ≤ 2 ^ 47) (hmax : n + m ≤ maxLen) :
    ∃ v' c' w', (Builtin.append_ #[t, t] ty #[v, .slice (some a) m cap2]).run P w = .ok v' w' ∧ OwnS e sz v' (n + m) (cells ++ src) c' ∧ Step w0 R0 L0 w' R (c' :: Lr) := by
  obtain ⟨i, hi, his, hib, hiz⟩ := he.run_info w
  have hi' : P.info? e = some i := by
    cases hq : P.info? e with
    | none => simp [typeInfo, hq] at hi
    | some j => simp [typeInfo, hq] at hi; rw [hi]
  have h1' : ∀ u ∈ src, u.oneCell' = true := fun u hu => List.all_eq_true.1 h1 u hu
  have hcl := ho.len
  have hsmall : n + m ≤ 9223372036854775807 := by simpa [maxLen] using hmax
  have e48 : (140737488355328 : Nat) = 2 ^ 47 := by decide
  have hnew : ∀ old, ∃ nc row, n + m ≤ nc ∧ nc ≤ maxLen ∧ nc = grownCap w (n + m) old e ∧ row = (cells.toArray ++ src.toArray ++ Builtin.zeroCells z.cells (nc - (n + m))) ∧
      OwnS e sz (.slice (some ⟨w.heap.size, 0, none⟩) (n + m) nc) (n + m) (cells ++ src) (one w.heap.size (.cells row e (0, 0))) ∧
      Step w0 R0 L0 (push (draws w (w.drawn + 1)) (.cells row e (0, 0))) R (one w.heap.size (.cells row e (0, 0)) :: Lr) := by
    intro old
    have hge := grownCap_ge w (n + m) old e
    refine ⟨_, _, hge, grownCap_le_maxLen w (n + m) old e hmax, rfl, rfl, .inr ⟨_, _, _, rfl, rfl, ?_, hge, ?_, grownCap_le_maxLen w (n + m) old e hmax⟩, ((hst.drop).draws (w.drawn + 1)).push _⟩
    · simp only [Array.toList_append, List.toList_toArray]
      rw [Nat.add_mul, ← hcl, ← hsl, ← List.length_append, List.take_left]
    · simp only [Array.size_append, List.size_toArray, size_zeroCells, hz, hcl, hsl, ← Nat.add_mul]
      congr 1
      omega
  rcases ho with ⟨rfl, rfl, rfl, rfl⟩ | ⟨b, cap, cs, rfl, rfl, rfl, h2, h3, h4⟩
  · by_cases hm : m = 0
    · subst hm
      have hs0 : src = [] := by simpa using hsl
      subst hs0
      refine ⟨.slice none 0 0, non, w, ?_, by simpa using OwnS.empty e sz, hst⟩
      simp [Builtin.append_, run_underlying hu, sizeOf, typeInfo, hi', Builtin.lenOf, Builtin.firstCells, loadCells, loadCellsFrom]
    · obtain ⟨nc, row, _, _, hnc, hrow, ho', hst'⟩ := hnew 0
      have hr := run_append_nil (P := P) w t ty e i z hu hi' hiz a m cap2 src (by rw [his]; exact hsl) hsrc (by omega) (by omega) (by rw [hib]; simp only [Nat.zero_add] at hroom; omega)
      refine ⟨_, _, _, ?_, ho', hst'⟩
      rw [hr, hrow, hnc]
      simp only [Nat.zero_add, List.nil_append]
      congr 1
      simp only [push, draws, World.alloc, World.drew]
      congr 3
      simp
  · have hblk : w.heap[b]? = some (.cells cs e (0, 0)) := hst.blk (i := 0) rfl
    by_cases hfit : n + m ≤ cap
    · have hroom2 : n * i.size + src.length ≤ cs.size := by
        rw [hsl, his, ← h3, ← Nat.add_mul]
        exact Nat.mul_le_mul_right _ hfit
      have hr := run_append_room (P := P) w t ty e i hu hi' b n cap cs hblk a m cap2 src (by rw [his]; exact hsl) hsrc h1' hfit hroom2
      rw [setRow_setB hblk] at hr
      refine ⟨_, _, _, hr, .inr ⟨b, cap, _, rfl, rfl, ?_, hfit, ?_, h4⟩, hst.set0 _⟩
      · rw [his]
        have e2 : (n + m) * sz = (cs.toList.take (n * sz) ++ src).length := by rw [List.length_append, hcl, hsl, Nat.add_mul]
        rw [List.toList_toArray, e2, List.take_left]
      · rw [h3]
        rw [his] at hroom2 ⊢
        simp only [List.size_toArray, List.length_append, List.length_take, List.length_drop, Array.length_toList]
        omega
    · obtain ⟨nc, row, _, _, hnc, hrow, ho', hst'⟩ := hnew cap
      have holds : ∀ j u, (cs.toList.take (n * sz))[j]? = some u → w.cell? ((⟨b, 0, none⟩ : Addr).add j) = some u := by
        intro j u hj
        have hlt : j < n * sz := by
          have := (List.getElem?_eq_some_iff.1 hj).1
          simp at this
          omega
        rw [List.getElem?_take, if_pos hlt] at hj
        rw [add_zero_spot, cell_at hblk, Nat.zero_add]
        simpa using hj
      have hr := run_append_grow (P := P) w t ty e i z hu hi' hiz ⟨b, 0, none⟩ n cap (cs.toList.take (n * sz)) (by rw [his]; exact hcl) holds a m cap2 src (by rw [his]; exact hsl) hsrc (by omega) (by omega)
        (growslice_fits (by omega) (by rw [hib]; omega))
      refine ⟨_, _, _, ?_, ho', hst'⟩
      rw [hr, hrow, hnc]
      rfl

/-- append of nothing. -/
theorem run_append_zero {t ty e : TypeId} {sz bytes : Nat} {z v : Value} {n cap2 : Nat} {agg : Bool} {cells : List Value} {c : Hp} (hu : SL P t e) (he : TI P e agg sz bytes z)
    (ho : OwnS e sz v n cells c) : (Builtin.append_ #[t, t] ty #[v, .slice none 0 cap2]).run P w = .ok v w := by
  obtain ⟨i, hi, his, hib, hiz⟩ := he.run_info w
  have hi' : P.info? e = some i := by
    cases hq : P.info? e with
    | none => simp [typeInfo, hq] at hi
    | some j => simp [typeInfo, hq] at hi; rw [hi]
  rcases ho with ⟨rfl, rfl, rfl, rfl⟩ | ⟨b, cap, cs, rfl, rfl, rfl, h2, h3, h4⟩
  · simp [Builtin.append_, run_underlying hu, sizeOf, typeInfo, hi', Builtin.lenOf, Builtin.firstCells]
  · simp [Builtin.append_, run_underlying hu, sizeOf, typeInfo, hi', Builtin.lenOf, Builtin.firstCells, h2, storeCells]

theorem x_append {ρ : Operand → Value} {o : Oper} {s x : Operand} {sT xT : TypeId} {v y v' : Value} {w' : World}
    (ho : o.op = .call { callee := .builtin .append, args := #[s, x], argTypes := #[sT, xT] }) (hs : ρ s = v) (hx : ρ x = y) (h : (Builtin.append_ #[sT, xT] o.type #[v, y]).run P w = .ok v' w') :
    (execOp ρ o).run P w = .ok (.value v') w' := by
  unfold execOp
  simp [ho, resolve, hs, hx, invoke, builtin, h]

theorem lenOf_slice (a : Option Addr) (m cap : Nat) (w : World) : (Builtin.lenOf (.slice a m cap)).run P w = .ok m w := rfl
theorem lenOf_string (s : ByteArray) (w : World) : (Builtin.lenOf (.string s)).run P w = .ok s.size w := rfl
theorem firstCells_none (sz m n cap : Nat) (w : World) : (Builtin.firstCells sz m (.slice none n cap)).run P w = .ok (([] : List Value)).toArray w := rfl

end
end Go.Fx
