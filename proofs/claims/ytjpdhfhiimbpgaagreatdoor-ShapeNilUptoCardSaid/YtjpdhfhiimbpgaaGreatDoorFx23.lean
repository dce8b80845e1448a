/-
  append of a string to bytes of one's own.
-/
import Derived.Test.YtjpdhfhiimbpgaaGreatDoorFx22
import Derived.Lib.AppendStr
set_option linter.unusedSimpArgs false
set_option linter.unusedVariables false
set_option linter.unusedSectionVars false
namespace Go.Fx
open Go

section
variable {P : Program} {w w0 : World} {R0 R : Hp} {L0 Lr : List Hp}
theorem run_append_str {t u ty e : TypeId} {v : Value} {n : Nat} {cells : List Value} {c : Hp} {agg : Bool} (hu : SL P t e) (hs : P.underlying u = some .string) (he : TI P e agg 1 1 (.int .u8 0))
    (ho : OwnS e 1 v n cells c) (hst : Step w0 R0 L0 w R (c :: Lr)) (s : ByteArray) (hroom : n + s.size ≤ 140737488355328) :
    ∃ v' c' w', (Builtin.append_ #[t, u] ty #[v, .string s]).run P w = .ok v' w' ∧ OwnS e 1 v' (n + s.size) (cells ++ Lib.strCells s) c' ∧ Step w0 R0 L0 w' R (c' :: Lr) := by
  obtain ⟨i, hi, his, hib, hiz⟩ := he.run_info w
  have hi' : P.info? e = some i := by
    cases hq : P.info? e with
    | none => simp [typeInfo, hq] at hi
    | some j => simp [typeInfo, hq] at hi; rw [hi]
  have hcl := ho.len
  have hsl := Lib.strCells_length s
  have hmax : n + s.size ≤ maxLen := by simp only [maxLen]; omega
  have hnew : ∀ old, ∃ nc row, n + s.size ≤ nc ∧ nc ≤ maxLen ∧ nc = grownCap w (n + s.size) old e ∧ row = (cells.toArray ++ (Lib.strCells s).toArray ++ Builtin.zeroCells (Value.int .u8 0).cells (nc - (n + s.size))) ∧
      OwnS e 1 (.slice (some ⟨w.heap.size, 0, none⟩) (n + s.size) nc) (n + s.size) (cells ++ Lib.strCells s) (one w.heap.size (.cells row e (0, 0))) ∧
      Step w0 R0 L0 (push (draws w (w.drawn + 1)) (.cells row e (0, 0))) R (one w.heap.size (.cells row e (0, 0)) :: Lr) := by
    intro old
    have hge := grownCap_ge w (n + s.size) old e
    refine ⟨_, _, hge, grownCap_le_maxLen w (n + s.size) old e hmax, rfl, rfl, .inr ⟨_, _, _, rfl, rfl, ?_, hge, ?_, grownCap_le_maxLen w (n + s.size) old e hmax⟩, ((hst.drop).draws (w.drawn + 1)).push _⟩
    · simp only [Array.toList_append, List.toList_toArray]
      have e2 : (n + s.size) * 1 = (cells ++ Lib.strCells s).length := by rw [List.length_append, hcl, hsl]; omega
      rw [e2, List.take_left]
    · have hz1 : (Value.int IntKind.u8 0).cells.size = 1 := rfl
      simp only [Array.size_append, List.size_toArray, size_zeroCells, hz1, hcl, hsl]
      omega
  rcases ho with ⟨rfl, rfl, rfl, rfl⟩ | ⟨b, cap, cs, rfl, rfl, rfl, h2, h3, h4⟩
  · by_cases hm : s.size = 0
    · have hn : Lib.strCells s = [] := List.eq_nil_of_length_eq_zero (by rw [hsl]; exact hm)
      refine ⟨.slice none 0 0, non, w, ?_, by rw [hm, hn]; exact OwnS.empty e 1, hst⟩
      have hf := Lib.run_firstCells_string (P := P) w 1 s
      rw [hm] at hf
      simp [Builtin.append_, run_underlying hu, run_underlying hs, sizeOf, typeInfo, hi', his, Builtin.lenOf, hm, hf]
    · obtain ⟨nc, row, _, _, hnc, hrow, ho', hst'⟩ := hnew 0
      have hr := run_append_nil_string (P := P) w t u ty e i (.int .u8 0) hu hs hi' hiz s (by omega) (by omega) (by rw [hib]; omega)
      have e1 : (s.data.map fun b => Value.int .u8 b.toNat) = (Lib.strCells s).toArray := by
        apply Array.ext'
        simp [Lib.strCells]
      rw [e1] at hr
      refine ⟨_, _, _, ?_, ho', hst'⟩
      rw [hr, hrow, hnc]
      simp only [Nat.zero_add, List.nil_append]
      congr 1
      simp only [push, draws, World.alloc, World.drew]
      congr 3
      simp
  · have hblk : w.heap[b]? = some (.cells cs e (0, 0)) := hst.blk (i := 0) rfl
    by_cases hfit : n + s.size ≤ cap
    · have hr := Lib.run_append_room_string (P := P) w t u ty e i hu hs hi' his b n cap cs hblk s hfit (by omega)
      rw [setRow_setB hblk] at hr
      refine ⟨_, _, _, hr, .inr ⟨b, cap, _, rfl, rfl, ?_, hfit, ?_, h4⟩, hst.set0 _⟩
      · have e2 : (n + s.size) * 1 = (cs.toList.take (n * 1) ++ Lib.strCells s).length := by rw [List.length_append, hcl, hsl]; omega
        rw [List.toList_toArray, e2, Nat.mul_one, List.take_left]
      · simp only [List.size_toArray, List.length_append, List.length_take, List.length_drop, Array.length_toList, hsl]
        omega
    · obtain ⟨nc, row, _, _, hnc, hrow, ho', hst'⟩ := hnew cap
      have holds : ∀ j u, (cs.toList.take (n * 1))[j]? = some u → w.cell? ((⟨b, 0, none⟩ : Addr).add j) = some u := by
        intro j u hj
        have hlt : j < n * 1 := by
          have := (List.getElem?_eq_some_iff.1 hj).1
          simp at this
          omega
        rw [List.getElem?_take, if_pos hlt] at hj
        rw [add_zero_spot, cell_at hblk, Nat.zero_add]
        simpa using hj
      have hr := Lib.run_append_grow_string (P := P) w t u ty e i (.int .u8 0) hu hs hi' hiz ⟨b, 0, none⟩ n cap (cs.toList.take (n * 1)) (by rw [his]; exact hcl) holds s (by omega) (by omega)
        (by rw [hib]; exact growslice_fits (by omega) (by omega))
      refine ⟨_, _, _, ?_, ho', hst'⟩
      rw [hr, hrow, hnc]
      rfl

variable {ro : Option Nat} {n : Nat} {Q : QT} {σ : Fr} {ops : Array Oper} {rest : List Oper} {o : Oper} {d : Nat} {Lc : List Hp}
theorem L_appendStr (hst : Step w0 R0 L0 w R Lc) {t u e : TypeId} {v : Value} {agg : Bool} {x y : Operand} {m : Nat} {cells : List Value} {c : Hp} {L' : List Hp} {s : ByteArray} (i : Nat)
    (hg : o.guard = none) (hd : o.dst = some d) (hn : Nat.blt d n = true) (ho : o.op = .call { callee := .builtin .append, args := #[x, y], argTypes := #[t, u] }) (hx : ev σ x = v) (hy : ev σ y = .string s)
    (hu : SL P t e) (hs : P.underlying u = some .string) (he : TI P e agg 1 1 (.int .u8 0)) (hi : Lc[i]? = some c) (hL : Lc.eraseIdx i = L') (how : OwnS e 1 v m cells c) (hroom : m + s.size ≤ 140737488355328)
    (k : ∀ v' c' w', OwnS e 1 v' (m + s.size) (cells ++ Lib.strCells s) c' → Step w0 R0 L0 w' R (c' :: L') → L ro P n ops rest Q (upd σ d v') w') : L ro P n ops (o :: rest) Q σ w := by
  obtain ⟨v', c', w', hr, ho', hst'⟩ := run_append_str (ty := o.type) hu hs he how (hst.front i hi hL) s hroom
  refine L_val hg hd hn ?_ (k v' c' w' ho' hst')
  unfold execOp
  simp only [ho, resolve, invoke, builtin, Sem.run_bind, Sem.run_pure, Result.andThen_ok, List.map_toArray, List.map_cons, List.map_nil, hx, hy, hr]
end
end Go.Fx
namespace Go.Fx
open Go
theorem seg_part {cs : Array Value} {off n : Nat} {l l' : List Value} (h : seg cs off n = l) (a m : Nat) (hm : Nat.ble (a + m) n = true) (e : (l.drop a).take m = l') : seg cs (off + a) m = l' := by
  subst h
  subst e
  have hm := Nat.le_of_ble_eq_true hm
  simp only [seg, List.drop_take, List.take_take, List.drop_drop]
  congr 1
  omega
end Go.Fx
