/-
  Strings put together; the lesser of two ints; rows of strings.
-/
import Derived.Test.YtjpdhfhiimbpgaaGreatDoorFx19
import Derived.Lib.Join
set_option linter.unusedSimpArgs false
set_option linter.unusedVariables false
set_option linter.unusedSectionVars false
namespace Go.Fx
open Go

section
variable {P : Program} {w : World} {ρ : Operand → Value} {o : Oper} {x y : Operand} {t yt : TypeId}
theorem x_strcat {a b : ByteArray} (ho : o.op = .binOp .add t x y yt) (hx : ρ x = .string a) (hy : ρ y = .string b) (h : a.size + b.size ≤ 4611686018427387904) : (execOp ρ o).run P w = .ok (.value (.string (a ++ b))) w := by
  unfold execOp
  have h2 : ¬ ((a.size + b.size : Nat) : Int) > IntKind.i64.max := by
    have : IntKind.i64.max = 9223372036854775807 := by decide
    omega
  simp only [ho, hx, hy, eqGuard, binOp, Op.stringOp, Sem.run_bind, Sem.run_pure, Result.andThen_ok, if_true]
  simp [h2]
  omega
theorem x_min {t1 t2 : TypeId} {a b : Int} (ho : o.op = .call { callee := .builtin .min, args := #[x, y], argTypes := #[t1, t2] }) (hx : ρ x = int a) (hy : ρ y = int b) :
    (execOp ρ o).run P w = .ok (.value (int (min a b))) w := by
  unfold execOp
  simp only [ho, resolve, hx, hy, invoke, builtin, Builtin.min_, Sem.run_bind, Sem.run_pure, Result.andThen_ok, List.map_toArray, List.map_cons, List.map_nil]
  simp [Builtin.min2]
  omega
end

theorem Encs.strs {R : Hp} {xs : List ByteArray} {cs : List Value} (h : Encs Ty.str R xs cs) : cs = xs.map Value.string := by
  induction h with
  | nil => rfl
  | cons hx _ ih =>
    have e : _ = [_] := hx
    subst e
    rw [ih]
    rfl

/-- A slice of strings of one's own: where its cells are. -/
theorem OwnL.strCells {T : Nat} {R c : Hp} {v : Value} {xs : List ByteArray} {w : World} (h : OwnL Ty.str T R v xs c) (hc : Le c (hp w)) (hne : 0 < xs.length) :
    ∃ b cap, v = .slice (some ⟨b, 0, none⟩) xs.length cap ∧ xs.length ≤ cap ∧ b < w.heap.size ∧ ∀ (j : Nat) x, xs[j]? = some x → w.cell? ⟨b, 0 + j, none⟩ = some (.string x) := by
  obtain ⟨b, cap, N, rfl, hcap, ⟨cs, rest, rfl, he, hN⟩, _⟩ := h.row hne
  have hb : w.heap[b]? = some (.cells (cs ++ rest).toArray T (0, 0)) := hc b _ (one_self _ _)
  refine ⟨b, cap, rfl, hcap, hp_lt (by rw [show hp w b = _ from hb]; simp), fun j x hj => ?_⟩
  have hl := he.len
  have hj' := (List.getElem?_eq_some_iff.1 hj).1
  have e := he.strs
  subst e
  rw [cell_at hb]
  simp only [Nat.zero_add, List.getElem?_toArray]
  rw [List.getElem?_append_left (by simpa using hj'), List.getElem?_map, hj]
  rfl
end Go.Fx
namespace Go.Fx
open Go Go.Instr
theorem run_storeW {P : Program} {w0 w : World} {R0 R : Hp} {L0 Lc : List Hp} (hst : Step w0 R0 L0 w R Lc) {t : TypeId} {agg : Bool} {sz bytes : Nat} {z v : Value} {b off : Nat} {cs cs' : Array Value} {T : TypeId} (i : Nat) {L' : List Hp} (ti : TI P t agg sz bytes z)
    (hi : Lc[i]? = some (one b (.cells cs T (0, 0)))) (hs : v.cells.size = sz) (h1 : v.cells.toList.all (·.oneCell') = true) (hf : Nat.ble (off + sz) cs.size = true)
    (hc : put cs off v.cells.toList = cs') (hL : Lc.set i (one b (.cells cs' T (0, 0))) = L') : ∃ w', (storeVar t ⟨b, off, none⟩ v).run P w = .ok () w' ∧ Step w0 R0 L0 w' R L' := by
  subst hc
  have hr := run_storeVar (P := P) ti (hst.blk hi) hs h1 (Nat.le_of_ble_eq_true hf)
  exact ⟨_, hr, hst.set hi _ hL⟩
end Go.Fx
