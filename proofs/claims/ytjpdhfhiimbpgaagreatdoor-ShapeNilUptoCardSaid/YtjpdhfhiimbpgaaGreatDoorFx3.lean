/-
  What single operations do: loads, stores, new blocks, addresses, calls.
-/
import Derived.Test.YtjpdhfhiimbpgaaGreatDoorFx2
set_option linter.unusedSimpArgs false
set_option linter.unusedVariables false
namespace Go.Fx
open Go

abbrev ptr (b off : Nat) : Value := .pointer (some ⟨b, off, none⟩)
abbrev int (n : Int) : Value := .int .i64 n

def aggB : TypeDesc → Bool
  | .struct _ | .array _ _ => true
  | _ => false

/-- What is known of a type: its cells, its bytes, its zero value. -/
structure TI (P : Program) (t : TypeId) (agg : Bool) (sz bytes : Nat) (z : Value) : Prop where
  info : (P.info? t).map (fun i => (i.size, i.bytes, i.zero)) = some (sz, bytes, some z)
  und : (P.underlying t).map aggB = some agg

/-- Field f of the struct type t lies at cell off. -/
def fieldOf (P : Program) (f : Nat) : TypeDesc → Option Nat
  | .struct fs => match fs[f]? with
    | some x => if P.cellsOf x.type = 0 then none else some x.offset
    | none => none
  | _ => none
def SF (P : Program) (t f off : Nat) : Prop := (P.underlying t).bind (fieldOf P f) = some off

section
variable {P : Program} {w : World} {t : TypeId} {agg : Bool} {sz bytes : Nat} {z : Value}

theorem TI.run_info (h : TI P t agg sz bytes z) (w : World) : ∃ i, (typeInfo t).run P w = .ok i w ∧ i.size = sz ∧ i.bytes = bytes ∧ i.zero = some z := by
  have h1 := h.info
  cases e : P.info? t with
  | none => rw [e] at h1; simp at h1
  | some i =>
    rw [e] at h1
    simp only [Option.map_some, Option.some.injEq, Prod.mk.injEq] at h1
    exact ⟨i, by simp [typeInfo, e], h1⟩
theorem TI.run_size (h : TI P t agg sz bytes z) (w : World) : (sizeOf t).run P w = .ok sz w := by
  obtain ⟨i, hi, hs, _, _⟩ := h.run_info w
  simp [sizeOf, hi, hs]
theorem TI.run_zero (h : TI P t agg sz bytes z) (w : World) : (zeroValue t).run P w = .ok z w := by
  obtain ⟨i, hi, _, _, hz⟩ := h.run_info w
  simp [zeroValue, hi, hz]
theorem TI.run_isAgg (h : TI P t agg sz bytes z) (w : World) : (isAgg t).run P w = .ok agg w := by
  have h1 := h.und
  cases e : P.underlying t with
  | none => rw [e] at h1; simp at h1
  | some d =>
    rw [e] at h1
    simp only [Option.map_some, Option.some.injEq] at h1
    subst h1
    simp only [isAgg, Sem.run_bind, run_underlying e w, Result.andThen_ok]
    cases d <;> rfl

theorem add_zero_spot (b off n : Nat) : (⟨b, off, none⟩ : Addr).add n = ⟨b, off + n, none⟩ := by
  unfold Addr.add
  split
  · rename_i h; subst h; rfl
  · rfl

/-- Cells of a block from a place on. -/
def seg (cs : Array Value) (off n : Nat) : List Value := (cs.toList.drop off).take n

theorem cell_at {b i : Nat} {cs : Array Value} {T : TypeId} {fz : Nat × Nat} (h : w.heap[b]? = some (.cells cs T fz)) : w.cell? ⟨b, i, none⟩ = cs[i]? := by
  simp [World.cell?, h]

theorem run_loadVar_one (h : TI P t false sz bytes z) {b off : Nat} {cs : Array Value} {T : TypeId} {fz : Nat × Nat} {v : Value}
    (hb : w.heap[b]? = some (.cells cs T fz)) (hv : cs[off]? = some v) : (loadVar t ⟨b, off, none⟩).run P w = .ok v w := by
  simp only [loadVar, Sem.run_bind, h.run_isAgg, Result.andThen_ok]
  simp [run_load, cell_at hb, hv]

theorem run_loadVar_agg (h : TI P t true sz bytes z) {b off : Nat} {cs : Array Value} {T : TypeId} {fz : Nat × Nat} {l : List Value}
    (hb : w.heap[b]? = some (.cells cs T fz)) (hv : seg cs off sz = l) (hl : l.length = sz) : (loadVar t ⟨b, off, none⟩).run P w = .ok (.agg l.toArray) w := by
  have hc : (loadCells ⟨b, off, none⟩ sz).run P w = .ok l.toArray w := by
    rw [← hl]
    refine run_loadCells_list w _ l fun j v hj => ?_
    rw [add_zero_spot, cell_at hb]
    subst hv
    have hlt : j < sz := by
      have := (List.getElem?_eq_some_iff.1 hj).1
      simp [seg] at this
      omega
    simp only [seg, List.getElem?_take, hlt, if_true, List.getElem?_drop] at hj
    simpa using hj
  simp only [loadVar, Sem.run_bind, h.run_isAgg, Result.andThen_ok, h.run_size, if_true, hc]
  rfl

theorem x_load {ρ : Operand → Value} {o : Oper} {x : Operand} {b off : Nat} {v : Value} (ho : o.op = .load t x) (hx : ρ x = ptr b off)
    (h : (loadVar t ⟨b, off, none⟩).run P w = .ok v w) : (execOp ρ o).run P w = .ok (.value v) w := by
  unfold execOp
  simp only [ho, hx, Instr.loadAt, Instr.sureAddr, Sem.run_bind, Sem.run_pure, Result.andThen_ok, h]

/-- New cells in the place of old ones. -/
def put (cs : Array Value) (off : Nat) (vs : List Value) : Array Value := (cs.toList.take off ++ vs ++ cs.toList.drop (off + vs.length)).toArray

theorem setRow_setB {b : Nat} {cs cs' : Array Value} {T : TypeId} {fz : Nat × Nat} (h : w.heap[b]? = some (.cells cs T fz)) : w.setRow b cs' = setB w b (.cells cs' T fz) := by
  have hlt := (Array.getElem?_eq_some_iff.1 h).1
  have hb := (Array.getElem?_eq_some_iff.1 h).2
  unfold World.setRow setB
  congr 1
  apply Array.ext_getElem?
  intro i
  rw [Array.getElem?_modify, Array.getElem?_setIfInBounds]
  by_cases e : b = i
  · subst e; simp [hlt, hb]
  · simp [e]

theorem run_storeVar (h : TI P t agg sz bytes z) {b off : Nat} {cs : Array Value} {T : TypeId} {v : Value} (hb : w.heap[b]? = some (.cells cs T (0, 0)))
    (hs : v.cells.size = sz) (h1 : v.cells.toList.all (·.oneCell') = true) (hf : off + sz ≤ cs.size) :
    (storeVar t ⟨b, off, none⟩ v).run P w = .ok () (setB w b (.cells (put cs off v.cells.toList) T (0, 0))) := by
  have hst := run_storeCells_at P b off T v.cells.toList 0 cs w hb (by simpa [hs] using hf) (fun x hx => List.all_eq_true.1 h1 x hx)
  simp only [storeVar, Sem.run_bind, h.run_size, Result.andThen_ok]
  rw [if_neg (by simp [hs])]
  simp only [hst]
  rw [setRow_setB hb]
  simp [put]

theorem x_store {ρ : Operand → Value} {o : Oper} {x y : Operand} {b off : Nat} {v : Value} {w' : World} (ho : o.op = .store t x y) (hx : ρ x = ptr b off) (hy : ρ y = v)
    (h : (storeVar t ⟨b, off, none⟩ v).run P w = .ok () w') : (execOp ρ o).run P w = .ok .skip w' := by
  unfold execOp
  simp only [ho, hx, hy, Instr.storeAt, Instr.sureAddr, Sem.run_bind, Sem.run_pure, Result.andThen_ok, h]

theorem x_alloc {ρ : Operand → Value} {o : Oper} (ho : o.op = .alloc t) (h : TI P t agg sz bytes z) :
    (execOp ρ o).run P w = .ok (.value (ptr w.heap.size 0)) (push w (.cells z.cells t)) := by
  unfold execOp
  simp only [ho, Instr.alloc, Sem.run_bind, h.run_zero, Result.andThen_ok, newVar, newRow, run_newObj, Sem.run_pure]
  rfl

theorem x_box {ρ : Operand → Value} {o : Oper} {x : Operand} {v : Value} (ho : o.op = .box t x) (hx : ρ x = v) :
    (execOp ρ o).run P w = .ok (.value (ptr w.heap.size 0)) (push w (.cells v.cells t)) := by
  unfold execOp
  simp only [ho, hx, Instr.box, Sem.run_bind, Result.andThen_ok, newVar, newRow, run_newObj, Sem.run_pure]
  rfl

theorem x_fieldAddr {ρ : Operand → Value} {o : Oper} {x : Operand} {f k b off : Nat} (ho : o.op = .fieldAddr t x f) (hx : ρ x = ptr b off) (h : SF P t f k) :
    (execOp ρ o).run P w = .ok (.value (ptr b (off + k))) w := by
  unfold SF at h
  cases hu : P.underlying t with
  | none => rw [hu] at h; simp at h
  | some d =>
    rw [hu] at h
    simp only [Option.bind_some] at h
    cases d with
    | struct fs =>
      simp only [fieldOf] at h
      cases hf : fs[f]? with
      | none => rw [hf] at h; simp at h
      | some x' =>
        rw [hf] at h
        simp only at h
        split at h
        · cases h
        · rename_i hne
          simp only [Option.some.injEq] at h
          have hi : ∃ i, P.info? x'.type = some i ∧ i.size ≠ 0 := by
            cases e : P.info? x'.type with
            | none => simp [Program.cellsOf, e] at hne
            | some i => exact ⟨i, rfl, by simpa [Program.cellsOf, e] using hne⟩
          obtain ⟨i, hi, hi0⟩ := hi
          unfold execOp
          simp only [ho, hx, Instr.fieldAt, Instr.sureAddr, Sem.run_bind, Sem.run_pure, Result.andThen_ok, run_underlying hu, hf, fieldPlace, sizeOf, typeInfo, run_program, hi]
          rw [if_neg hi0]
          simp [add_zero_spot, h]
    | _ => simp [fieldOf] at h

/-- The type t is a slice of e. -/
def SL (P : Program) (t e : TypeId) : Prop := P.underlying t = some (.slice e)

theorem x_indexAddr {ρ : Operand → Value} {o : Oper} {x ix : Operand} {e : TypeId} {b off len cap : Nat} {i : Int} (ho : o.op = .indexAddr t x ix) (hu : SL P t e) (h : TI P e agg sz bytes z)
    (hx : ρ x = .slice (some ⟨b, off, none⟩) len cap) (hi : ρ ix = int i) (h0 : 0 ≤ i) (h1 : i < len) :
    (execOp ρ o).run P w = .ok (.value (ptr b (off + i.toNat * sz))) w := by
  unfold execOp
  simp only [ho, hx, hi, Instr.indexAt, asIntOf, Sem.run_bind, Sem.run_pure, Result.andThen_ok, run_underlying hu]
  simp [h0, h1, h.run_size, add_zero_spot]

theorem x_nilCheck {ρ : Operand → Value} {o : Oper} {x : Operand} {b off : Nat} (ho : o.op = .nilCheck x) (hx : ρ x = ptr b off) :
    (execOp ρ o).run P w = .ok (.value (ptr b off)) w := by
  unfold execOp
  simp only [ho, hx, Sem.run_pure]

theorem x_len_slice {ρ : Operand → Value} {o : Oper} {x : Operand} {e : TypeId} {a : Option Addr} {len cap : Nat}
    (ho : o.op = .call { callee := .builtin .len, args := #[x], argTypes := #[t] }) (hu : SL P t e) (hx : ρ x = .slice a len cap) :
    (execOp ρ o).run P w = .ok (.value (int len)) w := by
  unfold execOp
  simp [ho, resolve, hx, invoke, builtin, Builtin.len_, run_underlying hu, goInt]

theorem x_len_string {ρ : Operand → Value} {o : Oper} {x : Operand} {s : ByteArray}
    (ho : o.op = .call { callee := .builtin .len, args := #[x], argTypes := #[t] }) (hu : P.underlying t = some .string) (hx : ρ x = .string s) :
    (execOp ρ o).run P w = .ok (.value (int s.size)) w := by
  unfold execOp
  simp [ho, resolve, hx, invoke, builtin, Builtin.len_, run_underlying hu, goInt]

/-- The function f has a body, so that a call enters it. -/
def Ent (P : Program) (f : FuncId) : Prop := ∀ args w, (callFunc f args).run P w = .ok (.enter f args) w

theorem x_call {ρ : Operand → Value} {o : Oper} {f : FuncId} {xs : Array Operand} {ts : Array TypeId} {vs : Array Value}
    (ho : o.op = .call { callee := .value (.func f), args := xs, argTypes := ts }) (hf : ρ (.func f) = .func (.func f) #[] #[]) (hx : xs.map ρ = vs) (he : Ent P f) :
    (execOp ρ o).run P w = .ok (.enter f vs) w := by
  unfold execOp
  have h2 := he vs w
  simp only [ho, resolve, hx, hf, Sem.run_bind, Deferred.ofValue, Sem.run_pure, Result.andThen_ok, invoke]
  simpa using h2

/-- A call of a function value. -/
theorem x_callv {ρ : Operand → Value} {o : Oper} {f : FuncId} {x : Operand} {xs : Array Operand} {ts : Array TypeId} {first cap vs : Array Value}
    (ho : o.op = .call { callee := .value x, args := xs, argTypes := ts }) (hf : ρ x = .func (.func f) first cap) (hx : first ++ xs.map ρ ++ cap = vs) (he : Ent P f) :
    (execOp ρ o).run P w = .ok (.enter f vs) w := by
  unfold execOp
  have h2 := he vs w
  subst hx
  simp only [ho, resolve, hf, Sem.run_bind, Deferred.ofValue, Sem.run_pure, Result.andThen_ok, invoke]
  simpa using h2

end
end Go.Fx
