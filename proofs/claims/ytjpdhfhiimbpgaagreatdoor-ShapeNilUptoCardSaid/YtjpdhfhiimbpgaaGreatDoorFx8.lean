/-
  More operations: numbers, maps that may be nil, elements of slices.
-/
import Derived.Test.YtjpdhfhiimbpgaaGreatDoorFx7
import Derived.KernelRfl
set_option linter.unusedSimpArgs false
set_option linter.unusedVariables false
set_option linter.unusedSectionVars false
namespace Go.Fx
open Go

section
variable {ro : Option Nat} {P : Program} {n : Nat} {Q : QT} {σ : Fr} {w : World} {ops : Array Oper} {rest : List Oper}

/-- An operation that leaves the world as it is. -/
theorem L_pure {o : Oper} {d : Nat} {v : Value} (hg : o.guard = none) (hd : o.dst = some d) (hn : Nat.blt d n = true)
    (hr : (execOp (ev σ) o).run P w = .ok (.value v) w) (k : L ro P n ops rest Q (upd σ d v) w) : L ro P n ops (o :: rest) Q σ w := L_val hg hd hn hr k

/-- A number that an int holds. -/
def I64 (n : Int) : Prop := -9223372036854775808 ≤ n ∧ n ≤ 9223372036854775807
theorem wrap_id {n : Int} (h : I64 n) : IntKind.i64.wrap n = n := by
  obtain ⟨h1, h2⟩ := h
  simp only [IntKind.wrap, IntKind.bits, IntKind.signed, Bool.true_and]
  simp only [Nat.reduceSub, Int.reducePow, ge_iff_le, decide_eq_true_eq]
  split <;> omega

variable {ρ : Operand → Value} {o : Oper} {x y : Operand} {t yt : TypeId} {a b : Int}

theorem x_add (ho : o.op = .binOp .add t x y yt) (hx : ρ x = int a) (hy : ρ y = int b) (h : I64 (a + b)) : (execOp ρ o).run P w = .ok (.value (int (a + b))) w := by
  unfold execOp
  simp only [ho, hx, hy, eqGuard, binOp, Op.intArith, Sem.run_bind, Sem.run_pure, Result.andThen_ok, if_true]
  simp [wrap_id h]
theorem x_sub (ho : o.op = .binOp .sub t x y yt) (hx : ρ x = int a) (hy : ρ y = int b) (h : I64 (a - b)) : (execOp ρ o).run P w = .ok (.value (int (a - b))) w := by
  unfold execOp
  simp only [ho, hx, hy, eqGuard, binOp, Op.intArith, Sem.run_bind, Sem.run_pure, Result.andThen_ok, if_true]
  simp [wrap_id h]
theorem x_mul (ho : o.op = .binOp .mul t x y yt) (hx : ρ x = int a) (hy : ρ y = int b) (h : I64 (a * b)) : (execOp ρ o).run P w = .ok (.value (int (a * b))) w := by
  unfold execOp
  simp only [ho, hx, hy, eqGuard, binOp, Op.intArith, Sem.run_bind, Sem.run_pure, Result.andThen_ok, if_true]
  simp [wrap_id h]
theorem x_rem (ho : o.op = .binOp .rem t x y yt) (hx : ρ x = int a) (hy : ρ y = int b) (h : b ≠ 0) : (execOp ρ o).run P w = .ok (.value (int (a.tmod b))) w := by
  unfold execOp
  simp only [ho, hx, hy, eqGuard, binOp, Op.intDiv, Sem.run_bind, Sem.run_pure, Result.andThen_ok, if_true]
  simp [h]
theorem x_quo (ho : o.op = .binOp .quo t x y yt) (hx : ρ x = int a) (hy : ρ y = int b) (h : b ≠ 0) (hi : I64 (a.tdiv b)) : (execOp ρ o).run P w = .ok (.value (int (a.tdiv b))) w := by
  unfold execOp
  simp only [ho, hx, hy, eqGuard, binOp, Op.intDiv, Sem.run_bind, Sem.run_pure, Result.andThen_ok, if_true]
  simp [h, wrap_id hi]

/-- A choice whose test is decided. -/
theorem x_pick {c : Operand} {p : Bool} {v : Value} (ho : o.op = .pick c x y) (hc : ρ c = .bool p) (hv : (if p = true then ρ x else ρ y) = v) : (execOp ρ o).run P w = .ok (.value v) w := by
  unfold execOp
  simp [ho, hc, asBool, hv]

end

/-! ### Elements of slices -/
section
variable {α : Type} {t : Ty α} {R : Hp} {v : Value} {xs : List α}

theorem seg_seg (cs : Array Value) (off n i k : Nat) (h : i + k ≤ n) : ((seg cs off n).drop i).take k = seg cs (off + i) k := by
  simp only [seg, List.drop_take, List.drop_drop, List.take_take]
  congr 1
  omega

/-- The row of a slice that has elements. -/
theorem RdS.open (h : RdS t R v xs) (hne : 0 < xs.length) : ∃ b off cap cs T fz, v = .slice (some ⟨b, off, none⟩) xs.length cap ∧ xs.length ≤ cap ∧ R b = some (.cells cs T fz) ∧ Encs t R xs (seg cs off (xs.length * t.sz)) := by
  obtain ⟨a, cap, e, hc, h⟩ := h
  obtain ⟨b, off, cs, T, fz, ha, hb, he⟩ := h (fun e => by rw [e] at hne; simp at hne)
  exact ⟨b, off, cap, cs, T, fz, by rw [e, ha], hc, hb, he⟩

theorem RdS.shape (h : RdS t R v xs) : ∃ a cap, v = .slice a xs.length cap ∧ xs.length ≤ cap := by
  obtain ⟨a, cap, e, hc, _⟩ := h
  exact ⟨a, cap, e, hc⟩

theorem Encs.at {cs : Array Value} {off : Nat} (h : Encs t R xs (seg cs off (xs.length * t.sz))) (i : Nat) (hi : i < xs.length) : ∃ c, seg cs (off + i * t.sz) t.sz = c ∧ t.rel R xs[i] c := by
  have := h.get i hi
  rw [seg_seg] at this
  · exact ⟨_, rfl, this⟩
  · have : (i + 1) * t.sz ≤ xs.length * t.sz := Nat.mul_le_mul_right _ hi
    rw [Nat.add_mul, Nat.one_mul] at this
    exact this

theorem seg_one {cs : Array Value} {off : Nat} {u : Value} (h : seg cs off 1 = [u]) : cs[off]? = some u := by
  simp only [seg] at h
  have h2 : ((cs.toList.drop off).take 1)[0]? = some u := by rw [h]; rfl
  simpa using h2

variable {P : Program} {w : World} {ρ : Operand → Value} {o : Oper} {x ix : Operand} {T e : TypeId} {agg : Bool} {sz bytes : Nat} {z : Value}

theorem x_indexAddr' {b off len cap k : Nat} (ho : o.op = .indexAddr T x ix) (hu : SL P T e) (h : TI P e agg sz bytes z)
    (hx : ρ x = .slice (some ⟨b, off, none⟩) len cap) (hi : ρ ix = int (k : Int)) (h1 : k < len) :
    (execOp ρ o).run P w = .ok (.value (ptr b (off + k * sz))) w := by
  have := x_indexAddr (w := w) ho hu h hx hi (by omega) (by omega)
  simpa using this
end

/-! ### Maps that may be nil -/
section
variable {κ β : Type} [DecidableEq κ]

/-- bo is a map that holds m, in the piece c; nil, and m holds nothing. -/
def MapC (kenc : κ → Value) (vr : β → Value → Prop) (bo : Option Nat) (m : List (κ × β)) (c : Hp) : Prop :=
  (bo = none ∧ m = [] ∧ c = non) ∨ ∃ b es k, bo = some b ∧ c = one b (.map es k) ∧ MapIs kenc vr es.toList m ∧ Born es.toList k

theorem MapC.imp {kenc : κ → Value} {vr vr' : β → Value → Prop} {bo : Option Nat} {m : List (κ × β)} {c : Hp} (h : MapC kenc vr bo m c) (hi : ∀ x v, vr x v → vr' x v) : MapC kenc vr' bo m c := by
  rcases h with ⟨h1, h2, h3⟩ | ⟨b, es, k, h1, h2, h3, h4⟩
  · exact .inl ⟨h1, h2, h3⟩
  · exact .inr ⟨b, es, k, h1, h2, h3.imp hi, h4⟩

variable {P : Program} {w w0 : World} {R0 R : Hp} {L0 Lr : List Hp} {kT eT T : TypeId} {kenc : κ → Value} {vr : β → Value → Prop} {bo : Option Nat} {m : List (κ × β)} {c : Hp} {agg : Bool} {sz bytes : Nat} {z : Value}

theorem MapC.lookup (h : MapC kenc vr bo m c) (hc : Le c (hp w)) (K : KeyLaw (β := β) P kT kenc) (hT : P.underlying T = some (.map kT eT)) (he : TI P eT agg sz bytes z) (k : κ) (ok : Bool) :
    ∃ v f, (Instr.lookup T (.map bo) (kenc k) ok).run P w = .ok (if ok then .tuple #[v, .bool f] else v) w ∧
      ((∃ x, AL.get m k = some x ∧ vr x v ∧ f = true) ∨ (AL.get m k = none ∧ v = z ∧ f = false)) := by
  rcases h with ⟨rfl, rfl, rfl⟩ | ⟨b, es, ck, rfl, rfl, h3, _⟩
  · exact ⟨z, false, run_lookup_nil K hT he k ok, .inr ⟨rfl, rfl, rfl⟩⟩
  · exact run_lookup K hT he (hc b _ (one_self _ _)) h3 k ok

/-- A look-up, the element told as a datum. -/
theorem MapC.lookupD (h : MapC kenc vr bo m c) (hc : Le c (hp w)) (K : KeyLaw (β := β) P kT kenc) (hT : P.underlying T = some (.map kT eT)) (he : TI P eT agg sz bytes z) (k : κ) (ok : Bool) (d : β) (hd : vr d z) :
    ∃ v, (Instr.lookup T (.map bo) (kenc k) ok).run P w = .ok (if ok then .tuple #[v, .bool (AL.get m k).isSome] else v) w ∧ vr ((AL.get m k).getD d) v := by
  obtain ⟨v, f, hr, h1⟩ := h.lookup hc K hT he k ok
  rcases h1 with ⟨x, hx, hv, rfl⟩ | ⟨hx, rfl, rfl⟩
  · exact ⟨v, by rw [hr, hx]; rfl, by rw [hx]; exact hv⟩
  · exact ⟨v, by rw [hr, hx]; rfl, by rw [hx]; exact hd⟩

theorem MapC.entry {b : Nat} (h : MapC kenc vr (some b) m c) (hst : Step w0 R0 L0 w R (c :: Lr)) (K : KeyLaw (β := β) P kT kenc) (hT : P.underlying T = some (.map kT eT)) (he : TI P eT agg sz bytes z) (k : κ) :
    ∃ v0 st ob w', (Instr.mapEntry T (.map (some b)) (kenc k)).run P w = .ok (.tuple #[v0, int st]) w' ∧ Step w0 R0 L0 w' R (one b ob :: Lr) ∧
      (∀ (w' : World) (R : Hp) (Lr : List Hp) x v, Step w0 R0 L0 w' R (one b ob :: Lr) → vr x v →
        ∃ c' w'', (Instr.entryStore T (.map (some b)) (int st) v).run P w' = .ok () w'' ∧ MapC kenc vr (some b) (AL.set m k x) c' ∧ Step w0 R0 L0 w'' R (c' :: Lr)) ∧
      (AL.get m k ≠ none → MapC kenc vr (some b) m (one b ob)) := by
  rcases h with ⟨h1, _, _⟩ | ⟨b', es, ck, h1, rfl, h3, h4⟩
  · cases h1
  · cases h1
    obtain ⟨v0, st, es1, c1, hr, hk, hsame⟩ := run_mapEntry (w := w) K hT he (hst.blk (i := 0) rfl) h3 h4 k
    refine ⟨v0, st, _, _, hr, hst.set0 _, fun w' R Lr x v hst' hv => ?_, fun hn => by obtain ⟨rfl, rfl⟩ := hsame hn; exact .inr ⟨b, es1, c1, rfl, rfl, h3, h4⟩⟩
    obtain ⟨es2, hr2, hm, hB⟩ := hk w' x v (hst'.blk (i := 0) rfl) hv
    exact ⟨_, _, hr2, .inr ⟨b, es2, c1, rfl, rfl, hm, hB⟩, hst'.set0 _⟩

theorem MapC.update {b : Nat} (h : MapC kenc vr (some b) m c) (hst : Step w0 R0 L0 w R (c :: Lr)) (K : KeyLaw (β := β) P kT kenc) (hT : P.underlying T = some (.map kT eT)) (k : κ) (x : β) (v : Value) (hv : vr x v) :
    ∃ c' w', (Instr.mapUpdate T (.map (some b)) (kenc k) v).run P w = .ok () w' ∧ MapC kenc vr (some b) (AL.set m k x) c' ∧ Step w0 R0 L0 w' R (c' :: Lr) := by
  rcases h with ⟨h1, _, _⟩ | ⟨b', es, ck, h1, rfl, h3, h4⟩
  · cases h1
  · cases h1
    obtain ⟨es', c', hr, hm, hB⟩ := run_mapUpdate (w := w) K hT (hst.blk (i := 0) rfl) h3 h4 k x v hv
    exact ⟨_, _, hr, .inr ⟨b, es', c', rfl, rfl, hm, hB⟩, hst.set0 _⟩

theorem MapC.delete (h : MapC kenc vr bo m c) (hst : Step w0 R0 L0 w R (c :: Lr)) (K : KeyLaw (β := β) P kT kenc) (hT : P.underlying T = some (.map kT eT)) (k : κ) (ts : Array TypeId) (hts : ts[0]? = some T) (hts1 : ts[1]?.isSome = true) (ty : TypeId) :
    ∃ c' w', (Builtin.delete_ ts ty #[.map bo, kenc k]).run P w = .ok (.tuple #[]) w' ∧ MapC kenc vr bo (AL.del m k) c' ∧ Step w0 R0 L0 w' R (c' :: Lr) := by
  rcases h with ⟨rfl, rfl, rfl⟩ | ⟨b, es, ck, rfl, rfl, h3, h4⟩
  · refine ⟨non, w, ?_, .inl ⟨rfl, rfl, rfl⟩, hst⟩
    unfold Builtin.delete_
    simp [hts, run_underlying hT, K.check]
  · obtain ⟨es', hr, hm, hB⟩ := run_delete (w := w) K hT (hst.blk (i := 0) rfl) h3 h4 k ts hts ty
    exact ⟨_, _, hr, .inr ⟨b, es', ck, rfl, rfl, hm, hB⟩, hst.set0 _⟩

theorem MapC.made (b : Nat) : MapC kenc vr (some b) ([] : List (κ × β)) (one b (.map #[] 0)) := .inr ⟨b, #[], 0, rfl, rfl, .nil, Born.empty⟩

variable {ρ : Operand → Value} {o : Oper} {x y u : Operand} {v : Value}

theorem x_lookup {kv : Value} {ok : Bool} (ho : o.op = .lookup T x y ok) (hx : ρ x = .map bo) (hy : ρ y = kv) (h : (Instr.lookup T (.map bo) kv ok).run P w = .ok v w) :
    (execOp ρ o).run P w = .ok (.value v) w := by
  unfold execOp
  simp [ho, hx, hy, h]

theorem x_mapUpdate {kv vv : Value} {w' : World} (ho : o.op = .mapUpdate T x y u) (hx : ρ x = .map bo) (hy : ρ y = kv) (hu : ρ u = vv) (h : (Instr.mapUpdate T (.map bo) kv vv).run P w = .ok () w') :
    (execOp ρ o).run P w = .ok .skip w' := by
  unfold execOp
  simp [ho, hx, hy, hu, h]

theorem x_mapEntry {kv : Value} {w' : World} (ho : o.op = .mapEntry T x y) (hx : ρ x = .map bo) (hy : ρ y = kv) (h : (Instr.mapEntry T (.map bo) kv).run P w = .ok v w') :
    (execOp ρ o).run P w = .ok (.value v) w' := by
  unfold execOp
  simp [ho, hx, hy, h]

theorem x_entryStore {kv vv : Value} {w' : World} (ho : o.op = .entryStore T x y u) (hx : ρ x = .map bo) (hy : ρ y = kv) (hu : ρ u = vv) (h : (Instr.entryStore T (.map bo) kv vv).run P w = .ok () w') :
    (execOp ρ o).run P w = .ok .skip w' := by
  unfold execOp
  simp [ho, hx, hy, hu, h]

theorem x_delete {kv : Value} {w' : World} {ts : Array TypeId} (ho : o.op = .call { callee := .builtin .delete, args := #[x, y], argTypes := ts }) (hx : ρ x = .map bo) (hy : ρ y = kv)
    (h : (Builtin.delete_ ts o.type #[.map bo, kv]).run P w = .ok v w') : (execOp ρ o).run P w = .ok (.value v) w' := by
  unfold execOp
  simp [ho, resolve, hx, hy, invoke, builtin, h]
end
end Go.Fx
