/-
  Rules for operations in one step each: new blocks, stores, calls; in plain regions and in regions that draw.
-/
import Derived.Test.YtjpdhfhiimbpgaaGreatDoorFx8
set_option linter.unusedSimpArgs false
set_option linter.unusedVariables false
set_option linter.unusedSectionVars false
namespace Go.Fx
open Go

section
variable {w0 w : World} {R0 R : Hp} {L0 Lc : List Hp}

theorem Step.keepN (h : Step w0 R0 L0 w R Lc) (k : Nat) {L' : List Hp} (e : Lc.take k = L') : Step w0 R0 L0 w R L' := by
  subst e
  have hs := h.sats
  have hm : ∀ c, c ∈ Lc.take k → c ∈ Lc := fun c hc => List.mem_of_mem_take hc
  exact ⟨⟨hs.r, fun c hc => hs.l c (hm c hc), hs.dj.sublist (List.take_sublist k Lc), fun c hc => hs.rd c (hm c hc)⟩, h.rle, h.os, h.tape, h.output, h.size, h.keep, h.newR, fun c hc => h.newL c (hm c hc)⟩

theorem Step.trans {w1 w2 : World} {R1 R2 : Hp} {L1 L2 : List Hp} (h : Step w0 R0 L0 w1 R1 L1) (k : Step w1 R1 L1 w2 R2 L2) : Step w0 R0 L0 w2 R2 L2 := by
  have := Step.call (La := L1) (Lb := []) (by simpa using h) k
  simpa using this

theorem Step.sats' (h : Step w0 R0 L0 w R Lc) : Sats w R Lc := h.sats
theorem Step.start (h : Step w0 R0 L0 w R Lc) : Step w R Lc w R Lc := Step.refl h.sats

variable {ro : Option Nat} {P : Program} {n : Nat} {Q : QT} {σ : Fr} {ops : Array Oper} {rest : List Oper} {o : Oper} {d : Nat}

/-- A new block. -/
theorem L_new (hst : Step w0 R0 L0 w R Lc) {ob : Obj} {v : Nat → Value} (hg : o.guard = none) (hd : o.dst = some d) (hn : Nat.blt d n = true)
    (hr : (execOp (ev σ) o).run P w = .ok (.value (v w.heap.size)) (push w ob)) (k : ∀ b w', Step w0 R0 L0 w' R (one b ob :: Lc) → L ro P n ops rest Q (upd σ d (v b)) w') : L ro P n ops (o :: rest) Q σ w :=
  L_val hg hd hn hr (k _ _ (hst.push ob))

/-- A store into a block of one's own. -/
theorem run_store1 (hst : Step w0 R0 L0 w R Lc) {t : TypeId} {agg : Bool} {sz bytes : Nat} {z v : Value} {x y : Operand} {b off : Nat} {cs cs' : Array Value} {T : TypeId} (i : Nat) {L' : List Hp} (ti : TI P t agg sz bytes z)
    (hi : Lc[i]? = some (one b (.cells cs T (0, 0)))) (ho : o.op = .store t x y) (hx : ev σ x = ptr b off) (hy : ev σ y = v) (hs : v.cells.size = sz) (h1 : v.cells.toList.all (·.oneCell') = true) (hf : Nat.ble (off + sz) cs.size = true)
    (hc : put cs off v.cells.toList = cs') (hL : Lc.set i (one b (.cells cs' T (0, 0))) = L') : ∃ w', (execOp (ev σ) o).run P w = .ok .skip w' ∧ Step w0 R0 L0 w' R L' := by
  subst hc
  have hr := run_storeVar (P := P) ti (hst.blk hi) hs h1 (Nat.le_of_ble_eq_true hf)
  exact ⟨_, x_store ho hx hy hr, hst.set hi _ hL⟩

theorem L_store (hst : Step w0 R0 L0 w R Lc) {t : TypeId} {agg : Bool} {sz bytes : Nat} {z v : Value} {x y : Operand} {b off : Nat} {cs cs' : Array Value} {T : TypeId} (i : Nat) {L' : List Hp} (ti : TI P t agg sz bytes z)
    (hg : o.guard = none) (hd : o.dst = none) (hi : Lc[i]? = some (one b (.cells cs T (0, 0)))) (ho : o.op = .store t x y) (hx : ev σ x = ptr b off) (hy : ev σ y = v) (hs : v.cells.size = sz) (h1 : v.cells.toList.all (·.oneCell') = true) (hf : Nat.ble (off + sz) cs.size = true)
    (hc : put cs off v.cells.toList = cs') (hL : Lc.set i (one b (.cells cs' T (0, 0))) = L') (k : ∀ w', Step w0 R0 L0 w' R L' → L ro P n ops rest Q σ w') : L ro P n ops (o :: rest) Q σ w := by
  obtain ⟨w', hr, hs'⟩ := run_store1 (P := P) hst i ti hi ho hx hy hs h1 hf hc hL
  exact L_skip hg hd hr (k _ hs')

/-- A call that leaves all that was there as it was, and gives v. -/
theorem L_callG (hst : Step w0 R0 L0 w R Lc) {f : FuncId} {args : Array Value} {v : Value} (hg : o.guard = none) (hd : o.dst = some d) (hn : Nat.blt d n = true)
    (hr : (execOp (ev σ) o).run P w = .ok (.enter f args) w) (hc : Calls P f args w fun e w' => e = .returned v ∧ Grow w w') (k : ∀ w', Step w0 R0 L0 w' R Lc → L ro P n ops rest Q (upd σ d v) w') :
    L ro P n ops (o :: rest) Q σ w :=
  L_call hg hd hn hr hc fun e w' ⟨he, hw⟩ => ⟨v, he, k w' (hst.grown hw)⟩

/-- What a call comes to: a value, read-only memory, pieces of its own. -/
def Comes' (w : World) (R : Hp) (La : List Hp) (post : Value → Hp → List Hp → Prop) : Ending → World → Prop :=
  fun e w' => ∃ v R' L', e = .returned v ∧ Step w R La w' R' L' ∧ post v R' L'

theorem L_callS (La Lb : List Hp) (hst : Step w0 R0 L0 w R (La ++ Lb)) {f : FuncId} {args : Array Value} {post : Value → Hp → List Hp → Prop} (hg : o.guard = none) (hd : o.dst = some d) (hn : Nat.blt d n = true)
    (hr : (execOp (ev σ) o).run P w = .ok (.enter f args) w) (hc : Calls P f args w (Comes' w R La post))
    (k : ∀ v w' R' L', post v R' L' → Le R R' → Step w0 R0 L0 w' R' (L' ++ Lb) → L ro P n ops rest Q (upd σ d v) w') : L ro P n ops (o :: rest) Q σ w :=
  L_call hg hd hn hr hc fun e w' ⟨v, R', L', he, hs, hp⟩ => ⟨v, he, k v w' R' L' hp hs.rle (hst.call hs)⟩

/-- append. -/
theorem L_append (hst : Step w0 R0 L0 w R Lc) {α : Type} {ty : Ty α} {t e : TypeId} {bytes : Nat} {z v : Value} {agg : Bool} {x y : Operand} {a : Addr} {m cap2 : Nat} {xs ys : List α} {src : List Value} {c : Hp} {L' : List Hp} (i : Nat)
    (hg : o.guard = none) (hd : o.dst = some d) (hn : Nat.blt d n = true) (ho : o.op = .call { callee := .builtin .append, args := #[x, y], argTypes := #[t, t] }) (hx : ev σ x = v) (hy : ev σ y = .slice (some a) m cap2)
    (hu : SL P t e) (he : TI P e agg ty.sz bytes z) (hz : z.cells.size = ty.sz) (hi : Lc[i]? = some c) (hL : Lc.eraseIdx i = L') (how : OwnL ty e R v xs c) (hsrc : ∀ j u, src[j]? = some u → w.cell? (a.add j) = some u) (hsr : Encs ty R ys src)
    (hm : ys.length = m) (hroom : (xs.length + m) * bytes ≤ 2 ^ 47) (hmax : xs.length + m ≤ maxLen)
    (k : ∀ v' c' w', OwnL ty e R v' (xs ++ ys) c' → Step w0 R0 L0 w' R (c' :: L') → L ro P n ops rest Q (upd σ d v') w') : L ro P n ops (o :: rest) Q σ w := by
  obtain ⟨cells, h1, h2⟩ := how
  subst hm
  obtain ⟨v', c', w', hr, ho', hst'⟩ := run_append (ty := o.type) (cap2 := cap2) hu he hz h1 (hst.front i hi hL) hsr.len hsrc hsr.ones hroom hmax
  exact L_val hg hd hn (x_append ho hx hy hr) (k v' c' w' ⟨cells ++ src, by simpa using ho', h2.append hsr⟩ hst')

/-- What is read of a slice literal that lies in a block of one's own. -/
theorem src_own {b : Nat} {cs : List Value} {T : TypeId} (h : w.heap[b]? = some (.cells cs.toArray T (0, 0))) : ∀ j u, cs[j]? = some u → w.cell? ((⟨b, 0, none⟩ : Addr).add j) = some u := by
  intro j u hj
  rw [add_zero_spot, cell_at h]
  simpa using hj

end
end Go.Fx
