/-
  Rows of one's own that are written; sorting by insertion, as plain law.
-/
import Derived.Test.YtjpdhfhiimbpgaaGreatDoorFx13
set_option linter.unusedSimpArgs false
set_option linter.unusedVariables false
set_option linter.unusedSectionVars false
namespace Go.Fx
open Go

section
variable {α : Type} {t : Ty α} {T b N : Nat} {R R0 : Hp} {xs : List α} {c : Hp} {w w0 : World} {L0 Lr : List Hp} {P : Program}

/-- The block b holds the row xs; behind it may lie more. -/
def Row (t : Ty α) (T b N : Nat) (R : Hp) (xs : List α) (c : Hp) : Prop := ∃ (cs rest : List Value), c = one b (.cells (cs ++ rest).toArray T (0, 0)) ∧ Encs t R xs cs ∧ (cs ++ rest).length = N

theorem Row.mono {R' : Hp} (h : Row t T b N R xs c) (l : Le R R') : Row t T b N R' xs c := by
  obtain ⟨cs, rest, e, h, hN⟩ := h
  exact ⟨cs, rest, e, h.mono l, hN⟩

theorem OwnL.row {v : Value} (h : OwnL t T R v xs c) (hne : 0 < xs.length) : ∃ b cap N, v = .slice (some ⟨b, 0, none⟩) xs.length cap ∧ xs.length ≤ cap ∧ Row t T b N R xs c ∧
    ∀ (R' : Hp) (ys : List α) (c' : Hp), ys.length = xs.length → Row t T b N R' ys c' → OwnL t T R' (.slice (some ⟨b, 0, none⟩) xs.length cap) ys c' := by
  obtain ⟨cells, h1, h2⟩ := h
  rcases h1 with ⟨rfl, hn, rfl, rfl⟩ | ⟨b, cap, cs, rfl, rfl, rfl, hc, hs, hm⟩
  · omega
  · refine ⟨b, cap, cs.size, rfl, hc, ⟨cs.toList.take (xs.length * t.sz), cs.toList.drop (xs.length * t.sz), by simp, h2, by simp⟩, ?_⟩
    rintro R' ys c' hl ⟨ds, rest, rfl, he, hN⟩
    refine ⟨ds, .inr ⟨b, cap, (ds ++ rest).toArray, by rw [hl], rfl, ?_, by omega, by rw [hs, ← hN]; simp, hm⟩, he⟩
    rw [← he.len]; simp

theorem Row.at (h : Row t T b N R xs c) (i : Nat) (hi : i < xs.length) : ∃ cl cs, t.rel R xs[i] cl ∧ c b = some (.cells cs T (0, 0)) ∧ seg cs (0 + i * t.sz) t.sz = cl := by
  obtain ⟨cs, rest, rfl, he, hN⟩ := h
  refine ⟨_, _, he.get i hi, one_self _ _, ?_⟩
  have hl := he.len
  have : (i + 1) * t.sz ≤ xs.length * t.sz := Nat.mul_le_mul_right _ hi
  rw [Nat.add_mul, Nat.one_mul] at this
  simp only [seg, Nat.zero_add]
  rw [List.drop_append, List.take_append, List.length_drop, Nat.sub_eq_zero_of_le (by omega), List.take_zero, List.append_nil]

theorem Row.store {agg : Bool} {bytes : Nat} {z v : Value} {eT : TypeId} (h : Row t T b N R xs c) (hst : Step w0 R0 L0 w R (c :: Lr)) (ti : TI P eT agg t.sz bytes z) (i : Nat) (hi : i < xs.length) {y : α} (hv : t.rel R y v.cells.toList) :
    ∃ c' w', (storeVar eT ⟨b, 0 + i * t.sz, none⟩ v).run P w = .ok () w' ∧ Row t T b N R (xs.set i y) c' ∧ Step w0 R0 L0 w' R (c' :: Lr) := by
  obtain ⟨cs, rest, rfl, he, hN⟩ := h
  have hl := he.len
  have h1 : (i + 1) * t.sz ≤ xs.length * t.sz := Nat.mul_le_mul_right _ hi
  rw [Nat.add_mul, Nat.one_mul] at h1
  have hvl := t.len hv
  have hb := hst.blk (i := 0) rfl
  have hr := run_storeVar (P := P) (v := v) ti (off := 0 + i * t.sz) hb (by simpa using hvl) (t.ones hv) (by simp; omega)
  have e : put (cs ++ rest).toArray (0 + i * t.sz) v.cells.toList = (cs.take (i * t.sz) ++ v.cells.toList ++ cs.drop (i * t.sz + t.sz) ++ rest).toArray := by
    simp only [put, Nat.zero_add, hvl]
    congr 1
    rw [List.take_append, List.drop_append, Nat.sub_eq_zero_of_le (by omega : i * t.sz ≤ cs.length), Nat.sub_eq_zero_of_le (by omega : i * t.sz + t.sz ≤ cs.length)]
    simp
  rw [e] at hr
  refine ⟨_, _, hr, ⟨_, rest, rfl, he.set i hi hv, ?_⟩, hst.set0 _⟩
  rw [← hN]
  simp
  have : v.cells.size = t.sz := by simpa using hvl
  omega
end

/-! ### Sorting by insertion -/
section
variable {α : Type}

/-- The first i + 1 stand in order, but for the one at j, which is less than all behind it. -/
def InsAt (le : α → α → Bool) (xs : List α) (i j : Nat) : Prop :=
  (∀ p q, p < q → q ≤ i → p ≠ j → q ≠ j → ∀ x y, xs[p]? = some x → xs[q]? = some y → le x y = true) ∧
  (∀ q, j < q → q ≤ i → ∀ x y, xs[j]? = some x → xs[q]? = some y → le x y = true)
def SortedTo (le : α → α → Bool) (xs : List α) (i : Nat) : Prop := ∀ p q, p < q → q < i → ∀ x y, xs[p]? = some x → xs[q]? = some y → le x y = true

theorem InsAt.start {le : α → α → Bool} {xs : List α} {i : Nat} (h : SortedTo le xs i) : InsAt le xs i i :=
  ⟨fun p q h1 h2 h3 h4 => h p q h1 (by omega), fun q h1 h2 => by omega⟩
theorem InsAt.stop0 {le : α → α → Bool} {xs : List α} {i : Nat} (h : InsAt le xs i 0) : SortedTo le xs (i + 1) := fun p q h1 h2 => by
  by_cases hp : p = 0
  · subst hp; exact h.2 q h1 (by omega)
  · exact h.1 p q h1 (by omega) hp (by omega)
theorem InsAt.stopz {le : α → α → Bool} {xs : List α} {i j : Nat} (h : InsAt le xs i j) (hj : j = 0) : SortedTo le xs (i + 1) := by
  subst hj
  exact h.stop0
theorem InsAt.stop {le : α → α → Bool} {xs : List α} {i j : Nat} (h : InsAt le xs i j) (hj : 0 < j) (hlen : j < xs.length) (trans : ∀ a b c, le a b = true → le b c = true → le a c = true)
    (hle : le (xs[j - 1]'(by omega)) xs[j] = true) : SortedTo le xs (i + 1) := fun p q h1 h2 x y hx hy => by
  by_cases hq : q = j
  · subst hq
    have hy' : xs[q] = y := by rw [List.getElem?_eq_getElem hlen] at hy; cases hy; rfl
    subst hy'
    by_cases hp : p = q - 1
    · subst hp
      have hx' : xs[q - 1]'(by omega) = x := by rw [List.getElem?_eq_getElem (by omega)] at hx; cases hx; rfl
      subst hx'
      exact hle
    · exact trans _ _ _ (h.1 p (q - 1) (by omega) (by omega) (by omega) (by omega) x _ hx (List.getElem?_eq_getElem (by omega))) hle
  · by_cases hp : p = j
    · subst hp; exact h.2 q h1 (by omega) x y hx hy
    · exact h.1 p q h1 (by omega) hp hq x y hx hy

theorem swap_get {xs : List α} {j : Nat} (hj : 0 < j) (hlen : j < xs.length) (k : Nat) :
    ((xs.set j (xs[j - 1]'(by omega))).set (j - 1) xs[j])[k]? = if k = j then xs[j - 1]? else if k = j - 1 then xs[j]? else xs[k]? := by
  rw [List.getElem?_set, List.getElem?_set]
  simp only [List.length_set]
  by_cases h1 : k = j
  · subst h1
    rw [if_neg (by omega), if_pos rfl, if_pos hlen, if_pos rfl, List.getElem?_eq_getElem (by omega)]
  · by_cases h2 : k = j - 1
    · subst h2
      rw [if_pos rfl, if_pos (by omega), if_neg h1, if_pos rfl, List.getElem?_eq_getElem hlen]
    · rw [if_neg (by omega), if_neg (by omega), if_neg h1, if_neg h2]

theorem InsAt.step {le : α → α → Bool} {xs : List α} {i j : Nat} (h : InsAt le xs i j) (hj : 0 < j) (hji : j ≤ i) (hlen : j < xs.length) (hle : le xs[j] (xs[j - 1]'(by omega)) = true) :
    InsAt le ((xs.set j (xs[j - 1]'(by omega))).set (j - 1) xs[j]) i (j - 1) := by
  refine ⟨fun p q h1 h2 h3 h4 x y hx hy => ?_, fun q h1 h2 x y hx hy => ?_⟩
  · rw [swap_get hj hlen] at hx hy
    rw [if_neg h3] at hx
    rw [if_neg h4] at hy
    by_cases hp : p = j
    · subst hp
      rw [if_pos rfl] at hx
      rw [if_neg (by omega)] at hy
      exact h.1 (p - 1) q (by omega) h2 (by omega) (by omega) x y hx hy
    · rw [if_neg hp] at hx
      by_cases hq : q = j
      · subst hq
        rw [if_pos rfl] at hy
        exact h.1 p (q - 1) (by omega) (by omega) hp (by omega) x y hx hy
      · rw [if_neg hq] at hy
        exact h.1 p q h1 h2 hp hq x y hx hy
  · rw [swap_get hj hlen] at hx hy
    rw [if_neg (by omega), if_pos rfl] at hx
    by_cases hq : q = j
    · subst hq
      rw [if_pos rfl] at hy
      rw [List.getElem?_eq_getElem hlen] at hx
      rw [List.getElem?_eq_getElem (by omega)] at hy
      cases hx
      cases hy
      exact hle
    · rw [if_neg hq, if_neg (by omega)] at hy
      exact h.2 q (by omega) h2 x y hx hy

theorem swap_perm {xs : List α} {j : Nat} (hj : 0 < j) (hlen : j < xs.length) : ((xs.set j (xs[j - 1]'(by omega))).set (j - 1) xs[j]).Perm xs := by
  obtain ⟨i, rfl⟩ : ∃ i, j = i + 1 := ⟨j - 1, by omega⟩
  simp only [Nat.add_sub_cancel]
  induction xs generalizing i with
  | nil => simp at hlen
  | cons a xs ih =>
    cases i with
    | zero =>
      cases xs with
      | nil => simp at hlen
      | cons b xs => simp; exact List.Perm.swap a b xs
    | succ i =>
      simp only [List.set_cons_succ, List.getElem_cons_succ]
      exact (ih i (by omega) (by simpa using hlen)).cons a

theorem SortedTo.pairwise {le : α → α → Bool} {xs : List α} (h : SortedTo le xs xs.length) : xs.Pairwise fun a b => le a b = true := by
  rw [List.pairwise_iff_getElem]
  intro i j hi hj hij
  exact h i j hij hj _ _ (List.getElem?_eq_getElem hi) (List.getElem?_eq_getElem hj)
theorem SortedTo.all {le : α → α → Bool} {xs : List α} {i : Nat} (h : SortedTo le xs i) (hi : xs.length ≤ i) : SortedTo le xs xs.length := fun p q h1 h2 => h p q h1 (by omega)
theorem SortedTo.one (le : α → α → Bool) (xs : List α) : SortedTo le xs 1 := fun p q h1 h2 => by omega

/-- Sorted lists of the same elements are the same. -/
theorem sorted_eq {le : α → α → Bool} {xs ys : List α} (trans : ∀ a b c, le a b = true → le b c = true → le a c = true) (total : ∀ a b, (le a b || le b a) = true) (anti : ∀ a b, le a b = true → le b a = true → a = b)
    (hs : xs.Pairwise fun a b => le a b = true) (hp : xs.Perm ys) : xs = ys.mergeSort le :=
  List.Perm.eq_of_pairwise (le := fun a b => le a b = true) (fun a b _ _ h1 h2 => anti a b h1 h2) hs (List.pairwise_mergeSort trans total ys) (hp.trans (List.mergeSort_perm ys le).symm)

def leZ (a b : Int) : Bool := decide (a ≤ b)
theorem leZ_trans : ∀ a b c, leZ a b = true → leZ b c = true → leZ a c = true := fun a b c h1 h2 => by simp only [leZ, decide_eq_true_eq] at *; omega
theorem leZ_total : ∀ a b, (leZ a b || leZ b a) = true := fun a b => by simp only [leZ, Bool.or_eq_true, decide_eq_true_eq]; omega
theorem leZ_anti : ∀ a b, leZ a b = true → leZ b a = true → a = b := fun a b h1 h2 => by simp only [leZ, decide_eq_true_eq] at *; omega
end

section
variable {ro : Option Nat} {P : Program} {n : Nat} {Q : QT} {σ : Fr} {w : World}
theorem W_loop_once {c : Code} (h : W ro P n c (thenQ (fun _ _ => False) Q) σ w) : W ro P n (.loop c) Q σ w :=
  W_loop (m := 0) (fun σ' w' _ => σ' = σ ∧ w' = w) ⟨rfl, rfl⟩ fun m σ' w' ⟨e1, e2⟩ => by
    subst e1; subst e2
    exact h.mono fun e σ w q => by cases e <;> first | exact q.elim | exact q
end

section
variable {w0 w w' : World} {R0 R R' : Hp} {L0 Lc : List Hp} {c : Hp}
/-- What a call that only reads has made is one's own. -/
theorem Step.gain (h : Step w0 R0 L0 w R Lc) (k : Step w (hp w) [] w' R' [c]) : Step w0 R0 L0 w' R (c :: Lc) :=
  h.own k.grow (k.get (i := 0) rfl) fun b hb => by
    rcases k.newL c (by simp) b hb with h1 | h1 | ⟨_, h1, _⟩
    · exact h1
    · rcases k.sats.rd c (by simp) b with e | e
      · cases eR : hp w b with
        | none => exact absurd eR h1
        | some o => rw [k.rle b o eR] at e; cases e
      · exact absurd e hb
    · cases h1
theorem Encs.reint {xs : List Int} {cs : List Value} (h : Encs Ty.int R xs cs) : Encs Ty.int R' xs cs := by
  induction h with
  | nil => exact .nil
  | cons hx _ ih => exact .cons hx ih
theorem OwnL.reint {T : Nat} {v : Value} {xs : List Int} (h : OwnL Ty.int T R v xs c) : OwnL Ty.int T R' v xs c := by
  obtain ⟨cells, h1, h2⟩ := h
  exact ⟨cells, h1, h2.reint⟩
end

/-- So many rounds, and then out. -/
def Unr (ro : Option Nat) (P : Program) (n : Nat) (c : Code) (Q : QT) : Nat → Fr → World → Prop
  | 0 => fun σ w => W ro P n c (thenQ (fun _ _ => False) Q) σ w
  | k + 1 => fun σ w => W ro P n c (thenQ (Unr ro P n c Q k) Q) σ w
theorem W_loop_unr {ro : Option Nat} {P : Program} {n : Nat} {c : Code} {Q : QT} {σ : Fr} {w : World} (k : Nat) (h : Unr ro P n c Q k σ w) : W ro P n (.loop c) Q σ w :=
  W_loop (m := k) (fun σ' w' m => Unr ro P n c Q m σ' w') h fun m σ' w' h' => by
    cases m with
    | zero => exact W.mono h' fun e σ w q => by cases e <;> first | exact q.elim | exact q
    | succ m => exact W.mono h' fun e σ w q => by cases e <;> first | exact ⟨m, Nat.lt_succ_self m, q⟩ | exact q

section
variable {P : Program} {n : Nat} {Q : QT} {σ : Fr} {w w0 : World} {ops : Array Oper} {S : World → Prop} {R0 R : Hp} {L0 Lc : List Hp} {K : Fr → World → Prop}
theorem One_new (hst : Step w0 R0 L0 w R Lc) {i : Nat} {o : Oper} {d : Nat} {ob : Obj} {v : Nat → Value} (hi : ops[i]? = some o) (hd : o.dst = some d) (hn : Nat.blt d n = true) (hw : Want ops σ o true)
    (hr : (execOp (ev σ) o).run P w = .ok (.value (v w.heap.size)) (push w ob)) (k : ∀ b w', Step w0 R0 L0 w' R (one b ob :: Lc) → S w' ∧ K (upd σ d (v b)) w') : One P n ops S Q i K σ w :=
  One_val hi hd hn hw hr (k _ _ (hst.push ob)).1 (k _ _ (hst.push ob)).2

theorem One_append (hst : Step w0 R0 L0 w R Lc) {α : Type} {ty : Ty α} {t e : TypeId} {bytes : Nat} {z v : Value} {agg : Bool} {j : Nat} {o : Oper} {d : Nat} {x y : Operand} {a : Addr} {m cap2 : Nat} {xs ys : List α} {src : List Value} {c : Hp} {L' : List Hp} (i : Nat)
    (hi' : ops[j]? = some o) (hd : o.dst = some d) (hn : Nat.blt d n = true) (hw : Want ops σ o true) (ho : o.op = .call { callee := .builtin .append, args := #[x, y], argTypes := #[t, t] }) (hx : ev σ x = v) (hy : ev σ y = .slice (some a) m cap2)
    (hu : SL P t e) (he : TI P e agg ty.sz bytes z) (hz : z.cells.size = ty.sz) (hi : Lc[i]? = some c) (hL : Lc.eraseIdx i = L') (how : OwnL ty e R v xs c) (hsrc : ∀ j u, src[j]? = some u → w.cell? (a.add j) = some u) (hsr : Encs ty R ys src)
    (hm : ys.length = m) (hroom : (xs.length + m) * bytes ≤ 2 ^ 47) (hmax : xs.length + m ≤ maxLen)
    (k : ∀ v' c' w', OwnL ty e R v' (xs ++ ys) c' → Step w0 R0 L0 w' R (c' :: L') → S w' ∧ K (upd σ d v') w') : One P n ops S Q j K σ w := by
  obtain ⟨cells, h1, h2⟩ := how
  subst hm
  obtain ⟨v', c', w', hr, ho', hst'⟩ := run_append (ty := o.type) (cap2 := cap2) hu he hz h1 (hst.front i hi hL) hsr.len hsrc hsr.ones hroom hmax
  have q := k v' c' w' ⟨cells ++ src, by simpa using ho', h2.append hsr⟩ hst'
  exact One_val hi' hd hn hw (x_append ho hx hy hr) q.1 q.2
end

theorem x_sub_nat {P : Program} {w : World} {ρ : Operand → Value} {o : Oper} {x y : Operand} {t yt : TypeId} {a b : Nat} (ho : o.op = .binOp .sub t x y yt) (hx : ρ x = int (a : Int)) (hy : ρ y = int (b : Int)) (h : b ≤ a) (h2 : a ≤ 9223372036854775807) :
    (execOp ρ o).run P w = .ok (.value (int ((a - b : Nat) : Int))) w := by
  have := x_sub (P := P) (w := w) ho hx hy (by constructor <;> omega)
  rw [this]
  have e : (a : Int) - b = ((a - b : Nat) : Int) := by omega
  rw [e]
end Go.Fx
