/-
  Chapter 14: the reference profile in memory: spots in order, each with its exits.
-/
import Derived.Test.YtdkjoljcffkpkaaDoorPrJ
set_option linter.unusedSimpArgs false
set_option linter.unusedVariables false
set_option linter.unusedSectionVars false
namespace Go.Fx
open Go
section
variable {α : Type} {t : Ty α} {T b N : Nat} {R R0 : Hp} {xs : List α} {c : Hp} {w w0 : World} {L0 Lr : List Hp} {P : Program}
/-- A part of an element is written. -/
theorem Row.storeF {agg : Bool} {n bytes : Nat} {z v : Value} {eT : TypeId} (h : Row t T b N R xs c) (hst : Step w0 R0 L0 w R (c :: Lr)) (ti : TI P eT agg n bytes z) (i : Nat) (hi : i < xs.length) (fo : Nat) (hfo : fo + n ≤ t.sz) {y : α} {cl : List Value} (hx : ∀ c1, t.rel R xs[i] c1 → c1 = cl)
    (hvl : v.cells.toList.length = n) (hone : v.cells.toList.all (·.oneCell') = true) (hv : t.rel R y (cl.take fo ++ v.cells.toList ++ cl.drop (fo + n))) :
    ∃ c' w', (storeVar eT ⟨b, 0 + i * t.sz + fo, none⟩ v).run P w = .ok () w' ∧ Row t T b N R (xs.set i y) c' ∧ Step w0 R0 L0 w' R (c' :: Lr) := by
  obtain ⟨cs, rest, rfl, he, hN⟩ := h
  have hl := he.len
  have h1 : (i + 1) * t.sz ≤ xs.length * t.sz := Nat.mul_le_mul_right _ hi
  rw [Nat.add_mul, Nat.one_mul] at h1
  have hg := hx _ (he.get i hi)
  have hb := hst.blk (i := 0) rfl
  have hr := run_storeVar (P := P) (v := v) ti (off := 0 + i * t.sz + fo) hb (by simpa using hvl) hone (by simp; omega)
  have e : put (cs ++ rest).toArray (0 + i * t.sz + fo) v.cells.toList = (cs.take (i * t.sz) ++ (cl.take fo ++ v.cells.toList ++ cl.drop (fo + n)) ++ cs.drop (i * t.sz + t.sz) ++ rest).toArray := by
    simp only [put, Nat.zero_add, hvl]
    congr 1
    have a1 : (cs ++ rest).take (i * t.sz + fo) = cs.take (i * t.sz) ++ cl.take fo := by
      rw [List.take_append, Nat.sub_eq_zero_of_le (by omega : i * t.sz + fo ≤ cs.length), List.take_zero, List.append_nil, List.take_add, ← hg, List.take_take, Nat.min_eq_left (by omega)]
    have a2 : (cs ++ rest).drop (i * t.sz + fo + n) = cl.drop (fo + n) ++ cs.drop (i * t.sz + t.sz) ++ rest := by
      rw [List.drop_append, Nat.sub_eq_zero_of_le (by omega : i * t.sz + fo + n ≤ cs.length), List.drop_zero]
      congr 1
      rw [← hg]
      have : cs.drop (i * t.sz + fo + n) = ((cs.drop (i * t.sz)).drop (fo + n)) := by rw [List.drop_drop]; congr 1; omega
      rw [this]
      have e3 : cs.drop (i * t.sz) = (cs.drop (i * t.sz)).take t.sz ++ cs.drop (i * t.sz + t.sz) := by
        rw [← List.drop_drop, List.take_append_drop]
      have hlen : ((cs.drop (i * t.sz)).take t.sz).length = t.sz := by rw [List.length_take, List.length_drop]; omega
      conv => lhs; rw [e3]
      rw [List.drop_append, Nat.sub_eq_zero_of_le (by omega : fo + n ≤ _), List.drop_zero]
    rw [a1, a2]
    simp
  rw [e] at hr
  refine ⟨_, _, hr, ⟨_, rest, rfl, he.set i hi hv, ?_⟩, hst.set0 _⟩
  have hcl : cl.length = t.sz := by rw [← hg, List.length_take, List.length_drop]; omega
  rw [← hN]
  simp only [List.length_append, List.length_take, List.length_drop, hvl, hcl]
  omega
end
end Go.Fx
namespace Go.Fx.YtdkjoljcffkpkaaDoor
open Go Go.Fx Go.Proofs
set_option maxRecDepth 20000

structure Sp where
  pl : Pl
  r : Rec
  v : Value
def spCells (x : Sp) : List Value := [.int .i64 x.pl.1, .int .i64 x.pl.2, .int .i64 x.r.tier, .int .i64 x.r.calls, .int .i64 x.r.count, .int .i64 x.r.failures, x.v]
def tySp : Ty Sp where
  sz := 7
  rel _ x cs := cs = spCells x ∧ x.v.oneCell' = true
  mono _ h := h
  len h := by rw [h.1]; rfl
  ones h := by rw [h.1]; simp only [spCells, List.all_cons, h.2]; rfl
theorem tySp_open {R : Hp} {x : Sp} {c : List Value} (h : tySp.rel R x c) : c = [.int .i64 x.pl.1, .int .i64 x.pl.2, .int .i64 x.r.tier, .int .i64 x.r.calls, .int .i64 x.r.count, .int .i64 x.r.failures, x.v] := h.1
theorem tySp_fun {R : Hp} {x : Sp} : ∀ c, tySp.rel R x c → c = spCells x := fun c h => h.1
theorem tySp_mk {R : Hp} (x : Sp) (h : x.v.oneCell' = true) : tySp.rel R x (spCells x) := ⟨rfl, h⟩
theorem spOne {R : Hp} {v : Value} {xs : List (Int × Int)} {c : Hp} (h : OwnL (Ty.int.pair Ty.int) 110 R v xs c) : v.oneCell' = true := by
  obtain ⟨a, cap, rfl, _⟩ := h.value
  rfl
abbrev tyEx : Ty (Int × Int) := Ty.int.pair Ty.int
theorem tyEx_open {R : Hp} {x : Int × Int} {c : List Value} (h : tyEx.rel R x c) : c = [.int .i64 x.1, .int .i64 x.2] := by
  obtain ⟨c1, c2, rfl, e1, e2⟩ := h
  have h1 : c1 = [_] := e1
  have h2 : c2 = [_] := e2
  subst h1; subst h2
  rfl
theorem tyEx_mk {R : Hp} (a b : Int) : tyEx.rel R (a, b) [.int .i64 a, .int .i64 b] := ⟨[_], [_], rfl, rfl, rfl⟩
theorem Encs.resp {R R' : Hp} {xs : List Sp} {cs : List Value} (h : Encs tySp R xs cs) : Encs tySp R' xs cs := by
  induction h with
  | nil => exact .nil
  | cons hx _ ih => exact .cons hx ih

/-- The exits of the spots. -/
inductive Exs (R : Hp) : List Sp → Hp → Prop
  | nil : Exs R [] non
  | cons {x xs c1 c2} : OwnL tyEx 110 R x.v x.r.exits c1 → Exs R xs c2 → Dj c1 c2 → Exs R (x :: xs) (uni c1 c2)
theorem Exs.mono {R R' : Hp} {xs : List Sp} {c : Hp} (h : Exs R xs c) (l : Le R R') : Exs R' xs c := by
  induction h with
  | nil => exact .nil
  | cons h1 _ hd ih => exact .cons (h1.mono l) ih hd
theorem Exs.look {R : Hp} {xs : List Sp} {c : Hp} (h : Exs R xs c) (j : Nat) (hj : j < xs.length) :
    ∃ c1 c2, OwnL tyEx 110 R xs[j].v xs[j].r.exits c1 ∧ c = uni c1 c2 ∧ Dj c1 c2 ∧ ∀ R' y c1', Le R R' → OwnL tyEx 110 R' y.v y.r.exits c1' → Dj c1' c2 → Exs R' (xs.set j y) (uni c1' c2) := by
  induction h generalizing j with
  | nil => simp at hj
  | @cons x xs c1 c2 h1 h2 hd ih =>
    cases j with
    | zero => exact ⟨c1, c2, h1, rfl, hd, fun R' y c1' l hy hd' => .cons hy (h2.mono l) hd'⟩
    | succ j =>
      obtain ⟨c3, c4, h3, rfl, hd3, hk⟩ := ih j (by simpa using hj)
      have hd2 : Dj c1 c3 ∧ Dj c1 c4 := by
        have := Dj.of_uni_left hd.symm
        exact ⟨this.1.symm, this.2.symm⟩
      refine ⟨c3, uni c1 c4, h3, ?_, Dj.uni_r hd2.1.symm hd3, fun R' y c1' l hy hd' => ?_⟩
      · rw [← uni_assoc, uni_comm hd2.1, uni_assoc]
      · have k3 := Dj.of_uni_left hd'.symm
        have := Exs.cons (h1.mono l) (hk R' y c1' l hy k3.2.symm) (Dj.uni_r k3.1 hd2.2)
        rw [← uni_assoc, uni_comm k3.1, uni_assoc] at this
        simpa using this
theorem Exs.ins {R : Hp} {xs : List Sp} {c : Hp} (h : Exs R xs c) (j : Nat) {y : Sp} (hv : y.v = .slice none 0 0) (he : y.r.exits = []) : Exs R (xs.take j ++ y :: xs.drop j) c := by
  have hy : OwnL tyEx 110 R y.v y.r.exits non := by rw [hv, he]; exact OwnL.empty _ _ _
  induction h generalizing j with
  | nil => have := Exs.cons hy .nil (Dj.non_r non); rw [non_uni] at this; simpa using this
  | @cons x xs c1 c2 h1 h2 hd ih =>
    cases j with
    | zero => have := Exs.cons hy (Exs.cons h1 h2 hd) (fun b => .inl rfl); rw [non_uni] at this; simpa using this
    | succ j => exact Exs.cons h1 (ih j) hd

/-! ### Order -/
def bef (a b : Pl) : Bool := decide (a.1 < b.1) || (a.1 == b.1 && decide (a.2 < b.2))
theorem bef_iff {a b : Pl} : bef a b = true ↔ a.1 < b.1 ∨ (a.1 = b.1 ∧ a.2 < b.2) := by simp [bef]
theorem bef_irr {a : Pl} : bef a a = false := by
  rw [← Bool.not_eq_true, bef_iff]; omega
theorem bef_trans {a b c : Pl} (h : bef a b = true) (g : bef b c = true) : bef a c = true := by
  rw [bef_iff] at *; omega
theorem bef_total {a b : Pl} (h : bef a b = false) (hne : a ≠ b) : bef b a = true := by
  rw [← Bool.not_eq_true, bef_iff] at h
  rw [bef_iff]
  have : ¬ (a.1 = b.1 ∧ a.2 = b.2) := fun ⟨h1, h2⟩ => hne (Prod.ext h1 h2)
  omega
def SrtS (xs : List Sp) : Prop := xs.Pairwise fun a b => bef a.pl b.pl = true
def spAL (xs : List Sp) : List (Pl × Rec) := xs.map fun x => (x.pl, x.r)
def pos : List Sp → Pl → Nat
  | [], _ => 0
  | x :: xs, k => if bef x.pl k = true then pos xs k + 1 else 0
def thr (xs : List Sp) (k : Pl) : Bool := match xs[pos xs k]? with
  | none => false
  | some x => x.pl.1 == k.1 && x.pl.2 == k.2
theorem pos_le (xs : List Sp) (k : Pl) : pos xs k ≤ xs.length := by
  induction xs with
  | nil => exact Nat.le_refl _
  | cons x xs ih => simp only [pos]; split <;> simp <;> omega
theorem pos_drop {xs : List Sp} {k : Pl} {i : Nat} (hi : i < xs.length) (h : bef xs[i].pl k = true) : pos (xs.drop i) k = pos (xs.drop (i + 1)) k + 1 := by
  rw [List.drop_eq_getElem_cons hi]
  simp only [pos]
  rw [if_pos h]
theorem pos_stop {xs : List Sp} {k : Pl} {i : Nat} (hi : i < xs.length) (h : bef xs[i].pl k = false) : pos (xs.drop i) k = 0 := by
  rw [List.drop_eq_getElem_cons hi]
  simp only [pos]
  rw [if_neg (by rw [h]; decide)]
theorem pos_end {xs : List Sp} {k : Pl} {i : Nat} (hi : xs.length ≤ i) : pos (xs.drop i) k = 0 := by
  rw [List.drop_eq_nil_of_le hi]; rfl
theorem thr_no {xs : List Sp} {k : Pl} {i : Nat} (hp : pos xs k = i) (hi : xs.length ≤ i) : thr xs k = false := by
  unfold thr; rw [hp, List.getElem?_eq_none hi]
theorem thr_at {xs : List Sp} {k : Pl} {i : Nat} (hp : pos xs k = i) (hi : i < xs.length) : thr xs k = (xs[i].pl.1 == k.1 && xs[i].pl.2 == k.2) := by
  unfold thr; rw [hp, List.getElem?_eq_getElem hi]
theorem thr_yes {xs : List Sp} {k : Pl} (h : thr xs k = true) : ∃ hp : pos xs k < xs.length, (xs[pos xs k]).pl = k := by
  unfold thr at h
  cases e : xs[pos xs k]? with
  | none => rw [e] at h; cases h
  | some x =>
    rw [e] at h
    obtain ⟨hp, he⟩ := List.getElem?_eq_some_iff.1 e
    refine ⟨hp, ?_⟩
    rw [he]
    simp only [Bool.and_eq_true, beq_iff_eq] at h
    exact Prod.ext h.1 h.2
theorem thr_cons {x : Sp} {xs : List Sp} {k : Pl} (h : bef x.pl k = true) : thr (x :: xs) k = thr xs k := by
  unfold thr
  simp only [pos]
  rw [if_pos h, List.getElem?_cons_succ]
theorem thr_cons0 {x : Sp} {xs : List Sp} {k : Pl} (h : bef x.pl k = false) : thr (x :: xs) k = (x.pl.1 == k.1 && x.pl.2 == k.2) := by
  unfold thr
  simp only [pos]
  rw [if_neg (by rw [h]; decide)]
  rfl
theorem get_after {xs : List Sp} {k : Pl} (h : ∀ x ∈ xs, bef k x.pl = true) : AL.get (spAL xs) k = none := by
  induction xs with
  | nil => rfl
  | cons x xs ih =>
    have h1 := h x (by simp)
    have hne : x.pl ≠ k := by rintro rfl; rw [bef_irr] at h1; cases h1
    simp only [spAL, List.map_cons, AL.get, hne, if_false]
    exact ih fun y hy => h y (by simp [hy])
theorem get_nthr {xs : List Sp} {k : Pl} (hs : SrtS xs) (h : thr xs k = false) : AL.get (spAL xs) k = none := by
  induction xs with
  | nil => rfl
  | cons x xs ih =>
    have hs' := List.pairwise_cons.1 hs
    by_cases hb : bef x.pl k = true
    · rw [thr_cons hb] at h
      have hne : x.pl ≠ k := by rintro rfl; rw [bef_irr] at hb; cases hb
      simp only [spAL, List.map_cons, AL.get, hne, if_false]
      exact ih hs'.2 h
    · have hb := Bool.not_eq_true _ ▸ hb
      rw [thr_cons0 hb] at h
      have hne : x.pl ≠ k := by rintro rfl; simp at h
      have hk := bef_total hb hne
      exact get_after fun y hy => by
        rcases List.mem_cons.1 hy with rfl | hy
        · exact hk
        · exact bef_trans hk (hs'.1 y hy)
theorem get_at {xs : List Sp} (hs : SrtS xs) (j : Nat) (hj : j < xs.length) : AL.get (spAL xs) xs[j].pl = some xs[j].r := by
  induction xs generalizing j with
  | nil => simp at hj
  | cons x xs ih =>
    have hs' := List.pairwise_cons.1 hs
    cases j with
    | zero => simp [spAL, AL.get]
    | succ j =>
      have hj' : j < xs.length := by simpa using hj
      have hb := hs'.1 xs[j] (List.getElem_mem _)
      have hne : x.pl ≠ xs[j].pl := by intro e; rw [e, bef_irr] at hb; cases hb
      simp only [List.getElem_cons_succ, spAL, List.map_cons, AL.get, hne, if_false]
      exact ih hs'.2 j hj'
theorem set_get {xs : List Sp} (hs : SrtS xs) {j : Nat} (hj : j < xs.length) {y : Sp} (hy : y.pl = xs[j].pl) :
    SrtS (xs.set j y) ∧ ∀ i, AL.get (spAL (xs.set j y)) i = if y.pl = i then some y.r else AL.get (spAL xs) i := by
  induction xs generalizing j with
  | nil => simp at hj
  | cons x xs ih =>
    have hs' := List.pairwise_cons.1 hs
    cases j with
    | zero =>
      simp only [List.getElem_cons_zero] at hy
      refine ⟨?_, fun i => ?_⟩
      · show SrtS (y :: xs)
        exact List.pairwise_cons.2 ⟨fun z hz => by rw [hy]; exact hs'.1 z hz, hs'.2⟩
      · simp only [List.set_cons_zero, spAL, List.map_cons, AL.get, ← hy]
        split <;> rfl
    | succ j =>
      have hj' : j < xs.length := by simpa using hj
      simp only [List.getElem_cons_succ] at hy
      obtain ⟨h1, h2⟩ := ih hs'.2 hj' hy
      have hb := hs'.1 xs[j] (List.getElem_mem _)
      refine ⟨?_, fun i => ?_⟩
      · refine List.pairwise_cons.2 ⟨fun z hz => ?_, h1⟩
        rcases List.mem_or_eq_of_mem_set hz with hz | rfl
        · exact hs'.1 z hz
        · rw [hy]; exact hb
      · simp only [List.set_cons_succ, spAL, List.map_cons, AL.get]
        by_cases e : x.pl = i
        · rw [if_pos e, if_pos e, if_neg]
          rw [hy, ← e]
          intro e'
          rw [e', bef_irr] at hb; cases hb
        · rw [if_neg e, if_neg e]
          exact h2 i
theorem ins_get {xs : List Sp} (hs : SrtS xs) {k : Pl} (ht : thr xs k = false) {y : Sp} (hy : y.pl = k) :
    SrtS (xs.take (pos xs k) ++ y :: xs.drop (pos xs k)) ∧ ∀ i, AL.get (spAL (xs.take (pos xs k) ++ y :: xs.drop (pos xs k))) i = if k = i then some y.r else AL.get (spAL xs) i := by
  induction xs with
  | nil =>
    refine ⟨by simp [SrtS, pos], fun i => ?_⟩
    simp [pos, spAL, AL.get, hy]
  | cons x xs ih =>
    have hs' := List.pairwise_cons.1 hs
    by_cases hb : bef x.pl k = true
    · rw [thr_cons hb] at ht
      obtain ⟨h1, h2⟩ := ih hs'.2 ht
      have hp : pos (x :: xs) k = pos xs k + 1 := by simp only [pos]; rw [if_pos hb]
      rw [hp]
      refine ⟨?_, fun i => ?_⟩
      · refine List.pairwise_cons.2 ⟨fun z hz => ?_, h1⟩
        rcases List.mem_append.1 hz with hz | hz
        · exact hs'.1 z (List.mem_of_mem_take hz)
        · rcases List.mem_cons.1 hz with rfl | hz
          · rw [hy]; exact hb
          · exact hs'.1 z (List.mem_of_mem_drop hz)
      · simp only [List.take_succ_cons, List.drop_succ_cons, List.cons_append, spAL, List.map_cons, AL.get]
        by_cases e : x.pl = i
        · rw [if_pos e, if_pos e, if_neg]
          rintro rfl
          rw [e, bef_irr] at hb; cases hb
        · rw [if_neg e, if_neg e]
          exact h2 i
    · have hb := Bool.not_eq_true _ ▸ hb
      rw [thr_cons0 hb] at ht
      have hne : x.pl ≠ k := by rintro rfl; simp at ht
      have hk := bef_total hb hne
      have hp : pos (x :: xs) k = 0 := by simp only [pos]; rw [if_neg (by rw [hb]; decide)]
      rw [hp]
      refine ⟨?_, fun i => ?_⟩
      · show SrtS (y :: x :: xs)
        refine List.pairwise_cons.2 ⟨fun z hz => ?_, hs⟩
        rw [hy]
        rcases List.mem_cons.1 hz with rfl | hz
        · exact hk
        · exact bef_trans hk (hs'.1 z hz)
      · simp only [List.take_zero, List.drop_zero, List.nil_append, spAL, List.map_cons, AL.get, hy]

/-! ### The whole -/
abbrev refB (m : Nat) (s : PS) (vL vD : Value) : Hp := one m (.cells #[.int .i64 s.sample, .int .i64 s.warm, .int .i64 s.hot, .int .i64 s.cold, vL, vD] 41 (0, 0))
def Agr (xs : List Sp) (s : PS) : Prop := ∀ k, AL.get (spAL xs) k = AL.get s.recs k
def RefP (R : Hp) (m : Nat) (s : PS) (c : Hp) : Prop :=
  ∃ xs vL vD cL cX cD, c = uni (refB m s vL vD) (tri cL cX cD) ∧ Dj (refB m s vL vD) (tri cL cX cD) ∧ Dj cL (uni cX cD) ∧ Dj cX cD ∧
    OwnL tySp 96 R vL xs cL ∧ Exs R xs cX ∧ OwnL tyDec 99 R vD s.decs cD ∧ SrtS xs ∧ Agr xs s ∧ xs.length ≤ s.n ∧ s.Ok
section
variable {w w0 : World} {L0 Lr : List Hp} {R0 R : Hp} {m : Nat} {s : PS} {vL vD : Value} {cL cX cD : Hp} {xs : List Sp}
theorem RefP.opened (h : Step w0 R0 L0 w R (uni (refB m s vL vD) (tri cL cX cD) :: Lr)) (h1 : Dj (refB m s vL vD) (tri cL cX cD)) (h2 : Dj cL (uni cX cD)) (h3 : Dj cX cD) :
    Step w0 R0 L0 w R (refB m s vL vD :: cL :: cX :: cD :: Lr) :=
  (((h.split h1).front 1 rfl rfl).split3 h2 h3).front 3 rfl rfl
theorem RefP.close (h : Step w0 R0 L0 w R (refB m s vL vD :: cL :: cX :: cD :: Lr)) (hL : OwnL tySp 96 R vL xs cL) (hX : Exs R xs cX) (hD : OwnL tyDec 99 R vD s.decs cD) (hs : SrtS xs) (ha : Agr xs s) (hn : xs.length ≤ s.n) (hok : s.Ok) :
    ∃ c, Step w0 R0 L0 w R (c :: Lr) ∧ RefP R m s c := by
  obtain ⟨h1, d1, d2⟩ := (((h.front 3 rfl rfl).front 3 rfl rfl).front 3 rfl rfl).join3
  have h2 := h1.front 1 rfl rfl
  have d3 := (List.pairwise_cons.1 h2.sats.dj).1 _ (List.mem_cons_self ..)
  exact ⟨_, h2.join, xs, vL, vD, cL, cX, cD, rfl, d3, d1, d2, hL, hX, hD, hs, ha, hn, hok⟩
/-- With the exits of one spot apart. -/
theorem RefP.closeE {cE c2 : Hp} {v : Value} {ex : List (Int × Int)} (h : Step w0 R0 L0 w R (refB m s vL vD :: cL :: cE :: c2 :: cD :: Lr)) (hL : OwnL tySp 96 R vL xs cL) (hE : OwnL tyEx 110 R v ex cE) (hb : ∀ c1, OwnL tyEx 110 R v ex c1 → Dj c1 c2 → Exs R xs (uni c1 c2))
    (hD : OwnL tyDec 99 R vD s.decs cD) (hs : SrtS xs) (ha : Agr xs s) (hn : xs.length ≤ s.n) (hok : s.Ok) :
    ∃ c, Step w0 R0 L0 w R (c :: Lr) ∧ RefP R m s c := by
  have h1 := (h.front 3 rfl rfl).front 3 rfl rfl
  have d1 := (List.pairwise_cons.1 h1.sats.dj).1 _ (List.mem_cons_self ..)
  have h2 := h1.join
  exact RefP.close ((h2.front 2 rfl rfl).front 2 rfl rfl) hL (hb _ hE d1) hD hs ha hn hok
end
theorem RefP.lift {R R' : Hp} {m : Nat} {s : PS} {c : Hp} (h : RefP R m s c) (l : Le R R') : RefP R' m s c := by
  obtain ⟨xs, vL, vD, cL, cX, cD, e, h1, h2, h3, h4, h5, h6, h7, h8, h9, h10⟩ := h
  exact ⟨xs, vL, vD, cL, cX, cD, e, h1, h2, h3, h4.mono l, h5.mono l, h6.mono l, h7, h8, h9, h10⟩
theorem Agr.put {xs xs' : List Sp} {s : PS} {k : Pl} {r : Rec} (h : ∀ i, AL.get (spAL xs') i = if k = i then some r else AL.get (spAL xs) i) (a : Agr xs s) : Agr xs' (s.put k r) := by
  intro i
  rw [h, a i]
  simp only [PS.put, AL.get_set]
theorem Agr.decide {xs xs' : List Sp} {s : PS} {k : Pl} {r : Rec} {t : Int} {b : ByteArray} (h : ∀ i, AL.get (spAL xs') i = if k = i then some { r with tier := t } else AL.get (spAL xs) i) (a : Agr xs s) : Agr xs' (s.decide k r t b) := by
  intro i
  rw [h, a i]
  simp only [PS.decide, AL.get_set]
theorem RefP.start {w w0 : World} {L0 Lr : List Hp} {R0 R : Hp} {m : Nat} {s : PS} (hr : s.recs = []) (hd : s.decs = []) (hok : s.Ok) (h : Step w0 R0 L0 w R (refB m s (.slice none 0 0) (.slice none 0 0) :: Lr)) : ∃ c, Step w0 R0 L0 w R (c :: Lr) ∧ RefP R m s c := by
  have h3 := ((h.nothing.nothing.nothing).front 3 rfl rfl)
  refine RefP.close h3 (OwnL.empty _ _ _) .nil (by rw [hd]; exact OwnL.empty _ _ _) List.Pairwise.nil (fun k => by rw [hr]; rfl) (Nat.zero_le _) hok
theorem Exs.same {R : Hp} {xs : List Sp} {c : Hp} (h : Exs R xs c) {j : Nat} (hj : j < xs.length) {y : Sp} (hv : y.v = xs[j].v) (he : y.r.exits = xs[j].r.exits) : Exs R (xs.set j y) c := by
  obtain ⟨c1, c2, h1, rfl, hd, hk⟩ := h.look j hj
  exact hk R y c1 (Le.refl _) (by rw [hv, he]; exact h1) hd
theorem Agr.putSame {xs : List Sp} {s : PS} {k : Pl} {r : Rec} (a : Agr xs s) (h : AL.get s.recs k = some r) : Agr xs (s.put k r) := by
  intro i
  rw [a i]
  simp only [PS.put, AL.get_set]
  split
  · rename_i e; rw [← e, h]
  · rfl
theorem thr_open {xs : List Sp} {k : Pl} {s : PS} (h : thr xs k = true) (hs : SrtS xs) (ha : Agr xs s) : ∃ (hj : pos xs k < xs.length) (r : Rec) (v : Value), xs[pos xs k] = ⟨k, r, v⟩ ∧ AL.get s.recs k = some r ∧
    ∀ y : Sp, y.pl = k → SrtS (xs.set (pos xs k) y) ∧ ∀ i, AL.get (spAL (xs.set (pos xs k) y)) i = if k = i then some y.r else AL.get (spAL xs) i := by
  obtain ⟨hj, hp⟩ := thr_yes h
  refine ⟨hj, (xs[pos xs k]).r, (xs[pos xs k]).v, ?_, ?_, fun y hy => ?_⟩
  · generalize xs[pos xs k] = x at hp
    obtain ⟨p, r, v⟩ := x
    simp only at hp
    rw [hp]
  · rw [← ha k]
    exact (congrArg (AL.get (spAL xs)) hp.symm).trans (get_at hs _ hj)
  · have := set_get hs hj (y := y) (by rw [hy, hp])
    rw [hy] at this
    exact this
def ins (xs : List Sp) (k : Pl) : List Sp := xs.take (pos xs k) ++ (⟨k, rec0, .slice none 0 0⟩ : Sp) :: xs.drop (pos xs k)
theorem ins_open {xs : List Sp} {k : Pl} {s : PS} (h : thr xs k = false) (hs : SrtS xs) (ha : Agr xs s) : ∃ (xs2 : List Sp) (r : Rec), xs2 = ins xs k ∧ r = rec0 ∧ ∃ hj : pos xs k < xs2.length, xs2[pos xs k] = ⟨k, r, .slice none 0 0⟩ ∧ s.rc k = r ∧ xs2.length = xs.length + 1 ∧
    ∀ y : Sp, y.pl = k → SrtS (xs2.set (pos xs k) y) ∧ ∀ i, AL.get (spAL (xs2.set (pos xs k) y)) i = if k = i then some y.r else AL.get (spAL xs) i := by
  have hp := pos_le xs k
  have hl : (ins xs k).length = xs.length + 1 := by
    unfold ins
    simp only [List.length_append, List.length_take, List.length_cons, List.length_drop]
    omega
  have hj : pos xs k < (ins xs k).length := by omega
  have hx : (ins xs k)[pos xs k] = ⟨k, rec0, .slice none 0 0⟩ := by
    have hg : (ins xs k)[pos xs k]? = some ⟨k, rec0, .slice none 0 0⟩ := by
      unfold ins
      rw [List.getElem?_append_right (by rw [List.length_take]; omega), List.length_take, Nat.min_eq_left hp, Nat.sub_self]
      rfl
    exact (List.getElem?_eq_some_iff.1 hg).2
  refine ⟨_, _, rfl, rfl, hj, hx, PS.rc_none (by rw [← ha k]; exact get_nthr hs h), hl, fun y hy => ?_⟩
  obtain ⟨h1, h2⟩ := ins_get hs h (y := ⟨k, rec0, .slice none 0 0⟩) rfl
  have h3 := set_get (xs := ins xs k) h1 hj (y := y) (by rw [hx]; exact hy)
  refine ⟨h3.1, fun i => ?_⟩
  rw [h3.2 i, hy]
  by_cases e : k = i
  · rw [if_pos e, if_pos e]
  · rw [if_neg e, if_neg e]
    have := h2 i
    rw [if_neg e] at this
    exact this
theorem tySp_is {R : Hp} {x : Sp} {cs : List Value} (h : cs = spCells x) (h2 : x.v.oneCell' = true) : tySp.rel R x cs := ⟨h, h2⟩

/-! ### Texts -/
theorem joinW1 (t : ByteArray) : joinW [.s t] = t := by
  unfold joinW
  simp only [List.map_cons, List.map_nil, Wd.txt, Lib.join, List.intercalate_singleton]
theorem ba_ext {a b : ByteArray} (h : a.data.toList = b.data.toList) : a = b := by
  obtain ⟨a⟩ := a
  obtain ⟨b⟩ := b
  exact congrArg ByteArray.mk (Array.toList_inj.1 h)
theorem app_list (a b : ByteArray) : (a ++ b).data.toList = a.data.toList ++ b.data.toList := by simp
theorem dec2 (a : ByteArray) (n : Int) : (a ++ ⟨#[32]⟩) ++ (Wd.i n).txt = joinW [.s a, .i n] := by
  apply ba_ext
  rw [app_list, app_list]
  unfold joinW
  simp [Lib.join, Wd.txt, List.intercalate]
theorem dec5 (a b c : ByteArray) (n m : Int) : ((((a ++ ⟨#[32]⟩) ++ (Wd.i n).txt) ++ (⟨#[32]⟩ ++ (b ++ ⟨#[32]⟩))) ++ (Wd.i m).txt) ++ (⟨#[32]⟩ ++ c) = joinW [.s a, .i n, .s b, .i m, .s c] := by
  apply ba_ext
  simp only [app_list]
  unfold joinW
  simp [Lib.join, Wd.txt, List.intercalate]
theorem dec_warm (n : Int) : (⟨#[119, 97, 114, 109, 32]⟩ : ByteArray) ++ (Wd.i n).txt = joinW [.s wWarm, .i n] := by rw [← dec2]; rfl
theorem dec_hot (n : Int) : (⟨#[104, 111, 116, 32]⟩ : ByteArray) ++ (Wd.i n).txt = joinW [.s wHot, .i n] := by rw [← dec2]; rfl
theorem dec_error (n : Int) : (⟨#[101, 114, 114, 111, 114, 32]⟩ : ByteArray) ++ (Wd.i n).txt = joinW [.s wError, .i n] := by rw [← dec2]; rfl
theorem dec_exit (n m : Int) : ((((⟨#[101, 120, 105, 116, 32]⟩ : ByteArray) ++ (Wd.i n).txt) ++ ⟨#[32, 108, 101, 102, 116, 32]⟩) ++ (Wd.i m).txt) ++ ⟨#[32, 116, 105, 109, 101, 115]⟩ = joinW [.s wExit, .i n, .s wLeft, .i m, .s wTimes] := by
  rw [← dec5]; rfl
theorem ret_bool {a b : Bool} (h : a = b) : Ending.returned (retV [.bool a]) = .returned (.bool b) := by subst h; rfl
theorem dec_room {n : Nat} {c : UInt8} (h : n ≤ 1000000000) : (Wd.i (n : Int)).txt.size + (⟨#[c]⟩ : ByteArray).size ≤ 4611686018427387904 := by
  have := txt_i_le (n := (n : Int)) (by constructor <;> omega)
  have : (⟨#[c]⟩ : ByteArray).size = 1 := rfl
  omega
theorem size_app_le {a b : ByteArray} {n m : Nat} (h : a.size ≤ n) (k : b.size ≤ m) : (a ++ b).size ≤ n + m := by rw [size_append]; omega
theorem room_le {a b : ByteArray} {n m : Nat} (h : a.size ≤ n) (k : b.size ≤ m) (l : n + m ≤ 4611686018427387904) : a.size + b.size ≤ 4611686018427387904 := by omega
/-! ### Numbers in decimal -/
theorem itoa_small {n : Nat} (h : n < 10) : (Wd.i (n : Int)).txt = ⟨#[(48 + n).toUInt8]⟩ := by
  apply ba_ext
  simp only [Wd.txt, Lib.itoa_nonneg]
  have : n = 0 ∨ n = 1 ∨ n = 2 ∨ n = 3 ∨ n = 4 ∨ n = 5 ∨ n = 6 ∨ n = 7 ∨ n = 8 ∨ n = 9 := by omega
  rcases this with rfl | rfl | rfl | rfl | rfl | rfl | rfl | rfl | rfl | rfl <;> (rw [Lib.decDigits]; rfl)
theorem itoa_big {n d : Nat} (h : ¬ n < 10) (hd : n % 10 = d) : (Wd.i (n : Int)).txt = (Wd.i ((n / 10 : Nat) : Int)).txt ++ ⟨#[(48 + d).toUInt8]⟩ := by
  apply ba_ext
  rw [app_list]
  simp only [Wd.txt, Lib.itoa_nonneg]
  rw [Lib.decDigits, dif_neg h, hd]
end Go.Fx.YtdkjoljcffkpkaaDoor
namespace Go.Fx
open Go
section
variable {α : Type} {ty : Ty α} {P : Program} {w w0 : World} {R R0 : Hp} {L0 Lr : List Hp} {t e : TypeId} {agg : Bool} {sz bytes : Nat} {z v y : Value} {xs ys : List α} {c : Hp}
theorem run_sliceLo {k len cap : Nat} {a : Option Addr} (hu : SL P t e) (he : TI P e agg sz bytes z) (hk : k ≤ len) (hc : len ≤ cap) :
    (Instr.slice t (.slice a len cap) (some (int (k : Int))) none none).run P w = .ok (.slice (if cap = k then a else a.map (·.add (k * sz))) (len - k) (cap - k)) w := by
  unfold Instr.slice
  simp only [Sem.run_bind, run_underlying hu, Result.andThen_ok]
  have h1 : ∀ b, k ≤ b → (Instr.sliceBound (int (k : Int)) b .sliceB).run P w = .ok k w := by
    intro b hb
    unfold Instr.sliceBound
    simp [asIntOf, hb]
  have h2 : (Instr.sliceBounds true len cap (some (int (k : Int))) none none).run P w = .ok (k, len, cap) w := by
    unfold Instr.sliceBounds
    simp [h1 _ hk]
  simp only [h2, Result.andThen_ok, he.run_size, Sem.run_pure, Sem.run_bind]
theorem RdS.dropK {k cap : Nat} {a : Option Addr} (h : RdS ty R (.slice a xs.length cap) xs) (hk : k ≤ xs.length) : RdS ty R (.slice (if cap = k then a else a.map (·.add (k * ty.sz))) (xs.length - k) (cap - k)) (xs.drop k) := by
  obtain ⟨a', cap', e, hc, h⟩ := h
  cases e
  refine ⟨_, _, by rw [List.length_drop], by rw [List.length_drop]; omega, fun hne => ?_⟩
  have hlt : k < xs.length := by
    rcases Nat.lt_or_ge k xs.length with h1 | h1
    · exact h1
    · exact absurd (List.drop_eq_nil_of_le h1) hne
  have hx : xs ≠ [] := by rintro rfl; simp at hlt
  obtain ⟨b, off, cs, T, fz, rfl, hb, he⟩ := h hx
  refine ⟨b, off + k * ty.sz, cs, T, fz, by rw [if_neg (by omega)]; simp [Addr.add], hb, ?_⟩
  have h2 := he.drop k
  have e : (seg cs off (xs.length * ty.sz)).drop (k * ty.sz) = seg cs (off + k * ty.sz) ((xs.drop k).length * ty.sz) := by
    simp only [seg, List.length_drop, List.drop_take, List.drop_drop]
    rw [Nat.mul_sub_right_distrib]
  rw [e] at h2
  exact h2
theorem RdS.takeK {k cap : Nat} {a : Option Addr} (h : RdS ty R (.slice a xs.length cap) xs) (hk : k ≤ xs.length) : RdS ty R (.slice a k cap) (xs.take k) := by
  obtain ⟨a', cap', e, hc, h'⟩ := h.take k hk
  cases e
  exact h'
/-- append of what is read now. -/
theorem run_appendR {tt : TypeId} (hu : SL P t e) (he : TI P e agg ty.sz bytes z) (hz : z.cells.size = ty.sz) (how : OwnL ty e R v xs c) (hst : Step w0 R0 L0 w R (c :: Lr)) (hy : RdS ty (hp w) y ys) (hre : ∀ {cs}, Encs ty (hp w) ys cs → Encs ty R ys cs)
    (hroom : (xs.length + ys.length) * bytes ≤ 2 ^ 47) (hmax : xs.length + ys.length ≤ maxLen) :
    ∃ v' c' w', (Builtin.append_ #[t, t] tt #[v, y]).run P w = .ok v' w' ∧ OwnL ty e R v' (xs ++ ys) c' ∧ Step w0 R0 L0 w' R (c' :: Lr) := by
  have hy0 := hy
  obtain ⟨a, cap, rfl, hc, h⟩ := hy
  obtain ⟨cells, h1, h2⟩ := how
  cases a with
  | none =>
    have hn := RdS.nil hy0
    subst hn
    refine ⟨v, c, w, run_append_zero hu he h1, ⟨cells, by simpa using h1, by simpa using h2⟩, hst⟩
  | some a =>
    obtain ⟨src, hs, hsrc⟩ := RdS.src hy0 (Le.refl _)
    have hs2 := hre hs
    obtain ⟨v', c', w', hr, ho', hst'⟩ := run_append (ty := tt) (cap2 := cap) hu he hz h1 hst hs2.len hsrc hs2.ones hroom hmax
    exact ⟨v', c', w', hr, ⟨cells ++ src, by simpa using ho', h2.append hs2⟩, hst'⟩
variable {ρ : Operand → Value} {o : Oper} {x h1 : Operand}
theorem x_sliceLo {b v' : Value} (ho : o.op = .slice t x (some h1) none none) (hx : ρ x = v) (hh : ρ h1 = b) (hu : SL P t e) (h : (Instr.slice t v (some b) none none).run P w = .ok v' w) : (execOp ρ o).run P w = .ok (.value v') w := by
  unfold execOp
  simp [ho, hx, hh, Instr.sliceAt, run_underlying hu, h]
theorem x_quo_nat {xT yT : TypeId} {p q : Operand} {a b : Nat} (ho : o.op = .binOp .quo xT p q yT) (hx : ρ p = int (a : Int)) (hy : ρ q = int (b : Int)) (h : b ≠ 0) (ha : a ≤ 1000000000) : (execOp ρ o).run P w = .ok (.value (int ((a / b : Nat) : Int))) w := by
  have e : Int.tdiv (a : Int) (b : Int) = ((a / b : Nat) : Int) := rfl
  have hl : a / b ≤ a := Nat.div_le_self _ _
  have hI : I64 (Int.tdiv (a : Int) (b : Int)) := by
    rw [e]
    generalize a / b = q at hl
    constructor <;> omega
  rw [← e]
  exact x_quo ho hx hy (by omega) hI
theorem x_rem_dig {xT yT : TypeId} {p q : Operand} {a b d : Nat} (ho : o.op = .binOp .rem xT p q yT) (hx : ρ p = int (a : Int)) (hy : ρ q = int (b : Int)) (h : b ≠ 0) (hd : a % b = d) : (execOp ρ o).run P w = .ok (.value (int (d : Int))) w := by
  rw [← hd]; exact x_rem_nat ho hx hy h
end
end Go.Fx
namespace Go.Fx.YtdkjoljcffkpkaaDoor
open Go Go.Fx Go.Proofs
set_option maxRecDepth 20000

theorem Exs.dropAt {w w0 : World} {L0 Lr : List Hp} {R0 R : Hp} {xs : List Sp} {cX : Hp} (h : Step w0 R0 L0 w R (cX :: Lr)) (hX : Exs R xs cX) {j : Nat} (hj : j < xs.length) {y : Sp} (hv : y.v = .slice none 0 0) (he : y.r.exits = []) :
    ∃ c2, Step w0 R0 L0 w R (c2 :: Lr) ∧ Exs R (xs.set j y) c2 := by
  obtain ⟨c1, c2, h1, rfl, hd, hk⟩ := hX.look j hj
  have h2 := (h.split hd).drop
  have h3 := hk R y non (Le.refl _) (by rw [hv, he]; exact OwnL.empty _ _ _) (fun b => .inl rfl)
  rw [non_uni] at h3
  exact ⟨c2, h2, h3⟩
theorem Encs.setEx {R : Hp} {xs : List Sp} {cs : List Value} (h : Encs tySp R xs cs) {j : Nat} (hj : j < xs.length) {y : Sp} (e : spCells y = spCells xs[j]) (ev : y.v = xs[j].v) : Encs tySp R (xs.set j y) cs := by
  induction h generalizing j with
  | nil => simp at hj
  | @cons x c xs cs hx hr ih =>
    cases j with
    | zero =>
      simp only [List.getElem_cons_zero] at e ev
      exact .cons (tySp_is (by rw [e]; exact hx.1) (by rw [ev]; exact hx.2)) hr
    | succ j => exact .cons hx (ih (by simpa using hj) e ev)
theorem setExL {T : Nat} {R : Hp} {v : Value} {xs : List Sp} {c : Hp} (h : OwnL tySp T R v xs c) {j : Nat} (hj : j < xs.length) {y : Sp} (e : spCells y = spCells xs[j]) (ev : y.v = xs[j].v) : OwnL tySp T R v (xs.set j y) c := by
  obtain ⟨cells, h1, h2⟩ := h
  exact ⟨cells, by rw [List.length_set]; exact h1, Encs.setEx h2 hj e ev⟩
theorem setExL2 {T : Nat} {R : Hp} {v : Value} {xs : List Sp} {c : Hp} {j : Nat} {x y : Sp} (h : OwnL tySp T R v (xs.set j x) c) (hj : j < xs.length) (e : spCells y = spCells x) (ev : y.v = x.v) : OwnL tySp T R v (xs.set j y) c := by
  have := setExL h (j := j) (by rw [List.length_set]; exact hj) (y := y) (by rw [List.getElem_set_self]; exact e) (by rw [List.getElem_set_self]; exact ev)
  rwa [List.set_set] at this
theorem get_take_succ {l : List (Int × Int)} {e : Int} {j : Nat} {x : Int × Int} (hj : j < l.length) (h : AL.get (l.take j) e = none) (hx : x = l[j]) (hne : x.1 ≠ e) : AL.get (l.take (j + 1)) e = none := by
  induction l generalizing j with
  | nil => simp at hj
  | cons a l ih =>
    cases j with
    | zero =>
      simp only [List.getElem_cons_zero] at hx
      subst hx
      simp [AL.get, hne]
    | succ j =>
      obtain ⟨p, q⟩ := a
      simp only [List.take_succ_cons, AL.get] at h ⊢
      by_cases ep : p = e
      · rw [if_pos ep] at h; cases h
      · rw [if_neg ep] at h ⊢
        exact ih (by simpa using hj) h (by simpa using hx)
theorem set_absent {l : List (Int × Int)} {e v : Int} (h : AL.get l e = none) : AL.set l e v = l ++ [(e, v)] := by
  induction l with
  | nil => rfl
  | cons a l ih =>
    obtain ⟨p, q⟩ := a
    simp only [AL.get] at h
    by_cases ep : p = e
    · rw [if_pos ep] at h; cases h
    · rw [if_neg ep] at h
      simp only [AL.set, if_neg ep, ih h, List.cons_append]
theorem set_at {l : List (Int × Int)} {e : Int} {j : Nat} {x : Int × Int} (hj : j < l.length) (h : AL.get (l.take j) e = none) (hx : x = l[j]) (he : x.1 = e) : AL.get l e = some x.2 ∧ ∀ v, AL.set l e v = l.set j (e, v) := by
  induction l generalizing j with
  | nil => simp at hj
  | cons a l ih =>
    cases j with
    | zero =>
      simp only [List.getElem_cons_zero] at hx
      subst hx
      subst he
      simp [AL.get, AL.set]
    | succ j =>
      obtain ⟨p, q⟩ := a
      simp only [List.take_succ_cons, AL.get] at h
      by_cases ep : p = e
      · rw [if_pos ep] at h; cases h
      · rw [if_neg ep] at h
        obtain ⟨h1, h2⟩ := ih (by simpa using hj) h (by simpa using hx)
        exact ⟨by simp only [AL.get, if_neg ep]; exact h1, fun v => by simp only [AL.set, if_neg ep, h2 v, List.set_cons_succ]⟩
theorem app_set {l : List (Int × Int)} {e a b : Int} : (l ++ [(e, a)]).set l.length (e, b) = l ++ [(e, b)] := by
  rw [List.set_append_right _ _ (Nat.le_refl _), Nat.sub_self]
  rfl
theorem tyEx_is {R : Hp} {a b : Int} {cs : List Value} (h : cs = [.int .i64 a, .int .i64 b]) : tyEx.rel R (a, b) cs := by rw [h]; exact tyEx_mk a b
theorem tyEx_fun {R : Hp} {x : Int × Int} {c : List Value} (h : tyEx.rel R x c) : c = [.int .i64 x.1, .int .i64 x.2] := tyEx_open h
theorem Encs.reex {R R' : Hp} {xs : List (Int × Int)} {cs : List Value} (h : Encs tyEx R xs cs) : Encs tyEx R' xs cs := by
  induction h with
  | nil => exact .nil
  | cons hx _ ih => exact .cons hx ih
theorem dec_given {t : ByteArray} : (t ++ ⟨#[44, 32, 103, 105, 118, 101, 110, 32, 117, 112]⟩ : ByteArray) = joinW [.s (t ++ wGiven)] := by rw [joinW1]; rfl
end Go.Fx.YtdkjoljcffkpkaaDoor
namespace Go.Fx.YtdkjoljcffkpkaaDoor
open Go Go.Fx Go.Proofs
set_option maxRecDepth 20000

def Ex (s : PS) : Prop := ∀ k r, AL.get s.recs k = some r → r.exits.length ≤ s.n
theorem Ex.rc {s : PS} (h : Ex s) (k : Pl) : (s.rc k).exits.length ≤ s.n := by
  unfold PS.rc
  cases e : AL.get s.recs k with
  | none => exact Nat.zero_le _
  | some r => exact h k r e
theorem Ex.put {s : PS} (h : Ex s) (k : Pl) {r : Rec} (hr : r.exits.length ≤ s.n + 1) : Ex (s.put k r) := by
  intro j q hj
  simp only [PS.put, AL.get_set] at hj ⊢
  split at hj
  · cases hj; exact hr
  · exact Nat.le_succ_of_le (h j q hj)
theorem Ex.decide {s : PS} (h : Ex s) (k : Pl) {r : Rec} {t : Int} {b : ByteArray} (hr : r.exits.length ≤ s.n + 1) : Ex (s.decide k r t b) := by
  intro j q hj
  simp only [PS.decide, AL.get_set] at hj ⊢
  split at hj
  · cases hj; exact hr
  · exact Nat.le_succ_of_le (h j q hj)
theorem Ex.back {s : PS} (h : Ex s) (k : Pl) : Ex (s.back k).1 := by
  have hr := Nat.le_succ_of_le (h.rc k)
  simp only [PS.back]
  split
  · exact h.put k hr
  · split
    · exact h.put k hr
    · split
      · exact h.decide k hr
      · split
        · exact h.decide k hr
        · exact h.put k hr
theorem Ex.setBack {s : PS} (h : Ex s) (k : Pl) (r : Rec) (t : Int) (l : List Wd) : Ex (s.setBack k r t l) := by
  simp only [PS.setBack]
  split <;> exact h.decide k (Nat.zero_le _)
theorem AL_set_len (l : List (Int × Int)) (e v : Int) : (AL.set l e v).length ≤ l.length + 1 := by
  induction l with
  | nil => simp [AL.set]
  | cons a l ih =>
    obtain ⟨p, q⟩ := a
    simp only [AL.set]
    split <;> simp <;> omega
theorem Ex.left {s : PS} (h : Ex s) (k : Pl) (e : Int) : Ex (s.left k e).1 := by
  cases hg : AL.get s.recs k with
  | none => rw [left_none e hg]; exact h
  | some r =>
    have hl := h k r hg
    by_cases h1 : r.tier ≠ 2 ∨ e < 0
    · rw [left_not hg h1]; exact h
    · by_cases h2 : (AL.get r.exits e).getD 0 + 1 < s.cold
      · rw [left_stay hg (by omega) (by omega) h2]
        exact h.put k (Nat.le_trans (AL_set_len _ _ _) (by omega))
      · rw [left_back hg (by omega) (by omega) h2]
        exact h.setBack _ _ _ _
theorem Ex.failed {s : PS} (h : Ex s) (k : Pl) (e : Int) : Ex (s.failed k e) := by
  cases hg : AL.get s.recs k with
  | none => rw [failed_none e hg]; exact h
  | some r =>
    by_cases h1 : r.tier < 1 ∨ e = 0
    · rw [failed_not hg h1]; exact h
    · rw [failed_back hg (by omega) (by omega)]; exact h.setBack _ _ _ _
theorem Ex.backs {s : PS} (h : Ex s) (k : Pl) : ∀ t, Ex (s.backs k t).1
  | 0 => h
  | t + 1 => (Ex.backs h k t).back k
theorem Ex.act {s : PS} (h : Ex s) (x : Act) : Ex (s.act x).1 := by
  unfold PS.act
  split
  · exact h.left _ _
  · split
    · exact h.failed _ _
    · exact h.backs _ _
theorem Ex.start (a b c d : Int) : Ex (madeP a b c d) := fun k r h => by simp [madeP, AL.get] at h
theorem Act.exit_le (x : Act) : x.exit ≤ 1000000 := by
  have := Int.emod_lt_of_pos x.n (show (0 : Int) < 4 by decide)
  unfold Act.exit; omega
theorem Act.err_bd (x : Act) : 0 ≤ x.err ∧ x.err ≤ 1000000 := by
  unfold Act.err
  split
  · decide
  · split <;> decide
theorem madeP_ok (a b c d : Int) : (madeP a b c d).Ok := PS.newOk (by omega) (by omega) (by omega) (by omega)
theorem x_neq43 {w : World} {ρ : Operand → Value} {o : Oper} {p q : Operand} {x y : Int} {t : TypeId} (ho : o.op = .binOp .neq 43 p q t) (hx : ρ p = .agg #[.int .i64 x, .int .i64 y]) (hy : ρ q = .agg #[.int .i64 x, .int .i64 y]) :
    (execOp ρ o).run Tryd.prog w = .ok (.value (.bool false)) w := by
  have hg : (eqGuard .neq 43 p q (.agg #[.int .i64 x, .int .i64 y]) (.agg #[.int .i64 x, .int .i64 y])).run Tryd.prog w = .ok () w := by kernel_rfl
  have he : (Op.equal 43 (.agg #[.int .i64 x, .int .i64 y]) (.agg #[.int .i64 x, .int .i64 y])).run Tryd.prog w = .ok (x == x && y == y) w := eq43 x y x y 9998 w
  have hb : binOp .neq 43 (.agg #[.int .i64 x, .int .i64 y]) (.agg #[.int .i64 x, .int .i64 y]) = (do let b ← Op.equal 43 (.agg #[.int .i64 x, .int .i64 y]) (.agg #[.int .i64 x, .int .i64 y]); pure (.bool !b)) := rfl
  unfold execOp
  simp only [ho, hx, hy, Sem.run_bind, hg, Result.andThen_ok, hb, he, Sem.run_pure, beq_self_eq_true, Bool.and_self, Bool.not_true]
theorem x_neqS {P : Program} {w : World} {ρ : Operand → Value} {o : Oper} {t yt : TypeId} {p q : Operand} {a : ByteArray} (ho : o.op = .binOp .neq t p q yt) (hx : ρ p = .string a) (hy : ρ q = .string a) : (execOp ρ o).run P w = .ok (.value (.bool false)) w := by
  unfold execOp
  simp only [ho, hx, hy, eqGuard, binOp, Op.stringOp, Sem.run_bind, Sem.run_pure, Result.andThen_ok, if_true, beq_self_eq_true, Bool.not_true]
  rfl
end Go.Fx.YtdkjoljcffkpkaaDoor
