/-
  Chapter 27: the reference registry as a piece.
-/
import Derived.Test.YtlfabjfajcbdcaaBb
import Derived.Test.YtlfabjfajcbdcaaFx20
set_option linter.unusedSimpArgs false
set_option linter.unusedVariables false
set_option linter.unusedSectionVars false
namespace Go.Fx
open Go
section
variable {α : Type} {ty : Ty α} {P : Program} {w w0 : World} {R R0 : Hp} {L0 Lr : List Hp} {t e : TypeId} {agg : Bool} {sz bytes : Nat} {z v y : Value} {xs ys : List α} {c : Hp}
theorem run_sliceLo {k len cap : Nat} {a : Option Addr} (hu : SL P t e) (he : TI P e agg sz bytes z) (hk : k ≤ len) (hc : len ≤ cap) :
    (Instr.slice t (.slice a len cap) (some (int (k : Int))) none none).run P w = .ok (.slice (if cap = k then a else a.map (·.add (k * sz))) (len - k) (cap - k)) w := by
  unfold Instr.slice
  simp only [Sem.run_bind, run_underlying hu, Result.andThen_ok]
  have h1 : ∀ b, k ≤ b → (Instr.sliceBound (int (k : Int)) b .sliceB).run P w = .ok k w := by
    intro b hb
    unfold Instr.sliceBound
    simp [asIntOf, hb]
  have h2 : (Instr.sliceBounds true len cap (some (int (k : Int))) none none).run P w = .ok (k, len, cap) w := by
    unfold Instr.sliceBounds
    simp [h1 _ hk]
  simp only [h2, Result.andThen_ok, he.run_size, Sem.run_pure, Sem.run_bind]
theorem RdS.dropK {k cap : Nat} {a : Option Addr} (h : RdS ty R (.slice a xs.length cap) xs) (hk : k ≤ xs.length) : RdS ty R (.slice (if cap = k then a else a.map (·.add (k * ty.sz))) (xs.length - k) (cap - k)) (xs.drop k) := by
  obtain ⟨a', cap', e, hc, h⟩ := h
  cases e
  refine ⟨_, _, by rw [List.length_drop], by rw [List.length_drop]; omega, fun hne => ?_⟩
  have hlt : k < xs.length := by
    rcases Nat.lt_or_ge k xs.length with h1 | h1
    · exact h1
    · exact absurd (List.drop_eq_nil_of_le h1) hne
  have hx : xs ≠ [] := by rintro rfl; simp at hlt
  obtain ⟨b, off, cs, T, fz, rfl, hb, he⟩ := h hx
  refine ⟨b, off + k * ty.sz, cs, T, fz, by rw [if_neg (by omega)]; simp [Addr.add], hb, ?_⟩
  have h2 := he.drop k
  have e : (seg cs off (xs.length * ty.sz)).drop (k * ty.sz) = seg cs (off + k * ty.sz) ((xs.drop k).length * ty.sz) := by
    simp only [seg, List.length_drop, List.drop_take, List.drop_drop]
    rw [Nat.mul_sub_right_distrib]
  rw [e] at h2
  exact h2
theorem RdS.takeK {k cap : Nat} {a : Option Addr} (h : RdS ty R (.slice a xs.length cap) xs) (hk : k ≤ xs.length) : RdS ty R (.slice a k cap) (xs.take k) := by
  obtain ⟨a', cap', e, hc, h'⟩ := h.take k hk
  cases e
  exact h'
/-- append of what is read now. -/
theorem run_appendR {tt : TypeId} (hu : SL P t e) (he : TI P e agg ty.sz bytes z) (hz : z.cells.size = ty.sz) (how : OwnL ty e R v xs c) (hst : Step w0 R0 L0 w R (c :: Lr)) (hy : RdS ty (hp w) y ys) (hre : ∀ {cs}, Encs ty (hp w) ys cs → Encs ty R ys cs)
    (hroom : (xs.length + ys.length) * bytes ≤ 2 ^ 47) (hmax : xs.length + ys.length ≤ maxLen) :
    ∃ v' c' w', (Builtin.append_ #[t, t] tt #[v, y]).run P w = .ok v' w' ∧ OwnL ty e R v' (xs ++ ys) c' ∧ Step w0 R0 L0 w' R (c' :: Lr) := by
  have hy0 := hy
  obtain ⟨a, cap, rfl, hc, h⟩ := hy
  obtain ⟨cells, h1, h2⟩ := how
  cases a with
  | none =>
    have hn := RdS.nil hy0
    subst hn
    refine ⟨v, c, w, run_append_zero hu he h1, ⟨cells, by simpa using h1, by simpa using h2⟩, hst⟩
  | some a =>
    obtain ⟨src, hs, hsrc⟩ := RdS.src hy0 (Le.refl _)
    have hs2 := hre hs
    obtain ⟨v', c', w', hr, ho', hst'⟩ := run_append (ty := tt) (cap2 := cap) hu he hz h1 hst hs2.len hsrc hs2.ones hroom hmax
    exact ⟨v', c', w', hr, ⟨cells ++ src, by simpa using ho', h2.append hs2⟩, hst'⟩
/-- append of what has long been read, and of what is one's own. -/
theorem run_appendM {tt : TypeId} (hu : SL P t e) (he : TI P e agg ty.sz bytes z) (hz : z.cells.size = ty.sz) (how : OwnL ty e R v xs c) (hst : Step w0 R0 L0 w R (c :: Lr)) (hy : RdS ty R y ys) (hR : Le R (hp w))
    (hroom : (xs.length + ys.length) * bytes ≤ 2 ^ 47) (hmax : xs.length + ys.length ≤ maxLen) :
    ∃ v' c' w', (Builtin.append_ #[t, t] tt #[v, y]).run P w = .ok v' w' ∧ OwnL ty e R v' (xs ++ ys) c' ∧ Step w0 R0 L0 w' R (c' :: Lr) := by
  have hy0 := hy
  obtain ⟨a, cap, rfl, hc, h⟩ := hy
  obtain ⟨cells, h1, h2⟩ := how
  cases a with
  | none =>
    have hn := RdS.nil hy0
    subst hn
    exact ⟨v, c, w, run_append_zero hu he h1, ⟨cells, by simpa using h1, by simpa using h2⟩, hst⟩
  | some a =>
    obtain ⟨src, hs2, hsrc⟩ := RdS.src hy0 hR
    obtain ⟨v', c', w', hr, ho', hst'⟩ := run_append (ty := tt) (cap2 := cap) hu he hz h1 hst hs2.len hsrc hs2.ones hroom hmax
    exact ⟨v', c', w', hr, ⟨cells ++ src, by simpa using ho', h2.append hs2⟩, hst'⟩
theorem run_appendO {tt : TypeId} {c2 : Hp} (hu : SL P t e) (he : TI P e agg ty.sz bytes z) (hz : z.cells.size = ty.sz) (how : OwnL ty e R v xs c) (hst : Step w0 R0 L0 w R (c :: Lr)) (hy : OwnL ty e R y ys c2) (hR : Le c2 (hp w))
    (hroom : (xs.length + ys.length) * bytes ≤ 2 ^ 47) (hmax : xs.length + ys.length ≤ maxLen) :
    ∃ v' c' w', (Builtin.append_ #[t, t] tt #[v, y]).run P w = .ok v' w' ∧ OwnL ty e R v' (xs ++ ys) c' ∧ Step w0 R0 L0 w' R (c' :: Lr) := by
  obtain ⟨cs2, g1, g2⟩ := hy
  obtain ⟨cells, h1, h2⟩ := how
  rcases g1 with ⟨rfl, hn, rfl, rfl⟩ | ⟨b, cap, cs, rfl, rfl, rfl, hc, hs, hm⟩
  · have hx : ys = [] := List.eq_nil_of_length_eq_zero hn
    subst hx
    exact ⟨v, c, w, run_append_zero hu he h1, ⟨cells, by simpa using h1, by simpa using h2⟩, hst⟩
  · have hb : w.heap[b]? = some (.cells cs e (0, 0)) := hR b _ (one_self _ _)
    have hl := g2.len
    obtain ⟨v', c', w', hr, ho', hst'⟩ := run_append (ty := tt) (cap2 := cap) (a := ⟨b, 0, none⟩) hu he hz h1 hst hl (fun j u hj => by
      have hlt : j < (cs.toList.take (ys.length * ty.sz)).length := (List.getElem?_eq_some_iff.1 hj).1
      rw [add_zero_spot, cell_at hb]
      rw [List.getElem?_take] at hj
      split at hj
      · simpa using hj
      · cases hj) g2.ones hroom hmax
    exact ⟨v', c', w', hr, ⟨_, by simpa using ho', h2.append g2⟩, hst'⟩
variable {ρ : Operand → Value} {o : Oper} {x h1 : Operand}
theorem x_sliceLo {b v' : Value} (ho : o.op = .slice t x (some h1) none none) (hx : ρ x = v) (hh : ρ h1 = b) (hu : SL P t e) (h : (Instr.slice t v (some b) none none).run P w = .ok v' w) : (execOp ρ o).run P w = .ok (.value v') w := by
  unfold execOp
  simp [ho, hx, hh, Instr.sliceAt, run_underlying hu, h]
end
end Go.Fx
namespace Go.Fx.Ytlfabjfajcbdcaa
open Go Go.Fx Go.Proofs
set_option maxRecDepth 20000

theorem curR_cons {F C : List Int} {l : List Fact} {k : Nat} (hk : k < l.length) : curR F C (l.drop k) = ((verR F C l[k].kind l[k].n == l[k].version) && curR F C (l.drop (k + 1))) := by
  unfold curR
  rw [List.drop_eq_getElem_cons hk, List.all_cons]
theorem curR_step {F C : List Int} {l : List Fact} {k : Nat} {x : Fact} (hk : k < l.length) (hx : x = l[k]) (h : verR F C x.kind x.n = x.version) : curR F C (l.drop k) = curR F C (l.drop (k + 1)) := by
  subst hx
  rw [curR_cons hk, h, beq_self_eq_true, Bool.true_and]
theorem curR_bad {F C : List Int} {l : List Fact} {k : Nat} {x : Fact} (hk : k < l.length) (hx : x = l[k]) (h : verR F C x.kind x.n ≠ x.version) : curR F C (l.drop k) = false := by
  subst hx
  rw [curR_cons hk, beq_false_of_ne h, Bool.false_and]
theorem curR_end {F C : List Int} {l : List Fact} {k : Nat} (hk : l.length ≤ k) : curR F C (l.drop k) = true := by
  rw [List.drop_eq_nil_of_le hk]; rfl
theorem retB {a b : Bool} (h : a = b) : Ending.returned (retV [.bool a]) = .returned (.bool b) := by subst h; rfl
theorem retI {a b : Int} (h : a = b) : Ending.returned (retV [int a]) = .returned (int b) := by subst h; rfl
theorem verR_1 {F C : List Int} {kind : Int} {j : Nat} {y : Int} (hk : kind = 1) (hj : j < F.length) (hy : y = F[j]) : y = verR F C kind (j : Int) := by rw [hk, verR_f hj, hy]
theorem verR_2 {F C : List Int} {kind : Int} {j : Nat} {y : Int} (hk : kind = 2) (hj : j < C.length) (hy : y = C[j]) : y = verR F C kind (j : Int) := by rw [hk, verR_c hj, hy]
theorem take_map1 {xs : List Mo} {k : Nat} {x : Mo} (hk : k < xs.length) (hx : x = xs[k]) : (xs.take (k + 1)).map (·.1) = (xs.take k).map (·.1) ++ [x.1] := by
  rw [List.take_succ_eq_append_getElem hk, List.map_append, ← hx]
  rfl

abbrev refK (m : Nat) (vF vC vL : Value) : Hp := one m (.cells #[vF, vC, vL] 87 (0, 0))
def RegR (R : Hp) (m : Nat) (s : RS) (c : Hp) : Prop :=
  ∃ F C xs vF vC vL cF cC, c = tri (refK m vF vC vL) cF cC ∧ Dj (refK m vF vC vL) (uni cF cC) ∧ Dj cF cC ∧ OwnL Ty.int 3 R vF F cF ∧ OwnL Ty.int 3 R vC C cC ∧ RdS tyMo R vL xs ∧
    SrtM xs ∧ AgrM s xs ∧ AgrV s F C ∧ F.length ≤ 1000 ∧ C.length ≤ 1000 ∧ s.Ok ∧ Kn s
theorem RegR.lift {R R' : Hp} {m : Nat} {s : RS} {c : Hp} (h : RegR R m s c) (l : Le R R') : RegR R' m s c := by
  obtain ⟨F, C, xs, vF, vC, vL, cF, cC, e, h1, h2, h3, h4, h5, h6⟩ := h
  exact ⟨F, C, xs, vF, vC, vL, cF, cC, e, h1, h2, h3.mono l, h4.mono l, h5.mono l, h6⟩
theorem RegR.close {w w0 : World} {R0 R : Hp} {L0 Lr : List Hp} {m : Nat} {s : RS} {F C : List Int} {xs : List Mo} {vF vC vL : Value} {cF cC : Hp} (h : Step w0 R0 L0 w R (refK m vF vC vL :: cF :: cC :: Lr)) (hF : OwnL Ty.int 3 R vF F cF) (hC : OwnL Ty.int 3 R vC C cC) (hL : RdS tyMo R vL xs)
    (hs : SrtM xs) (ha : AgrM s xs) (hv : AgrV s F C) (hf : F.length ≤ 1000) (hc : C.length ≤ 1000) (hok : s.Ok) (hkn : Kn s) : ∃ c, Step w0 R0 L0 w R (c :: Lr) ∧ RegR R m s c := by
  obtain ⟨h1, h2, h3⟩ := h.join3
  exact ⟨_, h1, F, C, xs, vF, vC, vL, cF, cC, rfl, h2, h3, hF, hC, hL, hs, ha, hv, hf, hc, hok, hkn⟩
theorem thrM_mods {s : RS} {xs : List Mo} {k : Int} (hs : SrtM xs) (ha : AgrM s xs) : thrM xs k = (AL.get s.mods k).isSome := by rw [thrM_get hs, ha k]
theorem holds_no {s : RS} {xs : List Mo} {k : Int} (hs : SrtM xs) (ha : AgrM s xs) (h : thrM xs k = false) : holds s.vers s.mods k = false := by
  unfold holds
  rw [← thrM_mods hs ha, h, Bool.false_and]
theorem holds_yes {s : RS} {F C : List Int} {xs : List Mo} {k : Int} {x : Mo} (hs : SrtM xs) (ha : AgrM s xs) (hv : AgrV s F C) (hkn : Kn s) (h : thrM xs k = true) (hp : posM xs k < xs.length) (hx : x = xs[posM xs k]) : holds s.vers s.mods k = curR F C x.2 := by
  obtain ⟨_, h1, _⟩ := thrM_yes hs h
  have hg : AL.get s.mods k = some x.2 := by rw [← ha k, h1, hx]
  unfold holds
  rw [hg, curR_cur hv (hkn k _ hg)]
  simp
theorem mods_len {s : RS} {xs : List Mo} (hs : SrtM xs) (ha : AgrM s xs) (hk : AL.Ok s.mods) : xs.length = s.mods.length := by
  have h := congrArg List.length (mods_sorted hs ha hk)
  rw [List.length_map] at h
  rw [h]
  unfold RS.modules
  rw [List.length_mergeSort]
  simp [AL.keys]
theorem AgrM.remove {s : RS} {xs : List Mo} {k : Int} (hs : SrtM xs) (ha : AgrM s xs) (hok : s.Ok) (h : thrM xs k = true) : AgrM (s.remove k) (delM xs k) := fun i => by
  rw [(delM_get hs h).2 i]
  simp only [RS.remove]
  rw [AL.get_del hok.mods, ha i]
theorem remove_none {s : RS} {k : Int} (h : (AL.get s.mods k).isSome = false) : s.remove k = s := by
  have hn : AL.get s.mods k = none := by simpa using h
  have hd : ∀ (l : List (Int × List Fact)), AL.get l k = none → AL.del l k = l := by
    intro l
    induction l with
    | nil => intro _; rfl
    | cons a l ih =>
      intro h
      obtain ⟨p, q⟩ := a
      simp only [AL.get] at h
      by_cases e : p = k
      · rw [if_pos e] at h; cases h
      · rw [if_neg e] at h
        simp only [AL.del, if_neg e, ih h]
  unfold RS.remove
  rw [hd _ hn]
theorem AgrV.remove {s : RS} {F C : List Int} {k : Int} (h : AgrV s F C) : AgrV (s.remove k) F C := h
end Go.Fx.Ytlfabjfajcbdcaa
