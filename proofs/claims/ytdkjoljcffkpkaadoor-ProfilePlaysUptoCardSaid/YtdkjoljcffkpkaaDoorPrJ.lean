/-
  Chapter 14: the plain law of ProfileApart; equality of places and decisions.
-/
import Derived.Test.YtdkjoljcffkpkaaDoorPrF
set_option linter.unusedSimpArgs false
set_option linter.unusedVariables false
set_option linter.unusedSectionVars false
namespace Go.Fx.YtdkjoljcffkpkaaDoor
open Go Go.Fx Go.Proofs
set_option maxRecDepth 20000

theorem eq43 (x y x' y' : Int) (d : Nat) (w : World) : (Op.equalIn (d + 2) 43 (.agg #[.int .i64 x, .int .i64 y]) (.agg #[.int .i64 x', .int .i64 y'])).run Tryd.prog w = .ok (x == x' && y == y') w := by
  have hS : Tryd.prog.underlying 43 = some (.struct (Tryd.prog.fieldsOf 43)) := by kernel_rfl
  have hp : Tryd.prog.stoodInHeld 43 = false := by kernel_rfl
  have h3 := Tryd.isAgg3
  have u3 := Tryd.underlying3
  rw [show d + 2 = (d + 1) + 1 from rfl, run_equalIn_agg w (d + 1) 43 _ _ hS hp]
  have e : Tryd.prog.fieldsOf 43 = (match Tryd.prog.underlying 43 with | some (.struct fs) => fs | _ => #[]) := by kernel_rfl
  rw [e, Tryd.underlying43]
  have hq : ∀ a b w, (Op.equalIn (d + 1) 3 (.int .i64 a) (.int .i64 b)).run Tryd.prog w = .ok (a == b) w := fun a b w => run_equalIn_int w d 3 .i64 .i64 a b u3
  simp only [go_sem, h3]
  by_cases h1 : x = x' <;> by_cases h2 : y = y' <;> simp [h3, hq, h1, h2]
theorem x_eq43 {w : World} {ρ : Operand → Value} {o : Oper} {p q : Operand} {x y x' y' : Int} {t : TypeId} (ho : o.op = .binOp .eql 43 p q t) (hx : ρ p = .agg #[.int .i64 x, .int .i64 y]) (hy : ρ q = .agg #[.int .i64 x', .int .i64 y']) :
    (execOp ρ o).run Tryd.prog w = .ok (.value (.bool (x == x' && y == y'))) w := by
  have hg : (eqGuard .eql 43 p q (.agg #[.int .i64 x, .int .i64 y]) (.agg #[.int .i64 x', .int .i64 y'])).run Tryd.prog w = .ok () w := by kernel_rfl
  have he : (Op.equal 43 (.agg #[.int .i64 x, .int .i64 y]) (.agg #[.int .i64 x', .int .i64 y'])).run Tryd.prog w = .ok (x == x' && y == y') w := eq43 x y x' y' 9998 w
  have hb : binOp .eql 43 (.agg #[.int .i64 x, .int .i64 y]) (.agg #[.int .i64 x', .int .i64 y']) = (do let b ← Op.equal 43 (.agg #[.int .i64 x, .int .i64 y]) (.agg #[.int .i64 x', .int .i64 y']); pure (.bool b)) := rfl
  unfold execOp
  simp only [ho, hx, hy, Sem.run_bind, hg, Result.andThen_ok, hb, he, Sem.run_pure]
theorem x_neq49 {w : World} {ρ : Operand → Value} {o : Oper} {p q : Operand} {x y z : Int} {s : ByteArray} {t : TypeId} (ho : o.op = .binOp .neq 49 p q t) (hx : ρ p = .agg #[.int .i64 x, .int .i64 y, .int .i64 z, .string s]) (hy : ρ q = .agg #[.int .i64 x, .int .i64 y, .int .i64 z, .string s]) :
    (execOp ρ o).run Tryd.prog w = .ok (.value (.bool false)) w := by
  have hS : Tryd.prog.underlying 49 = some (.struct (Tryd.prog.fieldsOf 49)) := by kernel_rfl
  have hp : Tryd.prog.stoodInHeld 49 = false := by kernel_rfl
  have hg : (eqGuard .neq 49 p q (.agg #[.int .i64 x, .int .i64 y, .int .i64 z, .string s]) (.agg #[.int .i64 x, .int .i64 y, .int .i64 z, .string s])).run Tryd.prog w = .ok () w := by kernel_rfl
  have he : (Op.equal 49 (.agg #[.int .i64 x, .int .i64 y, .int .i64 z, .string s]) (.agg #[.int .i64 x, .int .i64 y, .int .i64 z, .string s])).run Tryd.prog w = .ok true w := by
    unfold Op.equal Op.maxDepth
    rw [show (10000 : Nat) = 9999 + 1 from rfl, run_equalIn_agg w 9999 49 _ _ hS hp]
    have e : Tryd.prog.fieldsOf 49 = (match Tryd.prog.underlying 49 with | some (.struct fs) => fs | _ => #[]) := by kernel_rfl
    rw [e, Tryd.underlying49]
    have h3 := Tryd.isAgg3
    have q3 : ∀ a b w, (Op.equalIn 9999 3 (.int .i64 a) (.int .i64 b)).run Tryd.prog w = .ok (a == b) w := fun a b w => run_equalIn_int w 9998 3 .i64 .i64 a b Tryd.underlying3
    have q9 : ∀ a b w, (Op.equalIn 9999 9 (.string a) (.string b)).run Tryd.prog w = .ok (a.toList == b.toList) w := fun a b w => run_equalIn_string w 9998 9 a b Tryd.underlying9
    have q43 : ∀ a b w, (Op.equalIn 9999 43 (.agg #[.int .i64 a, .int .i64 b]) (.agg #[.int .i64 a, .int .i64 b])).run Tryd.prog w = .ok true w := fun a b w => by
      have := eq43 a b a b 9997 w
      simpa using this
    simp only [go_sem, h3]
    simp [h3, q3, q9, q43]
  have hb : binOp .neq 49 (.agg #[.int .i64 x, .int .i64 y, .int .i64 z, .string s]) (.agg #[.int .i64 x, .int .i64 y, .int .i64 z, .string s]) = (do let b ← Op.equal 49 (.agg #[.int .i64 x, .int .i64 y, .int .i64 z, .string s]) (.agg #[.int .i64 x, .int .i64 y, .int .i64 z, .string s]); pure (.bool !b)) := rfl
  unfold execOp
  simp only [ho, hx, hy, Sem.run_bind, hg, Result.andThen_ok, hb, he, Sem.run_pure, Bool.not_true]

def is11 (d : Dec) : Bool := d.pl.1 == 1 && d.pl.2 == 1
theorem is11_pl {k : Pl} : (k.1 == 1 && k.2 == 1) = true ↔ k = (1, 1) := by
  obtain ⟨a, b⟩ := k
  simp
structure Ap (s o : PS) : Prop where
  sample : o.sample = s.sample
  warm : o.warm = s.warm
  hot : o.hot = s.hot
  cold : o.cold = s.cold
  rec' : AL.get o.recs (1, 1) = AL.get s.recs (1, 1)
  decs : o.decs = s.decs.filter is11
theorem Ap.start (a b c d : Int) : Ap ⟨a, b, c, d, [], [], 0⟩ ⟨a, b, c, d, [], [], 0⟩ := ⟨rfl, rfl, rfl, rfl, rfl, rfl⟩
theorem Ap.off {s o t : PS} {k : Pl} (h : Ap s o) (g : Oth k s t) (hk : k ≠ (1, 1)) : Ap t o := by
  obtain ⟨l, e, hl⟩ := g.decs
  refine ⟨h.sample.trans g.sample.symm, h.warm.trans g.warm.symm, h.hot.trans g.hot.symm, h.cold.trans g.cold.symm, h.rec'.trans (g.recs _ (Ne.symm hk)).symm, ?_⟩
  rw [h.decs, e, List.filter_append]
  have : l.filter is11 = [] := by
    rw [List.filter_eq_nil_iff]
    intro d hd h1
    exact hk ((hl d hd).symm.trans (is11_pl.1 h1))
  rw [this, List.append_nil]
theorem Ap.rc {s o : PS} (h : Ap s o) : o.rc (1, 1) = s.rc (1, 1) := by unfold PS.rc; rw [h.rec']
theorem Ap.tier {s o : PS} (h : Ap s o) : o.tier (1, 1) = s.tier (1, 1) := by rw [tier_rc, tier_rc, h.rc]
theorem Ap.put {s o : PS} (h : Ap s o) (r : Rec) : Ap (s.put (1, 1) r) (o.put (1, 1) r) :=
  ⟨h.sample, h.warm, h.hot, h.cold, by simp [PS.put, AL.get_set], h.decs⟩
theorem Ap.decide {s o : PS} (h : Ap s o) (r : Rec) (t : Int) (b : ByteArray) : Ap (s.decide (1, 1) r t b) (o.decide (1, 1) r t b) := by
  refine ⟨h.sample, h.warm, h.hot, h.cold, by simp [PS.decide, AL.get_set], ?_⟩
  show o.decs ++ _ = (s.decs ++ _).filter is11
  rw [h.decs, List.filter_append]
  rfl
theorem Ap.back {s o : PS} (h : Ap s o) : Ap (s.back (1, 1)).1 (o.back (1, 1)).1 ∧ (o.back (1, 1)).2 = (s.back (1, 1)).2 := by
  simp only [PS.back, h.rc, h.sample, h.warm, h.hot]
  split
  · exact ⟨h.put _, rfl⟩
  · split
    · exact ⟨h.put _, rfl⟩
    · split
      · exact ⟨h.decide _ _ _, rfl⟩
      · split
        · exact ⟨h.decide _ _ _, rfl⟩
        · exact ⟨h.put _, rfl⟩
theorem Ap.setBack {s o : PS} (h : Ap s o) (r : Rec) (t : Int) (l : List Wd) : Ap (s.setBack (1, 1) r t l) (o.setBack (1, 1) r t l) := by
  simp only [PS.setBack]
  split <;> exact h.decide _ _ _
theorem Ap.left {s o : PS} (h : Ap s o) (e : Int) : Ap (s.left (1, 1) e).1 (o.left (1, 1) e).1 ∧ (o.left (1, 1) e).2 = (s.left (1, 1) e).2 := by
  cases hg : AL.get s.recs (1, 1) with
  | none => rw [left_none e hg, left_none e (h.rec'.trans hg)]; exact ⟨h, rfl⟩
  | some r =>
    have hg2 := h.rec'.trans hg
    by_cases h1 : r.tier ≠ 2 ∨ e < 0
    · rw [left_not hg h1, left_not hg2 h1]; exact ⟨h, rfl⟩
    · by_cases h2 : (AL.get r.exits e).getD 0 + 1 < s.cold
      · rw [left_stay hg (by omega) (by omega) h2, left_stay hg2 (by omega) (by omega) (by rw [h.cold]; exact h2)]
        exact ⟨h.put _, rfl⟩
      · rw [left_back hg (by omega) (by omega) h2, left_back hg2 (by omega) (by omega) (by rw [h.cold]; exact h2), h.warm, h.cold]
        exact ⟨h.setBack _ _ _, rfl⟩
theorem Ap.failed {s o : PS} (h : Ap s o) (e : Int) : Ap (s.failed (1, 1) e) (o.failed (1, 1) e) := by
  cases hg : AL.get s.recs (1, 1) with
  | none => rw [failed_none e hg, failed_none e (h.rec'.trans hg)]; exact h
  | some r =>
    have hg2 := h.rec'.trans hg
    by_cases h1 : r.tier < 1 ∨ e = 0
    · rw [failed_not hg h1, failed_not hg2 h1]; exact h
    · rw [failed_back hg (by omega) (by omega), failed_back hg2 (by omega) (by omega)]
      exact h.setBack _ _ _
theorem Ap.backs {s o : PS} (h : Ap s o) : ∀ t, Ap (s.backs (1, 1) t).1 (o.backs (1, 1) t).1 ∧ (o.backs (1, 1) t).2 = (s.backs (1, 1) t).2
  | 0 => ⟨h, rfl⟩
  | t + 1 => by
    obtain ⟨h1, h2⟩ := Ap.backs h t
    obtain ⟨h3, h4⟩ := h1.back
    exact ⟨h3, by show (o.backs (1, 1) t).2 + bN _ = (s.backs (1, 1) t).2 + bN _; rw [h2, h4]⟩
theorem Ap.on {s o : PS} {x : Act} (h : Ap s o) (hx : x.pl = (1, 1)) : Ap (s.act x).1 (o.act x).1 ∧ (o.act x).2 = (s.act x).2 := by
  unfold PS.act
  rw [hx]
  split
  · obtain ⟨h1, h2⟩ := h.left x.exit
    exact ⟨h1, by show bN _ = bN _; rw [h2]⟩
  · split
    · exact ⟨h.failed _, rfl⟩
    · exact h.backs _
theorem filt_len (l : List Dec) (k : Nat) : ((l.take k).filter is11).length ≤ k := by
  have := List.length_filter_le is11 (l.take k)
  have := List.length_take_le k l
  omega
theorem filt_yes' {l : List Dec} {k : Nat} {d : Dec} (hk : k < l.length) (e : d = l[k]) (h : is11 d = true) : (l.take (k + 1)).filter is11 = (l.take k).filter is11 ++ [d] := by
  rw [List.take_succ_eq_append_getElem hk, ← e, List.filter_append]
  simp [h]
theorem filt_no' {l : List Dec} {k : Nat} {d : Dec} (hk : k < l.length) (e : d = l[k]) (h : is11 d = false) : (l.take (k + 1)).filter is11 = (l.take k).filter is11 := by
  rw [List.take_succ_eq_append_getElem hk, ← e, List.filter_append]
  simp [h]
end Go.Fx.YtdkjoljcffkpkaaDoor
