/-
  Chapter 27: what is read of a registry, told of the whole piece; the registry of sanity, reckoned.
-/
import Derived.Test.YtlfabjfajcbdcaaAs9
set_option linter.unusedSimpArgs false
set_option linter.unusedVariables false
namespace Go.Fx.Ytlfabjfajcbdcaa
open Go Go.Fx Go.Proofs
set_option maxRecDepth 20000

section
variable {w : World} {R c : Hp} {p : Nat} {s : RS}

theorem Version_reg (kind n : Int) (h : Reg R p s c) (hc : Le c (hp w)) : Calls Try.prog 16 #[ptr p 0, int kind, int n] w fun e w' => e = .returned (int (ver s.vers (kind, n))) ∧ Grow w w' := by
  obtain ⟨bv, bm, cV, cM, rfl, h1, h2, hm, hM, hok, hbm⟩ := h
  exact Version_spec kind n (Le.refl _) ((tri_1 _ _ _).trans hc) hm ((tri_2 h1).trans hc)

theorem _root_.Go.Fx.OwnL.refact {R R' : Hp} {T : Nat} {v : Value} {xs : List Fact} {c : Hp} (h : OwnL tyFact T R v xs c) : OwnL tyFact T R' v xs c := by
  obtain ⟨cells, h1, h2⟩ := h
  exact ⟨cells, h1, Encs.refact h2⟩

theorem Facts_reg {ti : Nat} (h : Reg R p s c) (hc : Le c (hp w)) (ht : Le (one ti (.cells #[(.int .i64 16), (.int .i64 0), (.int .i64 0), (.int .i64 0), (.int .i64 0), (.slice none 0 0), (.int .i64 0), (.int .i64 0), (.string ⟨#[]⟩), (.slice none 0 0), (.int .i64 0), (.int .i64 0), (.int .i64 (-1)), (.bool false)] 71 (0, 0))) (hp w)) (hpos : ver s.vers (1, 1) > 0) :
    Calls Try.prog 22 #[ptr p 0, .agg #[(.int .i64 1), (.int .i64 3), (.slice (some ⟨ti, 0, none⟩) 1 1), (.slice none 0 0)]] w (Comes' w (hp w) [] fun v' R' L' => ∃ c' ys, L' = [c'] ∧ OwnL tyFact 38 R' v' ys c' ∧ ys.Perm ((fs0 s.vers).map (ff s.vers)) ∧ ys.Pairwise fun a b => leF a b = true) := by
  obtain ⟨bv, bm, cV, cM, rfl, h1, h2, hm, hM, hok, hbm⟩ := h
  exact Facts_spec (Step.ro (Le.refl _)).sats ((tri_1 _ _ _).trans hc) hm ((tri_2 h1).trans hc) ht hpos

theorem Holds_reg (k : Int) (h : Reg R p s c) (hR : Le R (hp w)) (hc : Le c (hp w)) : Calls Try.prog 15 #[ptr p 0, int k] w fun e w' => e = .returned (.bool (holds s.vers s.mods k)) ∧ Grow w w' := by
  obtain ⟨bv, bm, cV, cM, rfl, h1, h2, hm, hM, hok, hbm⟩ := h
  exact Holds_spec k (Le.refl _) ((tri_1 _ _ _).trans hc) hm ((tri_2 h1).trans hc) (vS.lift hM hR) ((tri_3 h1 h2).trans hc) (fun k xs h => Nat.le_trans (hok.big k xs h) (by decide))
end

theorem two_sorted {a b : Fact} {ys : List Fact} (hp : ys.Perm [a, b]) (hs : ys.Pairwise fun x y => leF x y = true) (h : leF b a = false) : ys = [a, b] := by
  match ys, hp.length_eq with
  | [x, y], _ =>
    rcases List.mem_cons.1 (hp.mem_iff.1 (List.mem_cons_self ..)) with rfl | hx
    · have := (List.perm_cons x).1 hp
      rw [List.perm_singleton.1 this]
    · have hx' : x = b := by simpa using hx
      subst hx'
      have h2 : [x, y].Perm [x, a] := hp.trans (List.Perm.swap x a [])
      have := (List.perm_cons x).1 h2
      have hy := List.perm_singleton.1 this
      cases hy
      simp [h] at hs

/-! ### The registry of sanity -/
def g0 : RS := RS.new 2 1
def g1 : RS := g0.add 7 [⟨1, 0, 1⟩, ⟨2, 0, 1⟩]
def g2 : RS := g1.bump 2 0
theorem g0_v1 : ver g0.vers (1, 1) = 1 := by decide
theorem g0_v2 : ver g0.vers (2, 1) = -1 := by decide
theorem g0_v3 : ver g0.vers (9, 0) = -1 := by decide
theorem g0_add : g0.addE 7 [⟨1, 0, 1⟩, ⟨2, 0, 1⟩] = 0 := by decide
theorem g1_eq : g1 = ⟨g0.vers, [(7, [⟨1, 0, 1⟩, ⟨2, 0, 1⟩])], 0⟩ := by
  unfold g1
  rw [RS.add_ok g0_add]
  rfl
theorem g1_holds : holds g1.vers g1.mods 7 = true := by rw [g1_eq]; decide
theorem g1_mods : g1.modules = [7] := by
  rw [g1_eq]
  simp [RS.modules, AL.keys]
theorem g1_bump : g1.bumpL 2 0 = [7] := by
  have h : ¬ ver g1.vers (2, 0) < 0 := by rw [g1_eq]; decide
  rw [(RS.bump_some h).2, g1_mods, g1_eq]
  decide
theorem g2_eq : g2 = ⟨AL.set g0.vers (2, 0) 2, [(7, [⟨1, 0, 1⟩, ⟨2, 0, 1⟩])], 1⟩ := by
  have h : ¬ ver g1.vers (2, 0) < 0 := by rw [g1_eq]; decide
  unfold g2
  rw [(RS.bump_some h).1, g1_eq]
  rfl
theorem g2_holds : holds g2.vers g2.mods 7 = false := by rw [g2_eq]; decide
theorem g2_add : g2.addE 8 [⟨2, 0, 1⟩] = 40 := by rw [g2_eq]; decide
theorem g2_same : g2.add 8 [⟨2, 0, 1⟩] = g2 := RS.add_same g2_add (by decide)
theorem g2_pos : ver g2.vers (1, 1) > 0 := by rw [g2_eq]; decide
theorem g2_facts : (fs0 g2.vers).map (ff g2.vers) = [⟨1, 1, 1⟩, ⟨2, 0, 2⟩] := by rw [g2_eq]; decide

end Go.Fx.Ytlfabjfajcbdcaa
