/-
  Chapter 14: the text of a profile, one way.
-/
import Derived.Test.YtdkjoljcffkpkaaDoorRh
set_option linter.unusedSimpArgs false
set_option linter.unusedVariables false
set_option linter.unusedSectionVars false
namespace Go.Fx.YtdkjoljcffkpkaaDoor
open Go Go.Fx Go.Proofs
set_option maxRecDepth 20000

def canon (s : PS) : List Pl := (AL.keys s.recs).mergeSort leP
def txt (s : PS) : ByteArray := ⟨(textL s (canon s)).toArray⟩
theorem leP_anti {a b : Pl} (h : leP a b = true) (g : leP b a = true) : a = b := by
  simp only [leP, decide_eq_true_eq] at h g
  exact Prod.ext (by omega) (by omega)
theorem canon_uniq {s : PS} {ys : List Pl} (hp : ys.Perm (AL.keys s.recs)) (hs : ys.Pairwise fun a b => leP a b = true) : ys = canon s := by
  refine List.Perm.eq_of_pairwise (le := fun a b => leP a b = true) (fun a b _ _ h g => leP_anti h g) hs ?_ (hp.trans (List.mergeSort_perm _ _).symm)
  exact List.pairwise_mergeSort leP_trans leP_total _
theorem sorted_pw {ys : List Pl} (h : SortedTo leP ys ys.length) : ys.Pairwise fun a b => leP a b = true := by
  rw [List.pairwise_iff_getElem]
  intro i j hi hj hij
  exact h i j hij hj _ _ (List.getElem?_eq_getElem hi) (List.getElem?_eq_getElem hj)
theorem bef_le {a b : Pl} (h : bef a b = true) : leP a b = true := by
  rw [bef_iff] at h
  simp only [leP, decide_eq_true_eq]
  omega
theorem spAL_keys (xs : List Sp) : AL.keys (spAL xs) = xs.map Sp.pl := by
  unfold AL.keys spAL
  rw [List.map_map]
  rfl
theorem canon_sp {s : PS} {xs : List Sp} (hs : SrtS xs) (ha : Agr xs s) (hk : AL.Ok s.recs) : xs.map Sp.pl = canon s := by
  refine canon_uniq ?_ ?_
  · refine (List.perm_ext_iff_of_nodup ?_ hk).2 fun k => ?_
    · rw [List.nodup_iff_pairwise_ne, List.pairwise_map]
      refine hs.imp ?_
      intro a b h e
      rw [e, bef_irr] at h
      cases h
    · rw [← spAL_keys, ← AL.get_some, ← AL.get_some, ha k]
  · rw [List.pairwise_map]
    exact hs.imp fun h => bef_le h
def PlOk (s : PS) : Prop := ∀ k ∈ AL.keys s.recs, (k.1 = 0 ∨ k.1 = 1) ∧ (k.2 = 0 ∨ k.2 = 1 ∨ k.2 = 2)
theorem PlOk.len {s : PS} (h : PlOk s) (hk : AL.Ok s.recs) : s.recs.length ≤ 6 := by
  have h1 := List.Nodup.length_le_of_subset (l₂ := [((0 : Int), (0 : Int)), (0, 1), (0, 2), (1, 0), (1, 1), (1, 2)]) hk (by
    intro k hk
    obtain ⟨a, b⟩ := k
    have := h _ hk
    simp only at this
    rcases this with ⟨rfl | rfl, rfl | rfl | rfl⟩ <;> simp)
  simpa [AL.keys] using h1
theorem PlOk.i64 {s : PS} (h : PlOk s) : ∀ k ∈ AL.keys s.recs, I64 k.1 ∧ I64 k.2 := fun k hk => by
  have := h k hk
  constructor <;> (constructor <;> omega)
theorem keys_oth {s t : PS} {k : Pl} (h : Oth k s t) {j : Pl} (hj : j ∈ AL.keys t.recs) : j = k ∨ j ∈ AL.keys s.recs := by
  by_cases e : j = k
  · exact .inl e
  · obtain ⟨v, hv⟩ := AL.get_some.2 hj
    rw [h.recs j e] at hv
    exact .inr (AL.get_some.1 ⟨v, hv⟩)
theorem PlOk.act {s : PS} (h : PlOk s) (x : Act) : PlOk (s.act x).1 := fun k hk => by
  rcases keys_oth (Oth.act s x) hk with rfl | hk
  · have h1 := Int.emod_nonneg x.a (show (2 : Int) ≠ 0 by decide)
    have h2 := Int.emod_lt_of_pos x.a (show (0 : Int) < 2 by decide)
    have h3 := Int.emod_nonneg x.a (show (3 : Int) ≠ 0 by decide)
    have h4 := Int.emod_lt_of_pos x.a (show (0 : Int) < 3 by decide)
    simp only [Act.pl]
    omega
  · exact h k hk
theorem PlOk.start (a b c d : Int) : PlOk (madeP a b c d) := fun k hk => by simp [madeP, AL.keys] at hk
theorem Text_canon {w : World} {R c : Hp} {p : Nat} {s : PS} (hprof : Prof R p s c) (hpc : Le c (hp w)) (hT : Tab (hp w)) (hn : s.n ≤ 1000000000) (hpl : PlOk s) : Calls Tryd.prog 14 #[ptr p 0] w fun e w' => e = .returned (.string (txt s)) ∧ Grow w w' := by
  have hk : AL.Ok s.recs := by
    obtain ⟨_, _, _, _, _, _, _, _, _, _, _, _, _, hok⟩ := hprof
    exact hok.keys
  refine (Text_spec hprof hpc hT hn (by have := hpl.len hk; omega) hpl.i64).mono ?_
  rintro e w' ⟨ys, hp, hs, rfl, hg⟩
  rw [canon_uniq hp (sorted_pw hs)]
  exact ⟨rfl, hg⟩
theorem txt_neg1 : (Wd.i (-1)).txt = (⟨#[45]⟩ : ByteArray) ++ ⟨#[49]⟩ := by
  apply ba_ext
  rw [app_list]
  simp only [Wd.txt]
  rw [show (-1 : Int) = -((1 : Nat) : Int) from rfl, Lib.itoa_neg 1 (by decide), Lib.decDigits]
  rfl
theorem text_step {s : PS} {xs : List Sp} {k : Nat} {x : Sp} (hk : k < xs.length) (hx : x = xs[k]) (hrc : s.rc x.pl = x.r) :
    ((((((((((((⟨(textL s ((xs.map Sp.pl).take k)).toArray⟩ : ByteArray) ++ (Wd.i x.pl.1).txt) ++ ⟨#[32]⟩) ++ (Wd.i x.pl.2).txt) ++ ⟨#[32]⟩) ++ (Wd.i x.r.tier).txt) ++ ⟨#[32]⟩) ++ (Wd.i x.r.calls).txt) ++ ⟨#[32]⟩) ++ (Wd.i x.r.count).txt) ++ ⟨#[32]⟩) ++ (Wd.i x.r.failures).txt) ++ ⟨#[10]⟩ =
      ⟨(textL s ((xs.map Sp.pl).take (k + 1))).toArray⟩ := by
  have hk' : k < (xs.map Sp.pl).length := by rw [List.length_map]; exact hk
  have hx' : (xs.map Sp.pl)[k] = x.pl := by rw [List.getElem_map, ← hx]
  rw [textL_take hk', hx']
  apply ba_ext
  simp only [app_list, lineB, lineW, hrc, joinW]
  simp [Lib.join, Wd.txt, List.intercalate]
theorem text_all {s : PS} {xs : List Sp} {k : Nat} (hk : xs.length ≤ k) (hc : xs.map Sp.pl = canon s) : (⟨(textL s ((xs.map Sp.pl).take k)).toArray⟩ : ByteArray) = txt s := by
  rw [List.take_of_length_le (by rw [List.length_map]; exact hk), hc]
  rfl
theorem acc_size {s : PS} {xs : List Sp} {k : Nat} {acc : ByteArray} (ha : acc = ⟨(textL s ((xs.map Sp.pl).take k)).toArray⟩) (hl : ∀ j ∈ xs.map Sp.pl, (lineB s j).size ≤ 1129) (hn : xs.length ≤ 1000000000) : acc.size ≤ 2000000000000 := by
  subst ha
  have h1 := textL_le (s := s) (ys := (xs.map Sp.pl).take k) fun x hx => hl x (List.mem_of_mem_take hx)
  have h2 : ((xs.map Sp.pl).take k).length ≤ xs.length := by rw [List.length_take, List.length_map]; omega
  have h3 : (⟨(textL s ((xs.map Sp.pl).take k)).toArray⟩ : ByteArray).size = (textL s ((xs.map Sp.pl).take k)).length := by simp [ByteArray.size]
  rw [h3]
  omega
end Go.Fx.YtdkjoljcffkpkaaDoor
