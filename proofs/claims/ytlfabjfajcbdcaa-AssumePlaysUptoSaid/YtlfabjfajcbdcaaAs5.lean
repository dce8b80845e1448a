/-
  Chapter 27: the modules of a registry, in order.
-/
import Derived.Test.YtlfabjfajcbdcaaAs4
import Derived.Test.YtlfabjfajcbdcaaFx15
import Derived.Test.YtlfabjfajcbdcaaSh
set_option linter.unusedSimpArgs false
set_option linter.unusedVariables false
namespace Go.Fx.Ytlfabjfajcbdcaa
open Go Go.Fx Go.Proofs
set_option maxRecDepth 20000

theorem Collect_spec {w : World} {R : Hp} {g : Nat} {lb : Array Value} {N : Nat} {S Sp : List Int → Prop} (hs : Sats w R []) (eg : Ent Try.prog g) (hN : N ≤ 1099511627776)
    (hg : ∀ R1, Le R R1 → Gives Try.prog g lb N S Sp (fun k => #[int k]) R1 [] (fun _ L' => L' = [])) :
    Calls Try.prog 44 #[.func (.func g) #[] lb] w (Comes' w R [] fun v' R' L' => ∃ c xs, L' = [c] ∧ S xs ∧ OwnL Ty.int 3 R' v' xs c) := by
  have hst := Step.refl hs
  refine calls_of_W (n := 5) Try.func44 rfl Try.ntmps44 (Nat.le_of_ble_eq_true rfl) ?_
  refine W_seq ?_
  refine W_region_lit ?_
  refine L_val (v := .slice none 0 0) (w' := w) rfl rfl rfl rfl ?_
  refine L_nil ?_
  refine W_seq ?_
  refine W_region_lit ?_
  refine L_val (v := .func (.func g) #[] lb) (w' := w) rfl rfl rfl rfl ?_
  refine L_callS [] [] hst rfl rfl rfl (x_call (vs := #[.slice none 0 0, .func (.func g) #[] lb]) rfl rfl (by kernel_rfl) (fun _ _ => by kernel_rfl)) (AppendSeq_spec hs eg hN hg) (fun v w1 R1 L1 hp hle hst1 => ?_)
  obtain ⟨c, xs, rfl, hS, how⟩ := hp
  refine L_val (v := v) (w' := w1) rfl rfl rfl rfl ?_
  refine L_nil ?_
  refine W_ret ?_
  refine ⟨_, _, res_run (rs := [.tmp 2]) (vs := [v]) Try.results44 (.cons (.tmp rfl) .nil) rfl, ?_⟩
  exact ⟨_, R1, [c], rfl, hst1, c, xs, rfl, hS, how⟩

/-- slices.Sort of what is one's own: the shelf's contract. -/
theorem SortOwn_spec {w : World} {R c : Hp} {v : Value} {xs : List Int} (hs : Sats w R [c]) (how : OwnL Ty.int 3 R v xs c) (hlen : xs.length ≤ 1099511627776) :
    Calls Try.prog 45 #[v] w (Comes' w R [c] fun v' R' L' => v' = .tuple #[] ∧ ∃ c', L' = [c'] ∧ OwnL Ty.int 3 R' v (xs.mergeSort leZ) c') := by
  by_cases hx : xs = []
  · subst hx
    obtain ⟨a, cap, rfl, _⟩ := how.value
    refine (Sort_nil (R := R) (a := a) (cap := cap) hs.r).mono ?_
    rintro e w' ⟨rfl, hg⟩
    exact ⟨_, R, [c], rfl, (Step.refl hs).grown hg, rfl, c, rfl, by simpa using how⟩
  · obtain ⟨b, cap, N, rfl, hc, hrow, hk⟩ := how.row (List.length_pos_iff.2 hx)
    have hst := Step.refl hs
    have hcl := hst.get (i := 0) rfl
    have hblk : b < w.heap.size := by
      obtain ⟨cs, rest, rfl, _, _⟩ := hrow
      exact hp_lt (by rw [hcl b _ (one_self _ _)]; simp)
    refine (Try.slices_Sort_int b 0 cap xs w (hrow.holds hcl) hblk (by omega)).mono ?_
    rintro e w' ⟨rfl, n, os, rfl⟩
    obtain ⟨c', hst', hrow'⟩ := Row.sorted (ys := xs.mergeSort fun x y => decide (x ≤ y)) hrow hst (by simp) n os
    exact ⟨_, R, [c'], rfl, hst', rfl, c', rfl, hk R _ c' (by simp) hrow'⟩

theorem Sorted_spec {w : World} {R : Hp} {g : Nat} {lb : Array Value} {N : Nat} {ks : List Int} {Sp : List Int → Prop} (hs : Sats w R []) (eg : Ent Try.prog g) (hN : N ≤ 1099511627776) (hk : ks.length ≤ 1099511627776)
    (hg : ∀ R1, Le R R1 → Gives Try.prog g lb N (fun xs => xs.Perm ks) Sp (fun k => #[int k]) R1 [] (fun _ L' => L' = [])) :
    Calls Try.prog 28 #[.func (.func g) #[] lb] w (Comes' w R [] fun v' R' L' => ∃ c, L' = [c] ∧ OwnL Ty.int 3 R' v' (ks.mergeSort leZ) c) := by
  have hst := Step.refl hs
  refine calls_of_W (n := 9) Try.func28 rfl Try.ntmps28 (Nat.le_of_ble_eq_true rfl) ?_
  refine W_seq ?_
  refine W_region_lit ?_
  refine L_val (v := .slice none 0 0) (w' := w) rfl rfl rfl rfl ?_
  refine L_nil ?_
  refine W_seq ?_
  refine W_region_lit ?_
  refine L_val (v := .func (.func g) #[] lb) (w' := w) rfl rfl rfl rfl ?_
  refine L_callS [] [] hst rfl rfl rfl (x_call (vs := #[.func (.func g) #[] lb]) rfl rfl (by kernel_rfl) (fun _ _ => by kernel_rfl)) (Collect_spec hs eg hN hg) (fun v w1 R1 L1 hp hle hst1 => ?_)
  obtain ⟨c, xs, rfl, hS, how⟩ := hp
  refine L_val (v := v) (w' := w1) rfl rfl rfl rfl ?_
  refine L_nil ?_
  refine W_seq ?_
  refine W_region_lit ?_
  refine L_val (v := v) (w' := w1) rfl rfl rfl rfl ?_
  refine L_callS [c] [] hst1 rfl rfl rfl (x_call (vs := #[v]) rfl rfl (by kernel_rfl) (fun _ _ => by kernel_rfl)) (SortOwn_spec hst1.sats how (by rw [hS.length_eq]; exact hk)) (fun v2 w2 R2 L2 hp2 hle2 hst2 => ?_)
  obtain ⟨rfl, c2, rfl, how2⟩ := hp2
  refine L_nil ?_
  refine W_seq ?_
  refine W_region_lit ?_
  refine L_val (v := v) (w' := w2) rfl rfl rfl rfl ?_
  refine L_val (v := v) (w' := w2) rfl rfl rfl rfl ?_
  refine L_nil ?_
  refine W_ret ?_
  refine ⟨_, _, res_run (rs := [.tmp 2]) (vs := [v]) Try.results28 (.cons (.tmp rfl) .nil) rfl, ?_⟩
  have e : xs.mergeSort leZ = ks.mergeSort leZ :=
    sorted_eq leZ_trans leZ_total leZ_anti (List.pairwise_mergeSort leZ_trans leZ_total xs) ((List.mergeSort_perm xs leZ).trans hS)
  exact ⟨_, R2, [c2], rfl, hst2, c2, rfl, by rw [← e]; exact how2⟩

theorem keys_len {m : List (Int × List Fact)} : (AL.keys m).length = m.length := by simp [AL.keys]

/-- Modules, of a registry that may be read. -/
theorem Modules_spec {w : World} {R : Hp} {p bm : Nat} {bv : Option Nat} {vr : List Fact → Value → Prop} {m : List (Int × List Fact)} {cM : Hp} (hs : Sats w R []) (h1 : Le (one p (.cells #[.map bv, .map (some bm)] 60 (0, 0))) R)
    (hM : MapC (Value.int .i64) vr (some bm) m cM) (h3 : Le cM R) (hlen : m.length ≤ 1099511627776) :
    Calls Try.prog 13 #[ptr p 0] w (Comes' w R [] fun v' R' L' => ∃ c, L' = [c] ∧ OwnL Ty.int 3 R' v' ((AL.keys m).mergeSort leZ) c) := by
  have hst := Step.refl hs
  refine calls_of_W (n := 11) Try.func13 rfl Try.ntmps13 (Nat.le_of_ble_eq_true rfl) ?_
  refine W_seq ?_
  refine W_region_lit ?_
  refine L_val (v := .slice none 0 0) (w' := w) rfl rfl rfl rfl ?_
  refine L_nil ?_
  refine W_seq ?_
  refine W_seq ?_
  refine W_region_lit ?_
  refine L_val (v := ptr p 0) (w' := w) rfl rfl rfl rfl ?_
  refine L_val (v := .bool false) (w' := w) rfl rfl rfl (by kernel_rfl) ?_
  refine L_nil ?_
  refine W_cond_false rfl ?_
  refine W_skip ?_
  refine W_seq ?_
  refine W_region_lit ?_
  refine L_val (v := ptr p 0) (w' := w) rfl rfl rfl rfl ?_
  refine L_val (v := ptr p 0) (w' := w) rfl rfl rfl rfl ?_
  refine L_val (v := ptr p 1) (w' := w) rfl rfl rfl (by kernel_rfl) ?_
  refine L_val (v := .map (some bm)) (w' := w) rfl rfl rfl (x_load rfl rfl (run_loadVar_one ti58 (hst.rle' _ _ (h1 _ _ (one_self _ _))) rfl)) ?_
  have hkeys : Calls Try.prog 29 #[.map (some bm)] w (Comes' w R [] fun v' R' L' => ∃ q, v' = .func (.func 46) #[] #[ptr q 0] ∧ L' = [one q (.cells #[.map (some bm)] 58 (0, 0))]) := by
    refine calls_of_W (n := 4) Try.func29 rfl Try.ntmps29 (Nat.le_of_ble_eq_true rfl) ?_
    refine W_seq ?_
    refine W_region_lit ?_
    refine L_new hst (v := fun b => ptr b 0) (ob := .cells #[.map (some bm)] 58 (0, 0)) rfl rfl rfl (by kernel_rfl) (fun q w1 hst1 => ?_)
    refine L_val (v := .nilFunc) (w' := w1) rfl rfl rfl rfl ?_
    refine L_nil ?_
    refine W_seq ?_
    refine W_region_lit ?_
    refine L_val (v := .func (.func 46) #[] #[ptr q 0]) (w' := w1) rfl rfl rfl (by kernel_rfl) ?_
    refine L_val (v := .func (.func 46) #[] #[ptr q 0]) (w' := w1) rfl rfl rfl rfl ?_
    refine L_nil ?_
    refine W_ret ?_
    refine ⟨_, _, res_run (rs := [.tmp 2]) (vs := [.func (.func 46) #[] #[ptr q 0]]) Try.results29 (.cons (.tmp rfl) .nil) rfl, ?_⟩
    exact ⟨_, R, _, rfl, hst1, q, rfl, rfl⟩
  refine L_callS [] [] hst rfl rfl rfl (x_call (vs := #[.map (some bm)]) rfl rfl (by kernel_rfl) (fun _ _ => by kernel_rfl)) hkeys (fun v w1 R1 L1 hp hle hst1 => ?_)
  obtain ⟨q, rfl, rfl⟩ := hp
  obtain ⟨R2, hst2, hle2, hq⟩ := Step.frz hst1
  refine L_callS [] [] hst2 rfl rfl rfl (x_call (vs := #[.func (.func 46) #[] #[ptr q 0]]) rfl rfl (by kernel_rfl) (fun _ _ => by kernel_rfl))
    (Sorted_spec (N := m.length) (ks := AL.keys m) (Sp := fun _ => True) hst2.sats ent46 (by omega) (by rw [keys_len]; exact hlen) (fun R3 hle3 => Keys1_gives (hq.trans hle3) hM ((h3.trans hle).trans (hle2.trans hle3)))) (fun v3 w3 R3 L3 hp3 hle3 hst3 => ?_)
  obtain ⟨c, rfl, how⟩ := hp3
  refine L_val (v := v3) (w' := w3) rfl rfl rfl rfl ?_
  refine L_nil ?_
  refine W_ret ?_
  refine ⟨_, _, res_run (rs := [.tmp 2]) (vs := [v3]) Try.results13 (.cons (.tmp rfl) .nil) rfl, ?_⟩
  exact ⟨_, R3, [c], rfl, hst3, c, rfl, how⟩

/-! ### For Bump -/
def RS.brk (s : RS) (kind n k : Int) : Bool := ((AL.get s.mods k).getD []).any (usesF kind n) && holds s.vers s.mods k
theorem filt_yes {P : Int → Bool} {l : List Int} {k : Nat} (hk : k < l.length) (h : P (l[k]'hk) = true) : (l.take (k + 1)).filter P = (l.take k).filter P ++ [l[k]'hk] := by
  rw [List.take_succ_eq_append_getElem hk, List.filter_append]
  simp [h]
theorem filt_no {P : Int → Bool} {l : List Int} {k : Nat} (hk : k < l.length) (h : P (l[k]'hk) = false) : (l.take (k + 1)).filter P = (l.take k).filter P := by
  rw [List.take_succ_eq_append_getElem hk, List.filter_append]
  simp [h]
theorem brk_yes {s : RS} {kind n k : Int} (h1 : List.any ((AL.get s.mods k).getD []) (usesF kind n) = true) (h2 : holds s.vers s.mods k = true) : s.brk kind n k = true := by
  unfold RS.brk; rw [h1, h2]; rfl
theorem brk_no1 {s : RS} {kind n k : Int} (h1 : List.any ((AL.get s.mods k).getD []) (usesF kind n) = false) : s.brk kind n k = false := by
  unfold RS.brk; rw [h1]; rfl
theorem brk_no2 {s : RS} {kind n k : Int} (h2 : holds s.vers s.mods k = false) : s.brk kind n k = false := by
  unfold RS.brk; rw [h2, Bool.and_false]
theorem ver_ne {m : List (Th × Int)} {k : Th} (h : ¬ ver m k < 0) : m ≠ [] := by
  rintro rfl
  exact h (show (-1 : Int) < 0 by decide)
theorem ver_there {m : List (Th × Int)} {k : Th} (h : ¬ ver m k < 0) : AL.get m k ≠ none := by
  intro e
  unfold ver at h
  rw [e] at h
  exact h (show (-1 : Int) < 0 by decide)
theorem filt_len (P : Int → Bool) (l : List Int) (k : Nat) : ((l.take k).filter P).length ≤ l.length := by
  have h1 := List.length_filter_le P (l.take k)
  have h2 : (l.take k).length ≤ l.length := by simp; omega
  omega
theorem RS.Ok.lo {s : RS} (h : s.Ok) (k : Th) : 0 ≤ (AL.get s.vers k).getD 0 ∧ (AL.get s.vers k).getD 0 ≤ s.cnt + 1 := by
  cases e : AL.get s.vers k with
  | none => simp; omega
  | some v => have := h.low k v e; simp; omega
theorem RS.bump_none {s : RS} {kind n : Int} (h : ver s.vers (kind, n) < 0) : s.bump kind n = s ∧ s.bumpL kind n = [] := by
  unfold RS.bump RS.bumpL
  rw [if_pos h, if_pos h]
  exact ⟨rfl, rfl⟩
theorem RS.bump_some {s : RS} {kind n : Int} (h : ¬ ver s.vers (kind, n) < 0) : s.bump kind n = { s with vers := AL.set s.vers (kind, n) ((AL.get s.vers (kind, n)).getD 0 + 1), cnt := s.cnt + 1 } ∧ s.bumpL kind n = s.modules.filter (s.brk kind n) := by
  unfold RS.bump RS.bumpL
  rw [if_neg h, if_neg h]
  exact ⟨rfl, rfl⟩
theorem RS.modules_eq (s : RS) : (AL.keys s.mods).mergeSort leZ = s.modules := rfl
theorem RS.modules_len (s : RS) : s.modules.length = s.mods.length := by simp [RS.modules, AL.keys]

end Go.Fx.Ytlfabjfajcbdcaa
