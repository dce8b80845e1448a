/-
  Sp3, Sq1, Sp4, Sq2, Sp5, Sq3, Srt, Sh, put together.
-/
import Derived.Test.YtjpdhfhiimbpgaaGreatDoorPP1
import Derived.Shelf.SlSortCmp.WholeK
import Derived.Test.YtjpdhfhiimbpgaaGreatDoorProg
import Derived.Shelf.Strings.Builder1
import Derived.Shelf.Strings.Builder2
import Derived.Shelf.Strings.OnBuilder
import Derived.Shelf.Small.Bits
import Derived.Shelf.Small.Strs
import Derived.Shelf.Strings.BuilderF
import Derived.Shelf.Strconv.Itoa0
import Derived.Shelf.Strconv.Itoa1
import Derived.Shelf.LaysM
import Derived.Shelf.Strconv.Itoa2
import Derived.Shelf.Strconv.Itoa3
import Derived.Shelf.Sort.Plain
import Derived.Shelf.Slices.CompactS
import Derived.Shelf.Slices.Cells
import Derived.Shelf.Slices.In.SortNone
set_option linter.unusedSimpArgs false
set_option linter.unusedVariables false
set_option linter.unusedSectionVars false
namespace Go.Fx.YtjpdhfhiimbpgaaGreatDoor
open Go Go.Fx Go.Proofs
set_option maxRecDepth 20000
theorem RdS.nil {α : Type} {ty : Ty α} {R : Hp} {cap : Nat} {n : Nat} {xs : List α} (h : RdS ty R (.slice none n cap) xs) : xs = [] := by
  obtain ⟨a, c, e, _, hb⟩ := h
  apply Classical.byContradiction
  intro hne
  obtain ⟨b, off, cs, T, fz, ea, _⟩ := hb hne
  cases e
  cases ea
theorem TreeR.can {R : Hp} {p : Nat} {l : List Nd} {rs : List Int} (h : TreeR R p l rs) : Cans l := by
  obtain ⟨_, _, _, _, _, _, h, _⟩ := h
  exact h.can
theorem Cn.inv {l : List Nd} {d k c : Nat} (h : Cn l d k c) {hk : k < l.length} (ha : 0 ≤ l[k].ali) : ∃ d' a : Nat, d = d' + 1 ∧ l[k].ali = (a : Int) ∧ Cn l d' a c := by
  cases h with
  | here hk2 h3 => omega
  | step hk2 h3 hc => exact ⟨_, _, rfl, h3, hc⟩
theorem Cn.stop {l : List Nd} {d k c : Nat} (h : Cn l d k c) {hk : k < l.length} (ha : l[k].ali < 0) : c = k := by
  cases h with
  | here hk2 h3 => rfl
  | step hk2 h3 hc => omega
theorem ret_int {a b : Int} (h : a = b) : Ending.returned (retV [int a]) = .returned (int b) := by subst h; rfl
theorem ret_bool {a b : Bool} (h : a = b) : Ending.returned (retV [.bool a]) = .returned (.bool b) := by subst h; rfl
def ndL (l : List Nd) (k : Nat) : Nd := l.getD k nd0
theorem ndL_eq {l : List Nd} {k : Nat} (h : k < l.length) : ndL l k = l[k] := by unfold ndL; rw [List.getD_eq_getElem?_getD, List.getElem?_eq_getElem h]; rfl
def namesL (l : List Nd) (k : Int) : List Str := if thereL l k = true then (ndL l k.toNat).names else []
theorem namesL_out {l : List Nd} {k : Int} (h : thereL l k = false) : namesL l k = [] := by unfold namesL; rw [h]; rfl
theorem namesL_in {l : List Nd} {k : Nat} (h : k < l.length) : namesL l (k : Int) = l[k].names := by unfold namesL; rw [if_pos (thereL_in h), Int.toNat_natCast, ndL_eq h]
def idxS (t : Str) : List Str → Int
  | [] => -1
  | x :: xs => if t = x then 0 else if idxS t xs < 0 then -1 else idxS t xs + 1
theorem idxS_none {t : Str} {xs : List Str} (h : ∀ j (hj : j < xs.length), ¬ t = xs[j]) : idxS t xs = -1 := by
  induction xs with
  | nil => rfl
  | cons x xs ih =>
    unfold idxS
    have h0 := h 0 (by simp)
    simp only [List.getElem_cons_zero] at h0
    rw [if_neg h0, ih (fun j hj => h (j + 1) (by simpa using hj))]
    rfl
theorem idxS_at {t : Str} {xs : List Str} {k : Nat} (hk : k < xs.length) (h : ∀ j (hj : j < xs.length), j < k → ¬ t = xs[j]) (e : t = xs[k]) : idxS t xs = (k : Int) := by
  induction xs generalizing k with
  | nil => simp at hk
  | cons x xs ih =>
    unfold idxS
    cases k with
    | zero => rw [if_pos (by simpa using e)]; rfl
    | succ k =>
      have hn := h 0 (by simp) (by omega)
      simp only [List.getElem_cons_zero] at hn
      rw [if_neg hn, ih (k := k) (by simpa using hk) (fun j hj hjk => h (j + 1) (by simpa using hj) (by omega)) (by simpa using e), if_neg (by omega)]
      omega
theorem idxS_mem (t : Str) (xs : List Str) : decide (idxS t xs ≥ 0) = decide (t ∈ xs) := by
  rw [decide_eq_decide]
  induction xs with
  | nil => simp [idxS]
  | cons x xs ih =>
    unfold idxS
    rw [List.mem_cons, ← ih]
    by_cases e : t = x
    · rw [if_pos e]; simp [e]
    · rw [if_neg e]
      split <;> rename_i h
      · constructor
        · intro h2; omega
        · rintro (h2 | h2)
          · exact absurd h2 e
          · omega
      · constructor
        · intro h2; right; omega
        · intro h2; omega
theorem allS_step {t : Str} {xs : List Str} {k : Nat} {hk : k < xs.length} (h : ∀ j (hj : j < xs.length), j < k → ¬ t = xs[j]) (e : ¬ t = xs[k]) : ∀ j (hj : j < xs.length), j < k + 1 → ¬ t = xs[j] := fun j hj hjk => by
  by_cases e2 : j = k
  · subst e2; exact e
  · exact h j hj (by omega)
def slotL (l : List Nd) (k : Int) (t : Str) : Int × Bool := if thereL l k = true then (max (idxS t (ndL l k.toNat).names) 0, decide (idxS t (ndL l k.toNat).names ≥ 0)) else (0, false)
theorem slotL_in {l : List Nd} {k : Nat} {t : Str} (h : k < l.length) : slotL l (k : Int) t = (max (idxS t l[k].names) 0, decide (idxS t l[k].names ≥ 0)) := by unfold slotL; rw [if_pos (thereL_in h), Int.toNat_natCast, ndL_eq h]
theorem eqS_all {xs ys : List Str} {k : Nat} (h1 : xs.length = ys.length) (h2 : xs.length ≤ k) (h : ∀ j, j < k → xs[j]? = ys[j]?) : xs = ys := by
  apply List.ext_getElem? 
  intro j
  by_cases hj : j < xs.length
  · exact h j (by omega)
  · rw [List.getElem?_eq_none (by omega), List.getElem?_eq_none (by omega)]
theorem eqS_not {xs ys : List Str} {k : Nat} (h1 : k < xs.length) (h2 : k < ys.length) (h : ¬ xs[k] = ys[k]) : ¬ xs = ys := fun e => h (by subst e; rfl)
theorem eqS_step {xs ys : List Str} {k : Nat} (h : ∀ j, j < k → xs[j]? = ys[j]?) (h1 : k < xs.length) (h2 : k < ys.length) (e : xs[k] = ys[k]) : ∀ j, j < k + 1 → xs[j]? = ys[j]? := fun j hj => by
  by_cases e2 : j = k
  · subst e2; rw [List.getElem?_eq_getElem h1, List.getElem?_eq_getElem h2, e]
  · exact h j (by omega)
theorem sameN_cls {a b : Nd} (h : ¬ a.cls = b.cls) : sameN a b = false := by unfold sameN; exact decide_eq_false fun e => h e.1
theorem sameN_eq {a b : Nd} (h : a.cls = b.cls) : sameN a b = decide (a.names = b.names) := by unfold sameN; simp [h]
def encNd (x : Nd) (u : Value) : Value := .agg #[.int .i64 x.cls, .int .i64 x.ali, u]
def findP (cls : Int) (names : List Str) (x : Nd) : Bool := decide (x.ali < 0) && sameN x ⟨cls, 0, names⟩
def idxN (pr : Nd → Bool) : List Nd → Int
  | [] => -1
  | x :: xs => if pr x = true then 0 else if idxN pr xs < 0 then -1 else idxN pr xs + 1
theorem idxN_none {pr : Nd → Bool} {xs : List Nd} (h : ∀ j (hj : j < xs.length), pr xs[j] = false) : idxN pr xs = -1 := by
  induction xs with
  | nil => rfl
  | cons x xs ih =>
    unfold idxN
    have h0 := h 0 (by simp)
    simp only [List.getElem_cons_zero] at h0
    rw [h0, ih (fun j hj => h (j + 1) (by simpa using hj))]
    rfl
theorem idxN_at {pr : Nd → Bool} {xs : List Nd} {k : Nat} (hk : k < xs.length) (h : ∀ j (hj : j < xs.length), j < k → pr xs[j] = false) (e : pr xs[k] = true) : idxN pr xs = (k : Int) := by
  induction xs generalizing k with
  | nil => simp at hk
  | cons x xs ih =>
    unfold idxN
    cases k with
    | zero => rw [if_pos (by simpa using e)]; rfl
    | succ k =>
      have hn := h 0 (by simp) (by omega)
      simp only [List.getElem_cons_zero] at hn
      rw [hn, ih (k := k) (by simpa using hk) (fun j hj hjk => h (j + 1) (by simpa using hj) (by omega)) (by simpa using e)]
      simp only [Bool.false_eq_true, if_false]
      rw [if_neg (by omega)]
      omega
theorem idxN_find (pr : Nd → Bool) (xs : List Nd) : (idxN pr xs = -1 ∧ xs.findIdx? pr = none) ∨ ∃ k : Nat, idxN pr xs = (k : Int) ∧ xs.findIdx? pr = some k := by
  induction xs with
  | nil => left; exact ⟨rfl, rfl⟩
  | cons x xs ih =>
    rw [List.findIdx?_cons]
    unfold idxN
    cases e : pr x with
    | true => right; exact ⟨0, by simp, by simp⟩
    | false =>
      rcases ih with ⟨h1, h2⟩ | ⟨k, h1, h2⟩
      · left; rw [h1, h2]; exact ⟨by simp, by simp⟩
      · right; rw [h1, h2]; refine ⟨k + 1, ?_, by simp⟩
        simp only [Bool.false_eq_true, if_false]
        rw [if_neg (by omega)]
        omega
theorem allN_step {pr : Nd → Bool} {xs : List Nd} {k : Nat} {hk : k < xs.length} (h : ∀ j (hj : j < xs.length), j < k → pr xs[j] = false) (e : pr xs[k] = false) : ∀ j (hj : j < xs.length), j < k + 1 → pr xs[j] = false := fun j hj hjk => by
  by_cases e2 : j = k
  · subst e2; exact e
  · exact h j hj (by omega)
def findL (l : List Nd) (cls : Int) (names : List Str) : Int × Bool := (max (idxN (findP cls names) l) 0, decide (idxN (findP cls names) l ≥ 0))
theorem findL_eq (l : List Nd) (cls : Int) (names : List Str) : (l.findIdx? (findP cls names) = none ∧ findL l cls names = (0, false)) ∨ ∃ k : Nat, l.findIdx? (findP cls names) = some k ∧ findL l cls names = ((k : Int), true) := by
  unfold findL
  rcases idxN_find (findP cls names) l with ⟨h1, h2⟩ | ⟨k, h1, h2⟩
  · left; rw [h1]; exact ⟨h2, rfl⟩
  · right; rw [h1]; exact ⟨k, h2, by rw [Prod.mk.injEq]; exact ⟨by omega, decide_eq_true (by omega)⟩⟩
def rootL (l : List Nd) (rs : List Int) (k : Int) : Int := if 0 ≤ k ∧ k < (rs.length : Int) then canon l (rs.getD k.toNat 0) else -1
theorem rootL_out {l : List Nd} {rs : List Int} {k : Int} (h : ¬ (0 ≤ k ∧ k < (rs.length : Int))) : rootL l rs k = -1 := by unfold rootL; rw [if_neg h]
theorem rootL_in {l : List Nd} {rs : List Int} {k : Nat} (h : k < rs.length) : rootL l rs (k : Int) = canon l rs[k] := by
  unfold rootL
  rw [if_pos (by omega), Int.toNat_natCast, List.getD_eq_getElem?_getD, List.getElem?_eq_getElem h]
  rfl
end Go.Fx.YtjpdhfhiimbpgaaGreatDoor
set_option linter.unusedSimpArgs false
set_option linter.unusedVariables false
namespace Go.Fx.YtjpdhfhiimbpgaaGreatDoor
open Go Go.Fx Go.Proofs
set_option maxRecDepth 20000
theorem ent_21 : Ent Tryz.prog 21 := fun _ _ => by kernel_rfl
theorem ent_51 : Ent Tryz.prog 51 := fun _ _ => by kernel_rfl
theorem ent_52 : Ent Tryz.prog 52 := fun _ _ => by kernel_rfl
theorem ent_53 : Ent Tryz.prog 53 := fun _ _ => by kernel_rfl
theorem ent_54 : Ent Tryz.prog 54 := fun _ _ => by kernel_rfl
theorem ent_55 : Ent Tryz.prog 55 := fun _ _ => by kernel_rfl
theorem ent_60 : Ent Tryz.prog 60 := fun _ _ => by kernel_rfl
theorem ent_61 : Ent Tryz.prog 61 := fun _ _ => by kernel_rfl
theorem hmix : Tryz.prog.follows .mixedOrders = true := by kernel_rfl
theorem sl_42 : SL Tryz.prog 42 9 := Tryz.underlying42
theorem sl_61 : SL Tryz.prog 61 85 := Tryz.underlying61
theorem sl_62 : SL Tryz.prog 62 3 := Tryz.underlying62
theorem ti_3 : TI Tryz.prog 3 false 1 8 (.int .i64 0) := ⟨by kernel_rfl, by kernel_rfl⟩
theorem ti_42 : TI Tryz.prog 42 false 1 24 (.slice none 0 0) := ⟨by kernel_rfl, by kernel_rfl⟩
theorem ti_61 : TI Tryz.prog 61 false 1 24 (.slice none 0 0) := ⟨by kernel_rfl, by kernel_rfl⟩
theorem ti_62 : TI Tryz.prog 62 false 1 24 (.slice none 0 0) := ⟨by kernel_rfl, by kernel_rfl⟩
theorem ti_85 : TI Tryz.prog 85 true 3 40 (.agg #[(.int .i64 0), (.int .i64 0), (.slice none 0 0)]) := ⟨by kernel_rfl, by kernel_rfl⟩
theorem ti_9 : TI Tryz.prog 9 false 1 16 (.string ⟨#[]⟩) := ⟨by kernel_rfl, by kernel_rfl⟩
theorem there_spec {w : World} {R : Hp} {p : Nat} {l : List Nd} {rs : List Int} (k : Int) (hT : TreeR R p l rs) (hR : Le R (hp w)) :
    Calls Tryz.prog 51 #[ptr p 0, int k] w fun e w' => e = .returned (.bool (thereL l k)) ∧ Grow w w' := by
 have hT0 := hT
 obtain ⟨vN, vR, bm, hp0, hN, hRs, hS, hrv, hrl⟩ := hT
 have hlen := hS.len
 have hst := Step.ro hR
 refine calls_of_W (n := 20) Tryz.func51 rfl Tryz.ntmps51 (Nat.le_of_ble_eq_true rfl) ?_
 refine W_seq ?_
 refine W_region_lit ?_
 refine Lq (.bool false) rfl rfl rfl rfl ?_
 refine L_nil ?_
 refine W_seq ?_
 refine W_region_lit ?_
 refine Lq (ptr p 0) rfl rfl rfl rfl ?_
 refine Lq (.bool true) rfl rfl rfl (by kernel_rfl) ?_
 refine Lq (.bool true) rfl rfl rfl rfl ?_
 refine L_guard rfl rfl rfl rfl rfl ?_
 refine Lq (int k) rfl rfl rfl rfl ?_
 refine L_guard rfl rfl rfl rfl rfl ?_
 refine Lq (.bool (decide (k ≥ 0))) rfl rfl rfl (by kernel_rfl) ?_
 refine Lq (.bool (decide (k ≥ 0))) rfl rfl rfl rfl ?_
 refine Lq (.bool (decide (k ≥ 0))) rfl rfl rfl rfl ?_
 rcases Bool.eq_false_or_eq_true (decide (k ≥ 0)) with c1 | c1
 ·
  have q2 := of_decide_eq_true c1
  refine L_guard rfl rfl rfl rfl c1 ?_
  refine Lq (int k) rfl rfl rfl rfl ?_
  refine L_guard rfl rfl rfl rfl c1 ?_
  refine Lq (ptr p 0) rfl rfl rfl rfl ?_
  refine L_guard rfl rfl rfl rfl c1 ?_
  refine Lq (ptr p 0) rfl rfl rfl rfl ?_
  refine L_guard rfl rfl rfl rfl c1 ?_
  refine Lq (ptr p 0) rfl rfl rfl (by kernel_rfl) ?_
  refine L_guard rfl rfl rfl rfl c1 ?_
  refine Lq vN rfl rfl rfl (x_load rfl rfl (run_loadVar_one ti_61 (hst.rle' _ _ (hp0 _ _ (one_self _ _))) rfl)) ?_
  refine L_guard rfl rfl rfl rfl c1 ?_
  obtain ⟨a3, cap4, e5, hc6⟩ := hN.shape
  subst e5
  refine Lq (int (l.length : Int)) rfl rfl rfl (x_len_slice rfl sl_61 rfl) ?_
  refine L_guard rfl rfl rfl rfl c1 ?_
  refine Lq (.bool (decide (k < (l.length : Int)))) rfl rfl rfl (by kernel_rfl) ?_
  refine Lq (.bool (decide (k < (l.length : Int)))) rfl rfl rfl (x_pick rfl rfl (by rw [c1]; rfl)) ?_
  refine Lq (.bool (decide (k < (l.length : Int)))) rfl rfl rfl rfl ?_
  refine L_nil ?_
  refine W_ret ?_
  refine ⟨_, _, res_run (rs := [.tmp 4]) (vs := [(.bool (decide (k < (l.length : Int))))]) Tryz.results51 (.cons (.tmp rfl) .nil) rfl, ?_⟩
  exact ⟨ret_bool (by unfold thereL; rw [Bool.eq_iff_iff]; (try simp only [decide_eq_true_eq, Bool.false_eq_true, false_iff, true_iff]); omega), hst.grow⟩
 ·
  have q7 := of_decide_eq_false c1
  refine L_unwanted rfl rfl rfl rfl (by rw [c1]; try rfl) rfl rfl ?_
  refine L_unwanted rfl rfl rfl rfl (by rw [c1]; try rfl) rfl rfl ?_
  refine L_unwanted rfl rfl rfl rfl (by rw [c1]; try rfl) rfl rfl ?_
  refine L_unwanted rfl rfl rfl rfl (by rw [c1]; try rfl) rfl rfl ?_
  refine L_unwanted rfl rfl rfl rfl (by rw [c1]; try rfl) rfl rfl ?_
  refine L_unwanted rfl rfl rfl rfl (by rw [c1]; try rfl) rfl rfl ?_
  refine L_unwanted rfl rfl rfl rfl (by rw [c1]; try rfl) rfl rfl ?_
  refine Lq (.bool false) rfl rfl rfl (x_pick rfl rfl (by rw [c1]; rfl)) ?_
  refine Lq (.bool false) rfl rfl rfl rfl ?_
  refine L_nil ?_
  refine W_ret ?_
  refine ⟨_, _, res_run (rs := [.tmp 4]) (vs := [(.bool false)]) Tryz.results51 (.cons (.tmp rfl) .nil) rfl, ?_⟩
  exact ⟨ret_bool (by unfold thereL; rw [Bool.eq_iff_iff]; (try simp only [decide_eq_true_eq, Bool.false_eq_true, false_iff, true_iff]); omega), hst.grow⟩
theorem Canon_out {w : World} {R : Hp} {p : Nat} {l : List Nd} {rs : List Int} {k : Int} (hk : ¬ (0 ≤ k ∧ k < (l.length : Int))) (hT : TreeR R p l rs) (hR : Le R (hp w)) :
    Calls Tryz.prog 21 #[ptr p 0, int k] w fun e w' => e = .returned (int (-1)) ∧ Grow w w' := by
 have hT0 := hT
 obtain ⟨vN, vR, bm, hp0, hN, hRs, hS, hrv, hrl⟩ := hT
 have hlen := hS.len
 have hst := Step.ro hR
 refine calls_of_W (n := 24) Tryz.func21 rfl Tryz.ntmps21 (Nat.le_of_ble_eq_true rfl) ?_
 refine W_seq ?_
 refine W_region_lit ?_
 refine Lq (int 0) rfl rfl rfl rfl ?_
 refine L_nil ?_
 refine W_seq ?_
 refine W_seq ?_
 refine W_region_lit ?_
 refine Lq (ptr p 0) rfl rfl rfl rfl ?_
 refine Lq (int k) rfl rfl rfl rfl ?_
 refine L_callG hst (v := (.bool (thereL l k))) rfl rfl rfl (x_call (vs := #[(ptr p 0), (int k)]) rfl rfl (by kernel_rfl) ent_51) (there_spec k hT0 hst.rle') (fun w1 hst2 => ?_)
 refine Lq (.bool (!(thereL l k))) rfl rfl rfl rfl ?_
 refine L_nil ?_
 have c3 : (thereL l k) = false := (thereL_not.2 hk)
 have q4 := thereL_not.1 c3
 refine W_cond_true (by show Value.bool _ = _; exact congrArg Value.bool (by rw [c3]; rfl)) ?_
 refine W_seq ?_
 refine W_region_lit ?_
 refine Lq (int (-1)) rfl rfl rfl rfl ?_
 refine L_nil ?_
 refine W_ret ?_
 refine ⟨_, _, res_run (rs := [.tmp 4]) (vs := [(int (-1))]) Tryz.results21 (.cons (.tmp rfl) .nil) rfl, ?_⟩
 exact ⟨rfl, hst2.grow⟩
theorem Canon_in {w : World} {R : Hp} {p : Nat} {l : List Nd} {rs : List Int} {d k c : Nat} (hc : Cn l d k c) (hT : TreeR R p l rs) (hR : Le R (hp w)) :
    Calls Tryz.prog 21 #[ptr p 0, int (k : Int)] w fun e w' => e = .returned (int (c : Int)) ∧ Grow w w' := by
 refine Nat.strongRecOn (motive := fun d => ∀ {k c : Nat} {w : World}, Cn l d k c → Le R (hp w) → Calls Tryz.prog 21 #[ptr p 0, int (k : Int)] w fun e w' => e = .returned (int (c : Int)) ∧ Grow w w') d ?_ hc hR
 clear hc hR k c d w
 intro d ih k c w hc hR
 have hR0 := hR
 have hk := hc.fst
 have hT0 := hT
 obtain ⟨vN, vR, bm, hp0, hN, hRs, hS, hrv, hrl⟩ := hT
 have hlen := hS.len
 have hst := Step.ro hR
 refine calls_of_W (n := 24) Tryz.func21 rfl Tryz.ntmps21 (Nat.le_of_ble_eq_true rfl) ?_
 refine W_seq ?_
 refine W_region_lit ?_
 refine Lq (int 0) rfl rfl rfl rfl ?_
 refine L_nil ?_
 refine W_seq ?_
 refine W_seq ?_
 refine W_region_lit ?_
 refine Lq (ptr p 0) rfl rfl rfl rfl ?_
 refine Lq (int (k : Int)) rfl rfl rfl rfl ?_
 refine L_callG hst (v := (.bool (thereL l (k : Int)))) rfl rfl rfl (x_call (vs := #[(ptr p 0), (int (k : Int))]) rfl rfl (by kernel_rfl) ent_51) (there_spec (k : Int) hT0 hst.rle') (fun w1 hst2 => ?_)
 refine Lq (.bool (!(thereL l (k : Int)))) rfl rfl rfl rfl ?_
 refine L_nil ?_
 have c3 : (thereL l (k : Int)) = true := (thereL_in hk)
 have q4 := thereL_iff.1 c3
 refine W_cond_false (by show Value.bool _ = _; exact congrArg Value.bool (by rw [c3]; rfl)) ?_
 refine W_skip ?_
 refine W_seq ?_
 refine W_seq ?_
 refine W_region_lit ?_
 refine Lq (ptr p 0) rfl rfl rfl rfl ?_
 refine Lq (ptr p 0) rfl rfl rfl rfl ?_
 refine Lq (ptr p 0) rfl rfl rfl (by kernel_rfl) ?_
 refine Lq vN rfl rfl rfl (x_load rfl rfl (run_loadVar_one ti_61 (hst2.rle' _ _ (hp0 _ _ (one_self _ _))) rfl)) ?_
 refine Lq (int (k : Int)) rfl rfl rfl rfl ?_
 obtain ⟨a5, cap6, e7, hc8⟩ := hN.shape
 subst e7
 obtain ⟨b9, off10, cap11, cs12, T13, fz14, e15, hc16, hb17, he18⟩ := hN.open (by omega)
 cases e15
 obtain ⟨cl19, hs20, hr21⟩ := he18.at k (by omega)
 obtain ⟨x22, hx23⟩ : ∃ x_, x_ = (l[k]'(by omega)) := ⟨_, rfl⟩
 rw [← hx23] at hr21
 have hb24 : x22.names.length ≤ 1000000 := by rw [hx23]; exact hS.names _ (by omega)
 have hb25 : x22.ali = -1 ∨ 0 ≤ x22.ali := by rw [hx23]; exact hS.ali _ (by omega)
 obtain ⟨vn26, rfl, hvn27⟩ := tyNd_open hr21
 refine Lq (ptr b9 (off10 + k * 3)) rfl rfl rfl (x_indexAddr' rfl sl_61 ti_85 rfl rfl (by omega)) ?_
 refine Lq (ptr b9 (off10 + k * 3 + 1)) rfl rfl rfl (by kernel_rfl) ?_
 refine Lq (int x22.ali) rfl rfl rfl (x_load rfl rfl (run_loadVar_one ti_3 (hst2.rle' _ _ hb17) (seg_get (j := 1) hs20 rfl))) ?_
 refine Lq (int x22.ali) rfl rfl rfl rfl ?_
 refine L_nil ?_
 refine W_seq ?_
 refine W_region_lit ?_
 refine Lq (int x22.ali) rfl rfl rfl rfl ?_
 refine Lq (.bool (decide (x22.ali ≥ 0))) rfl rfl rfl (by kernel_rfl) ?_
 refine L_nil ?_
 rcases Bool.eq_false_or_eq_true (decide (x22.ali ≥ 0)) with c28 | c28
 ·
  have q29 := of_decide_eq_true c28
  refine W_cond_true (by show Value.bool _ = _; exact congrArg Value.bool c28) ?_
  refine W_seq ?_
  refine W_region_lit ?_
  refine Lq (ptr p 0) rfl rfl rfl rfl ?_
  refine Lq (int x22.ali) rfl rfl rfl rfl ?_
  obtain ⟨d', a, rfl, ha, hc'⟩ := hc.inv (by rw [← hx23]; exact (of_decide_eq_true c28))
  rw [← hx23] at ha
  rw [ha] at ⊢
  refine L_callG hst2 (v := (int (c : Int))) rfl rfl rfl (x_call (vs := #[ptr p 0, int (a : Int)]) rfl rfl (by rw [← ha]; kernel_rfl) ent_21) (ih d' (by omega) hc' (Le.trans hR0 (by exact hst2.grow.le))) (fun w30 hst31 => ?_)
  refine Lq (int (c : Int)) rfl rfl rfl rfl ?_
  refine L_nil ?_
  refine W_ret ?_
  refine ⟨_, _, res_run (rs := [.tmp 4]) (vs := [(int (c : Int))]) Tryz.results21 (.cons (.tmp rfl) .nil) rfl, ?_⟩
  exact ⟨rfl, hst31.grow⟩
 ·
  have q32 := of_decide_eq_false c28
  refine W_cond_false (by show Value.bool _ = _; exact congrArg Value.bool c28) ?_
  refine W_skip ?_
  refine W_seq ?_
  refine W_region_lit ?_
  refine Lq (int (k : Int)) rfl rfl rfl rfl ?_
  refine Lq (int (k : Int)) rfl rfl rfl rfl ?_
  refine L_nil ?_
  refine W_ret ?_
  refine ⟨_, _, res_run (rs := [.tmp 4]) (vs := [(int (k : Int))]) Tryz.results21 (.cons (.tmp rfl) .nil) rfl, ?_⟩
  exact ⟨by rw [hc.stop (by rw [← hx23]; have := of_decide_eq_false c28; omega)]; rfl, hst2.grow⟩
theorem Canon_spec {w : World} {R : Hp} {p : Nat} {l : List Nd} {rs : List Int} (k : Int) (hT : TreeR R p l rs) (hR : Le R (hp w)) : Calls Tryz.prog 21 #[ptr p 0, int k] w fun e w' => e = .returned (int (canon l k)) ∧ Grow w w' := by
  by_cases h : 0 ≤ k ∧ k < (l.length : Int)
  · obtain ⟨n, rfl⟩ : ∃ n : Nat, k = (n : Int) := ⟨k.toNat, by omega⟩
    obtain ⟨d, hc⟩ := hT.can.has (k := n) (by omega)
    rw [canon_in hc]
    exact Canon_in hc hT hR
  · rw [canon_out h]
    exact Canon_out h hT hR
theorem Count_spec {w : World} {R : Hp} {p : Nat} {l : List Nd} {rs : List Int}  (hT : TreeR R p l rs) (hR : Le R (hp w)) :
    Calls Tryz.prog 19 #[ptr p 0] w fun e w' => e = .returned (int (l.length : Int)) ∧ Grow w w' := by
 have hT0 := hT
 obtain ⟨vN, vR, bm, hp0, hN, hRs, hS, hrv, hrl⟩ := hT
 have hlen := hS.len
 have hst := Step.ro hR
 refine calls_of_W (n := 10) Tryz.func19 rfl Tryz.ntmps19 (Nat.le_of_ble_eq_true rfl) ?_
 refine W_seq ?_
 refine W_region_lit ?_
 refine Lq (int 0) rfl rfl rfl rfl ?_
 refine L_nil ?_
 refine W_seq ?_
 refine W_seq ?_
 refine W_region_lit ?_
 refine Lq (ptr p 0) rfl rfl rfl rfl ?_
 refine Lq (.bool false) rfl rfl rfl (by kernel_rfl) ?_
 refine L_nil ?_
 refine W_cond_false (by show Value.bool _ = _; exact congrArg Value.bool rfl) ?_
 refine W_skip ?_
 refine W_seq ?_
 refine W_region_lit ?_
 refine Lq (ptr p 0) rfl rfl rfl rfl ?_
 refine Lq (ptr p 0) rfl rfl rfl rfl ?_
 refine Lq (ptr p 0) rfl rfl rfl (by kernel_rfl) ?_
 refine Lq vN rfl rfl rfl (x_load rfl rfl (run_loadVar_one ti_61 (hst.rle' _ _ (hp0 _ _ (one_self _ _))) rfl)) ?_
 obtain ⟨a1, cap2, e3, hc4⟩ := hN.shape
 subst e3
 refine Lq (int (l.length : Int)) rfl rfl rfl (x_len_slice rfl sl_61 rfl) ?_
 refine Lq (int (l.length : Int)) rfl rfl rfl rfl ?_
 refine L_nil ?_
 refine W_ret ?_
 refine ⟨_, _, res_run (rs := [.tmp 2]) (vs := [(int (l.length : Int))]) Tryz.results19 (.cons (.tmp rfl) .nil) rfl, ?_⟩
 exact ⟨rfl, hst.grow⟩
theorem Index_spec {w : World} {R : Hp} {v : Value} {xs : List Str} (t : Str) (hR : Le R (hp w)) (hv : RdS Ty.str R v xs) (hmax : xs.length ≤ 1000000) :
    Calls Tryz.prog 61 #[v, .string t] w fun e w' => e = .returned (int (idxS t xs)) ∧ Grow w w' := by
 have hst := Step.ro hR
 refine calls_of_W (n := 19) Tryz.func61 rfl Tryz.ntmps61 (Nat.le_of_ble_eq_true rfl) ?_
 refine W_seq ?_
 refine W_region_lit ?_
 refine Lq (int 0) rfl rfl rfl rfl ?_
 refine L_nil ?_
 refine W_seq ?_
 refine W_seq ?_
 refine W_region_lit ?_
 refine Lq v rfl rfl rfl rfl ?_
 obtain ⟨a1, cap2, e3, hc4⟩ := hv.shape
 subst e3
 refine Lq (int (xs.length : Int)) rfl rfl rfl (x_len_slice rfl sl_42 rfl) ?_
 refine Lq (int 0) rfl rfl rfl rfl ?_
 refine L_nil ?_
 refine W_block ?_
 refine W_loop (I := fun σ w_ m_ => ∃ (σ0 : Fr) (k : Nat), σ = upd (upd (upd (upd (upd σ0 0 (.slice a1 xs.length cap2)) 1 (.string t)) 6 (.slice a1 xs.length cap2)) 7 (int (xs.length : Int))) 8 (int (k : Int)) ∧ mks (σ0 0) = [] ∧ Step w R [] w_ R [] ∧ k ≤ xs.length ∧ (∀ j (hj : j < xs.length), j < k → ¬ t = xs[j]) ∧ m_ = xs.length - k) (m := xs.length - 0) ?_ ?_
 ·
  exact ⟨_, 0, (upd_of (upd_of (upd_of (upd_of (upd_of rfl rfl) rfl) rfl) rfl) rfl), rfl, hst, (by omega), (fun j hj h => absurd h (by omega)), rfl⟩
 ·
  rintro m13 σ_ w7 ⟨s11, k12, rfl, hmk5, hst6, hf9, hf10, rfl⟩
  refine W_seq ?_
  refine W_region_lit ?_
  refine Lq (.bool (decide ((k12 : Int) < (xs.length : Int)))) rfl rfl rfl (by kernel_rfl) ?_
  refine L_nil ?_
  refine W_seq ?_
  rcases Bool.eq_false_or_eq_true (decide ((k12 : Int) < (xs.length : Int))) with c14 | c14
  ·
   have q15 := of_decide_eq_true c14
   refine W_cond_true (by show Value.bool _ = _; exact congrArg Value.bool c14) ?_
   refine W_skip ?_
   refine W_seq ?_
   refine W_block ?_
   refine W_seq ?_
   refine W_region_lit ?_
   refine Lq (int (k12 : Int)) rfl rfl rfl rfl ?_
   refine Lq (int (k12 : Int)) rfl rfl rfl rfl ?_
   refine L_nil ?_
   refine W_seq ?_
   refine W_region_lit ?_
   refine Lq (.string t) rfl rfl rfl rfl ?_
   refine Lq (.slice a1 xs.length cap2) rfl rfl rfl rfl ?_
   refine Lq (int (k12 : Int)) rfl rfl rfl rfl ?_
   obtain ⟨b16, off17, cap18, cs19, T20, fz21, e22, hc23, hb24, he25⟩ := hv.open (by omega)
   cases e22
   obtain ⟨cl26, hs27, hr28⟩ := he25.at k12 (by omega)
   have hx29 : cl26 = [.string (xs[k12]'(by omega))] := hr28
   subst hx29
   refine Lq (ptr b16 (off17 + k12 * 1)) rfl rfl rfl (x_indexAddr' rfl sl_42 ti_9 rfl rfl (by omega)) ?_
   refine Lq (.string (xs[k12]'(by omega))) rfl rfl rfl (x_load rfl rfl (run_loadVar_one ti_9 (hst6.rle' _ _ hb24) (seg_get (j := 0) hs27 rfl))) ?_
   refine Lq (.bool (decide (t = (xs[k12]'(by omega))))) rfl rfl rfl (x_eqlD rfl rfl rfl) ?_
   refine L_nil ?_
   rcases Bool.eq_false_or_eq_true (decide (t = (xs[k12]'(by omega)))) with c30 | c30
   ·
    have q31 := of_decide_eq_true c30
    refine W_cond_true (by show Value.bool _ = _; exact congrArg Value.bool c30) ?_
    refine W_seq ?_
    refine W_region_lit ?_
    refine Lq (int (k12 : Int)) rfl rfl rfl rfl ?_
    refine Lq (int (k12 : Int)) rfl rfl rfl rfl ?_
    refine L_nil ?_
    refine W_ret ?_
    refine ⟨_, _, res_run (rs := [.tmp 4]) (vs := [(int (k12 : Int))]) Tryz.results61 (.cons (.tmp rfl) .nil) hmk5, ?_⟩
    exact ⟨ret_int (idxS_at (by omega) hf10 (of_decide_eq_true c30)).symm, hst6.grow⟩
   ·
    have q32 := of_decide_eq_false c30
    refine W_cond_false (by show Value.bool _ = _; exact congrArg Value.bool c30) ?_
    refine W_skip ?_
    refine W_region_lit ?_
    refine Lq (int ((k12 + 1 : Nat) : Int)) rfl rfl rfl (x_add_nat rfl rfl rfl (by omega)) ?_
    refine Lq (int ((k12 + 1 : Nat) : Int)) rfl rfl rfl rfl ?_
    refine L_nil ?_
    refine ⟨xs.length - (k12 + 1), by first | omega | (simp only [List.length_append, List.length_cons, List.length_nil]; omega), ?_⟩
    exact ⟨_, (k12 + 1), (upd_of (upd_of (upd_of (upd_of (upd_of rfl rfl) rfl) rfl) rfl) rfl), hmk5, hst6, (by omega), (allS_step hf10 (of_decide_eq_false c30)), rfl⟩
  ·
   have q33 := of_decide_eq_false c14
   refine W_cond_false (by show Value.bool _ = _; exact congrArg Value.bool c14) ?_
   refine W_exit ?_
   refine W_seq ?_
   refine W_region_lit ?_
   refine Lq (int (-1)) rfl rfl rfl rfl ?_
   refine L_nil ?_
   refine W_ret ?_
   refine ⟨_, _, res_run (rs := [.tmp 4]) (vs := [(int (-1))]) Tryz.results61 (.cons (.tmp rfl) .nil) hmk5, ?_⟩
   exact ⟨ret_int (idxS_none (fun j hj => hf10 j hj (by omega))).symm, hst6.grow⟩
theorem Contains_spec {w : World} {R : Hp} {v : Value} {xs : List Str} (t : Str) (hR : Le R (hp w)) (hv : RdS Ty.str R v xs) (hmax : xs.length ≤ 1000000) :
    Calls Tryz.prog 56 #[v, .string t] w fun e w' => e = .returned (.bool (decide (t ∈ xs))) ∧ Grow w w' := by
 have hst := Step.ro hR
 refine calls_of_W (n := 9) Tryz.func56 rfl Tryz.ntmps56 (Nat.le_of_ble_eq_true rfl) ?_
 refine W_seq ?_
 refine W_region_lit ?_
 refine Lq (.bool false) rfl rfl rfl rfl ?_
 refine L_nil ?_
 refine W_seq ?_
 refine W_region_lit ?_
 refine Lq v rfl rfl rfl rfl ?_
 refine Lq (.string t) rfl rfl rfl rfl ?_
 obtain ⟨a1, cap2, e3, hc4⟩ := hv.shape
 subst e3
 refine L_callG hst (v := (int (idxS t xs))) rfl rfl rfl (x_call (vs := #[(.slice a1 xs.length cap2), (.string t)]) rfl rfl (by kernel_rfl) ent_61) (Index_spec t (Le.refl _) (RdS.mono hv hst.rle') (by first | omega | assumption)) (fun w5 hst6 => ?_)
 refine Lq (.bool (decide (idxS t xs ≥ 0))) rfl rfl rfl (by kernel_rfl) ?_
 refine Lq (.bool (decide (idxS t xs ≥ 0))) rfl rfl rfl rfl ?_
 refine L_nil ?_
 refine W_ret ?_
 refine ⟨_, _, res_run (rs := [.tmp 4]) (vs := [(.bool (decide (idxS t xs ≥ 0)))]) Tryz.results56 (.cons (.tmp rfl) .nil) rfl, ?_⟩
 exact ⟨ret_bool (idxS_mem t xs), hst6.grow⟩
theorem EqualS_spec {w : World} {R : Hp} {v u : Value} {xs ys : List Str} (hR : Le R (hp w)) (hv : RdS Ty.str R v xs) (hu : RdS Ty.str R u ys) (hmax : xs.length ≤ 1000000) (hmay : ys.length ≤ 1000000) :
    Calls Tryz.prog 60 #[v, u] w fun e w' => e = .returned (.bool (decide (xs = ys))) ∧ Grow w w' := by
 have hst := Step.ro hR
 refine calls_of_W (n := 26) Tryz.func60 rfl Tryz.ntmps60 (Nat.le_of_ble_eq_true rfl) ?_
 refine W_seq ?_
 refine W_region_lit ?_
 refine Lq (.bool false) rfl rfl rfl rfl ?_
 refine L_nil ?_
 refine W_seq ?_
 refine W_seq ?_
 refine W_region_lit ?_
 refine Lq v rfl rfl rfl rfl ?_
 obtain ⟨a1, cap2, e3, hc4⟩ := hv.shape
 subst e3
 refine Lq (int (xs.length : Int)) rfl rfl rfl (x_len_slice rfl sl_42 rfl) ?_
 refine Lq u rfl rfl rfl rfl ?_
 obtain ⟨a5, cap6, e7, hc8⟩ := hu.shape
 subst e7
 refine Lq (int (ys.length : Int)) rfl rfl rfl (x_len_slice rfl sl_42 rfl) ?_
 refine Lq (.bool ((xs.length : Int) != (ys.length : Int))) rfl rfl rfl (by kernel_rfl) ?_
 refine L_nil ?_
 rcases Bool.eq_false_or_eq_true ((xs.length : Int) != (ys.length : Int)) with c9 | c9
 ·
  have q10 : ¬ (xs.length : Int) = (ys.length : Int) := by simpa using c9
  refine W_cond_true (by show Value.bool _ = _; exact congrArg Value.bool c9) ?_
  refine W_seq ?_
  refine W_region_lit ?_
  refine Lq (.bool false) rfl rfl rfl rfl ?_
  refine L_nil ?_
  refine W_ret ?_
  refine ⟨_, _, res_run (rs := [.tmp 4]) (vs := [(.bool false)]) Tryz.results60 (.cons (.tmp rfl) .nil) rfl, ?_⟩
  exact ⟨ret_bool (decide_eq_false (fun h => by have := congrArg List.length h; omega)).symm, hst.grow⟩
 ·
  have q11 : (xs.length : Int) = (ys.length : Int) := by simpa using c9
  refine W_cond_false (by show Value.bool _ = _; exact congrArg Value.bool c9) ?_
  refine W_skip ?_
  refine W_seq ?_
  refine W_seq ?_
  refine W_region_lit ?_
  refine Lq (.slice a1 xs.length cap2) rfl rfl rfl rfl ?_
  refine Lq (int (xs.length : Int)) rfl rfl rfl (x_len_slice rfl sl_42 rfl) ?_
  refine Lq (int 0) rfl rfl rfl rfl ?_
  refine L_nil ?_
  refine W_block ?_
  refine W_loop (I := fun σ w_ m_ => ∃ (σ0 : Fr) (k : Nat), σ = upd (upd (upd (upd (upd (upd (upd (upd (upd (upd σ0 0 (.slice a1 xs.length cap2)) 1 (.slice a5 ys.length cap6)) 6 (.slice a1 xs.length cap2)) 7 (int (xs.length : Int))) 8 (.slice a5 ys.length cap6)) 9 (int (ys.length : Int))) 10 (.bool ((xs.length : Int) != (ys.length : Int)))) 11 (.slice a1 xs.length cap2)) 12 (int (xs.length : Int))) 13 (int (k : Int)) ∧ mks (σ0 0) = [] ∧ Step w R [] w_ R [] ∧ k ≤ xs.length ∧ (∀ j, j < k → xs[j]? = ys[j]?) ∧ m_ = xs.length - k) (m := xs.length - 0) ?_ ?_
  ·
   exact ⟨_, 0, (upd_of (upd_of (upd_of (upd_of (upd_of (upd_of (upd_of (upd_of (upd_of (upd_of rfl rfl) rfl) rfl) rfl) rfl) rfl) rfl) rfl) rfl) rfl), rfl, hst, (by omega), (fun j h => absurd h (by omega)), rfl⟩
  ·
   rintro m20 σ_ w14 ⟨s18, k19, rfl, hmk12, hst13, hf16, hf17, rfl⟩
   refine W_seq ?_
   refine W_region_lit ?_
   refine Lq (.bool (decide ((k19 : Int) < (xs.length : Int)))) rfl rfl rfl (by kernel_rfl) ?_
   refine L_nil ?_
   refine W_seq ?_
   rcases Bool.eq_false_or_eq_true (decide ((k19 : Int) < (xs.length : Int))) with c21 | c21
   ·
    have q22 := of_decide_eq_true c21
    refine W_cond_true (by show Value.bool _ = _; exact congrArg Value.bool c21) ?_
    refine W_skip ?_
    refine W_seq ?_
    refine W_block ?_
    refine W_seq ?_
    refine W_region_lit ?_
    refine Lq (int (k19 : Int)) rfl rfl rfl rfl ?_
    refine Lq (int (k19 : Int)) rfl rfl rfl rfl ?_
    refine L_nil ?_
    refine W_seq ?_
    refine W_region_draw [] (fun w => Le R (hp w)) hmix (by decide +kernel) (fun _ _ h => h) ?_
    have hst24 := hst13.draws (w14.drawn + 1)
    generalize draws w14 (w14.drawn + 1) = w23 at hst24 ⊢
    refine LP (.slice a1 xs.length cap2) 0 rfl rfl rfl (fun u26 => rfl) hst24.rle' ?_
    refine LP (int (k19 : Int)) 1 rfl rfl rfl (fun u29 => rfl) hst24.rle' ?_
    obtain ⟨b34, off35, cap36, cs37, T38, fz39, e40, hc41, hb42, he43⟩ := hv.open (by omega)
    cases e40
    obtain ⟨cl44, hs45, hr46⟩ := he43.at k19 (by omega)
    have hx47 : cl44 = [.string (xs[k19]'(by omega))] := hr46
    subst hx47
    refine LP (ptr b34 (off35 + k19 * 1)) 2 rfl rfl rfl (fun u32 => (x_indexAddr' rfl sl_42 ti_9 rfl rfl (by omega))) hst24.rle' ?_
    refine LT (.string (xs[k19]'(by omega))) 3 rfl rfl rfl (fun u49 hF50 => (x_load rfl rfl (run_loadVar_one ti_9 (hF50 _ _ hb42) (seg_get (j := 0) hs45 rfl)))) hst24.rle' ?_
    refine LP (.slice a5 ys.length cap6) 4 rfl rfl rfl (fun u52 => rfl) hst24.rle' ?_
    refine LP (int (k19 : Int)) 5 rfl rfl rfl (fun u55 => rfl) hst24.rle' ?_
    obtain ⟨b60, off61, cap62, cs63, T64, fz65, e66, hc67, hb68, he69⟩ := hu.open (by omega)
    cases e66
    obtain ⟨cl70, hs71, hr72⟩ := he69.at k19 (by omega)
    have hx73 : cl70 = [.string (ys[k19]'(by omega))] := hr72
    subst hx73
    refine LP (ptr b60 (off61 + k19 * 1)) 6 rfl rfl rfl (fun u58 => (x_indexAddr' rfl sl_42 ti_9 rfl rfl (by omega))) hst24.rle' ?_
    refine LT (.string (ys[k19]'(by omega))) 7 rfl rfl rfl (fun u75 hF76 => (x_load rfl rfl (run_loadVar_one ti_9 (hF76 _ _ hb68) (seg_get (j := 0) hs71 rfl)))) hst24.rle' ?_
    refine LP (.bool (!(decide ((xs[k19]'(by omega)) = (ys[k19]'(by omega)))))) 8 rfl rfl rfl (fun u78 => (x_neqD rfl rfl rfl)) hst24.rle' ?_
    refine LA_done (by decide +kernel) ?_
    rcases Bool.eq_false_or_eq_true (decide ((xs[k19]'(by omega)) = (ys[k19]'(by omega)))) with c80 | c80
    ·
     have q81 := of_decide_eq_true c80
     refine W_cond_false (by show Value.bool _ = _; exact congrArg Value.bool (by rw [c80]; rfl)) ?_
     refine W_skip ?_
     refine W_region_lit ?_
     refine Lq (int ((k19 + 1 : Nat) : Int)) rfl rfl rfl (x_add_nat rfl rfl rfl (by omega)) ?_
     refine Lq (int ((k19 + 1 : Nat) : Int)) rfl rfl rfl rfl ?_
     refine L_nil ?_
     refine ⟨xs.length - (k19 + 1), by first | omega | (simp only [List.length_append, List.length_cons, List.length_nil]; omega), ?_⟩
     exact ⟨_, (k19 + 1), (upd_of (upd_of (upd_of (upd_of (upd_of (upd_of (upd_of (upd_of (upd_of (upd_of rfl rfl) rfl) rfl) rfl) rfl) rfl) rfl) rfl) rfl) rfl), hmk12, hst24, (by omega), (eqS_step hf17 (by omega) (by omega) (of_decide_eq_true c80)), rfl⟩
    ·
     have q82 := of_decide_eq_false c80
     refine W_cond_true (by show Value.bool _ = _; exact congrArg Value.bool (by rw [c80]; rfl)) ?_
     refine W_seq ?_
     refine W_region_lit ?_
     refine Lq (.bool false) rfl rfl rfl rfl ?_
     refine L_nil ?_
     refine W_ret ?_
     refine ⟨_, _, res_run (rs := [.tmp 4]) (vs := [(.bool false)]) Tryz.results60 (.cons (.tmp rfl) .nil) hmk12, ?_⟩
     exact ⟨ret_bool (decide_eq_false (eqS_not (by omega) (by omega) (of_decide_eq_false c80))).symm, hst24.grow⟩
   ·
    have q83 := of_decide_eq_false c21
    refine W_cond_false (by show Value.bool _ = _; exact congrArg Value.bool c21) ?_
    refine W_exit ?_
    refine W_seq ?_
    refine W_region_lit ?_
    refine Lq (.bool true) rfl rfl rfl rfl ?_
    refine L_nil ?_
    refine W_ret ?_
    refine ⟨_, _, res_run (rs := [.tmp 4]) (vs := [(.bool true)]) Tryz.results60 (.cons (.tmp rfl) .nil) hmk12, ?_⟩
    exact ⟨ret_bool (decide_eq_true (eqS_all (by omega) (by omega) hf17)).symm, hst13.grow⟩
theorem same_spec {w : World} {R : Hp} {v u : Value} (a b : Nd) (hR : Le R (hp w)) (hv : RdS Ty.str R v a.names) (hu : RdS Ty.str R u b.names) (hmax : a.names.length ≤ 1000000) (hmay : b.names.length ≤ 1000000) :
    Calls Tryz.prog 55 #[.agg #[.int .i64 a.cls, .int .i64 a.ali, v], .agg #[.int .i64 b.cls, .int .i64 b.ali, u]] w fun e w' => e = .returned (.bool (sameN a b)) ∧ Grow w w' := by
 have hst := Step.ro hR
 refine calls_of_W (n := 17) Tryz.func55 rfl Tryz.ntmps55 (Nat.le_of_ble_eq_true rfl) ?_
 refine W_seq ?_
 refine W_region_lit ?_
 obtain ⟨a1, cap2, e3, hc4⟩ := hv.shape
 subst e3
 refine L_new hst (v := fun b => ptr b 0) (ob := .cells #[(int a.cls), (int a.ali), (.slice a1 a.names.length cap2)] 85 (0, 0)) rfl rfl rfl (by kernel_rfl) (fun b5 w6 hst7 => ?_)
 obtain ⟨a8, cap9, e10, hc11⟩ := hu.shape
 subst e10
 refine L_new hst7 (v := fun b => ptr b 0) (ob := .cells #[(int b.cls), (int b.ali), (.slice a8 b.names.length cap9)] 85 (0, 0)) rfl rfl rfl (by kernel_rfl) (fun b12 w13 hst14 => ?_)
 refine Lq (.bool false) rfl rfl rfl rfl ?_
 refine L_nil ?_
 refine W_seq ?_
 refine W_region_lit ?_
 refine Lq (ptr b5 0) rfl rfl rfl (by kernel_rfl) ?_
 refine Lq (int a.cls) rfl rfl rfl (x_load rfl rfl (run_loadVar_one ti_3 (hst14.b 1) rfl)) ?_
 refine Lq (ptr b12 0) rfl rfl rfl (by kernel_rfl) ?_
 refine Lq (int b.cls) rfl rfl rfl (x_load rfl rfl (run_loadVar_one ti_3 (hst14.b 0) rfl)) ?_
 refine Lq (.bool (a.cls == b.cls)) rfl rfl rfl (by kernel_rfl) ?_
 refine Lq (.bool (a.cls == b.cls)) rfl rfl rfl rfl ?_
 rcases Bool.eq_false_or_eq_true (a.cls == b.cls) with c15 | c15
 ·
  have q16 := eq_of_beq c15
  refine L_guard rfl rfl rfl rfl c15 ?_
  refine Lq (ptr b5 2) rfl rfl rfl (by kernel_rfl) ?_
  refine L_guard rfl rfl rfl rfl c15 ?_
  refine Lq (.slice a1 a.names.length cap2) rfl rfl rfl (x_load rfl rfl (run_loadVar_one ti_42 (hst14.b 1) rfl)) ?_
  refine L_guard rfl rfl rfl rfl c15 ?_
  refine Lq (ptr b12 2) rfl rfl rfl (by kernel_rfl) ?_
  refine L_guard rfl rfl rfl rfl c15 ?_
  refine Lq (.slice a8 b.names.length cap9) rfl rfl rfl (x_load rfl rfl (run_loadVar_one ti_42 (hst14.b 0) rfl)) ?_
  refine L_guard rfl rfl rfl rfl c15 ?_
  refine L_callG hst14 (v := (.bool (decide (a.names = b.names)))) rfl rfl rfl (x_call (vs := #[(.slice a1 a.names.length cap2), (.slice a8 b.names.length cap9)]) rfl rfl (by kernel_rfl) ent_60) (EqualS_spec (Le.refl _) (RdS.mono hv hst14.rle') (RdS.mono hu hst14.rle') (by first | omega | assumption) (by first | omega | assumption)) (fun w17 hst18 => ?_)
  refine Lq (.bool (decide (a.names = b.names))) rfl rfl rfl (x_pick rfl rfl (by rw [c15]; rfl)) ?_
  refine Lq (.bool (decide (a.names = b.names))) rfl rfl rfl rfl ?_
  refine L_nil ?_
  refine W_ret ?_
  refine ⟨_, _, res_run (rs := [.tmp 4]) (vs := [(.bool (decide (a.names = b.names)))]) Tryz.results55 (.cons (.tmp rfl) .nil) rfl, ?_⟩
  exact ⟨ret_bool (sameN_eq (eq_of_beq c15)).symm, hst18.grow⟩
 ·
  have q19 := ne_of_beq_false c15
  refine L_unwanted rfl rfl rfl rfl (by rw [c15]; try rfl) rfl rfl ?_
  refine L_unwanted rfl rfl rfl rfl (by rw [c15]; try rfl) rfl rfl ?_
  refine L_unwanted rfl rfl rfl rfl (by rw [c15]; try rfl) rfl rfl ?_
  refine L_unwanted rfl rfl rfl rfl (by rw [c15]; try rfl) rfl rfl ?_
  refine L_unwanted rfl rfl rfl rfl (by rw [c15]; try rfl) rfl rfl ?_
  refine Lq (.bool false) rfl rfl rfl (x_pick rfl rfl (by rw [c15]; rfl)) ?_
  refine Lq (.bool false) rfl rfl rfl rfl ?_
  refine L_nil ?_
  refine W_ret ?_
  refine ⟨_, _, res_run (rs := [.tmp 4]) (vs := [(.bool false)]) Tryz.results55 (.cons (.tmp rfl) .nil) rfl, ?_⟩
  exact ⟨ret_bool (sameN_cls (ne_of_beq_false c15)).symm, hst14.grow⟩
theorem Find1_spec {w : World} {R : Hp} {q1 q2 : Nat} {v u : Value} {cls : Int} {names : List Str} (x : Nd) (hR : Le R (hp w)) (h1 : Le (one q1 (.cells #[.int .i64 cls] 3 (0, 0))) R) (h2 : Le (one q2 (.cells #[u] 42 (0, 0))) R) (hv : RdS Ty.str R v x.names) (hu : RdS Ty.str R u names) (hmax : x.names.length ≤ 1000000) (hmay : names.length ≤ 1000000) :
    Calls Tryz.prog 54 (#[encNd x v] ++ #[ptr q1 0, ptr q2 0]) w fun e w' => e = .returned (.bool (findP cls names x)) ∧ Grow w w' := by
 have hst := Step.ro hR
 refine calls_of_W (n := 15) Tryz.func54 rfl Tryz.ntmps54 (Nat.le_of_ble_eq_true rfl) ?_
 refine W_seq ?_
 refine W_region_lit ?_
 obtain ⟨a1, cap2, e3, hc4⟩ := hv.shape
 subst e3
 refine L_new hst (v := fun b => ptr b 0) (ob := .cells #[(int x.cls), (int x.ali), (.slice a1 x.names.length cap2)] 85 (0, 0)) rfl rfl rfl (by kernel_rfl) (fun b5 w6 hst7 => ?_)
 refine Lq (.bool false) rfl rfl rfl rfl ?_
 refine L_nil ?_
 refine W_seq ?_
 refine W_region_lit ?_
 refine Lq (ptr b5 1) rfl rfl rfl (by kernel_rfl) ?_
 refine Lq (int x.ali) rfl rfl rfl (x_load rfl rfl (run_loadVar_one ti_3 (hst7.b 0) rfl)) ?_
 refine Lq (.bool (decide (x.ali < 0))) rfl rfl rfl (by kernel_rfl) ?_
 refine Lq (.bool (decide (x.ali < 0))) rfl rfl rfl rfl ?_
 rcases Bool.eq_false_or_eq_true (decide (x.ali < 0)) with c8 | c8
 ·
  have q9 := of_decide_eq_true c8
  refine L_guard rfl rfl rfl rfl c8 ?_
  refine Lq (.agg #[(int x.cls), (int x.ali), (.slice a1 x.names.length cap2)]) rfl rfl rfl (x_load rfl rfl (run_loadVar_agg ti_85 (hst7.b 0) (l := [(int x.cls), (int x.ali), (.slice a1 x.names.length cap2)]) rfl rfl)) ?_
  refine L_guard rfl rfl rfl rfl c8 ?_
  refine Lq (int cls) rfl rfl rfl (x_load rfl rfl (run_loadVar_one ti_3 (hst7.rle' _ _ (h1 _ _ (one_self _ _))) rfl)) ?_
  refine L_guard rfl rfl rfl rfl c8 ?_
  refine Lq u rfl rfl rfl (x_load rfl rfl (run_loadVar_one ti_42 (hst7.rle' _ _ (h2 _ _ (one_self _ _))) rfl)) ?_
  refine L_guard rfl rfl rfl rfl c8 ?_
  obtain ⟨a10, cap11, e12, hc13⟩ := hu.shape
  subst e12
  refine Lq (.agg #[(int cls), (int 0), (.slice a10 names.length cap11)]) rfl rfl rfl (by kernel_rfl) ?_
  refine L_guard rfl rfl rfl rfl c8 ?_
  refine L_callG hst7 (v := (.bool (sameN x (Nd.mk cls 0 names)))) rfl rfl rfl (x_call (vs := #[(.agg #[(int x.cls), (int x.ali), (.slice a1 x.names.length cap2)]), (.agg #[(int cls), (int 0), (.slice a10 names.length cap11)])]) rfl rfl (by kernel_rfl) ent_55) (same_spec x (Nd.mk cls 0 names) (Le.refl _) (RdS.mono hv hst7.rle') (RdS.mono hu hst7.rle') (by first | omega | assumption) (by first | omega | assumption)) (fun w14 hst15 => ?_)
  refine Lq (.bool (sameN x (Nd.mk cls 0 names))) rfl rfl rfl (x_pick rfl rfl (by rw [c8]; rfl)) ?_
  refine Lq (.bool (sameN x (Nd.mk cls 0 names))) rfl rfl rfl rfl ?_
  refine L_nil ?_
  refine W_ret ?_
  refine ⟨_, _, res_run (rs := [.tmp 4]) (vs := [(.bool (sameN x (Nd.mk cls 0 names)))]) Tryz.results54 (.cons (.tmp rfl) .nil) rfl, ?_⟩
  exact ⟨ret_bool (by unfold findP; rw [decide_eq_true (of_decide_eq_true c8)]; rfl), hst15.grow⟩
 ·
  have q16 := of_decide_eq_false c8
  refine L_unwanted rfl rfl rfl rfl (by rw [c8]; try rfl) rfl rfl ?_
  refine L_unwanted rfl rfl rfl rfl (by rw [c8]; try rfl) rfl rfl ?_
  refine L_unwanted rfl rfl rfl rfl (by rw [c8]; try rfl) rfl rfl ?_
  refine L_unwanted rfl rfl rfl rfl (by rw [c8]; try rfl) rfl rfl ?_
  refine L_unwanted rfl rfl rfl rfl (by rw [c8]; try rfl) rfl rfl ?_
  refine Lq (.bool false) rfl rfl rfl (x_pick rfl rfl (by rw [c8]; rfl)) ?_
  refine Lq (.bool false) rfl rfl rfl rfl ?_
  refine L_nil ?_
  refine W_ret ?_
  refine ⟨_, _, res_run (rs := [.tmp 4]) (vs := [(.bool false)]) Tryz.results54 (.cons (.tmp rfl) .nil) rfl, ?_⟩
  exact ⟨ret_bool (by unfold findP; rw [decide_eq_false (of_decide_eq_false c8)]; rfl), hst7.grow⟩
theorem IndexFunc_spec {w : World} {R : Hp} {v : Value} {l : List Nd} {g : Nat} {cb : Array Value} (pr : Nd → Bool) (hR : Le R (hp w)) (hv : RdS tyNd R v l) (hS : Small l) (eg : Ent Tryz.prog g) (hg : ∀ w1, Grow w w1 → ∀ (x : Nd) u, x ∈ l → RdS Ty.str (hp w1) u x.names → x.names.length ≤ 1000000 → Calls Tryz.prog g (#[encNd x u] ++ cb) w1 fun e w' => e = .returned (.bool (pr x)) ∧ Grow w1 w') :
    Calls Tryz.prog 53 #[v, .func (.func g) #[] cb] w fun e w' => e = .returned (int (idxN pr l)) ∧ Grow w w' := by
 have hlen := hS.len
 have hst := Step.ro hR
 refine calls_of_W (n := 19) Tryz.func53 rfl Tryz.ntmps53 (Nat.le_of_ble_eq_true rfl) ?_
 refine W_seq ?_
 refine W_region_lit ?_
 refine Lq (int 0) rfl rfl rfl rfl ?_
 refine L_nil ?_
 refine W_seq ?_
 refine W_seq ?_
 refine W_region_lit ?_
 refine Lq v rfl rfl rfl rfl ?_
 obtain ⟨a1, cap2, e3, hc4⟩ := hv.shape
 subst e3
 refine Lq (int (l.length : Int)) rfl rfl rfl (x_len_slice rfl sl_61 rfl) ?_
 refine Lq (int 0) rfl rfl rfl rfl ?_
 refine L_nil ?_
 refine W_block ?_
 refine W_loop (I := fun σ w_ m_ => ∃ (σ0 : Fr) (k : Nat), σ = upd (upd (upd (upd (upd σ0 0 (.slice a1 l.length cap2)) 1 (.func (.func g) #[] cb)) 6 (.slice a1 l.length cap2)) 7 (int (l.length : Int))) 8 (int (k : Int)) ∧ mks (σ0 0) = [] ∧ Step w R [] w_ R [] ∧ k ≤ l.length ∧ (∀ j (hj : j < l.length), j < k → pr l[j] = false) ∧ m_ = l.length - k) (m := l.length - 0) ?_ ?_
 ·
  exact ⟨_, 0, (upd_of (upd_of (upd_of (upd_of (upd_of rfl rfl) rfl) rfl) rfl) rfl), rfl, hst, (by omega), (fun j hj h => absurd h (by omega)), rfl⟩
 ·
  rintro m13 σ_ w7 ⟨s11, k12, rfl, hmk5, hst6, hf9, hf10, rfl⟩
  refine W_seq ?_
  refine W_region_lit ?_
  refine Lq (.bool (decide ((k12 : Int) < (l.length : Int)))) rfl rfl rfl (by kernel_rfl) ?_
  refine L_nil ?_
  refine W_seq ?_
  rcases Bool.eq_false_or_eq_true (decide ((k12 : Int) < (l.length : Int))) with c14 | c14
  ·
   have q15 := of_decide_eq_true c14
   refine W_cond_true (by show Value.bool _ = _; exact congrArg Value.bool c14) ?_
   refine W_skip ?_
   refine W_seq ?_
   refine W_block ?_
   refine W_seq ?_
   refine W_region_lit ?_
   refine Lq (int (k12 : Int)) rfl rfl rfl rfl ?_
   refine Lq (int (k12 : Int)) rfl rfl rfl rfl ?_
   refine L_nil ?_
   refine W_seq ?_
   refine W_region_lit ?_
   refine Lq (.func (.func g) #[] cb) rfl rfl rfl rfl ?_
   refine Lq (.slice a1 l.length cap2) rfl rfl rfl rfl ?_
   refine Lq (int (k12 : Int)) rfl rfl rfl rfl ?_
   obtain ⟨b16, off17, cap18, cs19, T20, fz21, e22, hc23, hb24, he25⟩ := hv.open (by omega)
   cases e22
   obtain ⟨cl26, hs27, hr28⟩ := he25.at k12 (by omega)
   obtain ⟨x29, hx30⟩ : ∃ x_, x_ = (l[k12]'(by omega)) := ⟨_, rfl⟩
   rw [← hx30] at hr28
   have hb31 : x29.names.length ≤ 1000000 := by rw [hx30]; exact hS.names _ (by omega)
   have hb32 : x29.ali = -1 ∨ 0 ≤ x29.ali := by rw [hx30]; exact hS.ali _ (by omega)
   obtain ⟨vn33, rfl, hvn34⟩ := tyNd_open hr28
   refine Lq (ptr b16 (off17 + k12 * 3)) rfl rfl rfl (x_indexAddr' rfl sl_61 ti_85 rfl rfl (by omega)) ?_
   refine Lq (.agg #[(int x29.cls), (int x29.ali), vn33]) rfl rfl rfl (x_load rfl rfl (run_loadVar_agg ti_85 (hst6.rle' _ _ hb24) hs27 rfl)) ?_
   obtain ⟨a35, cap36, e37, hc38⟩ := hvn34.shape
   subst e37
   refine L_callG hst6 (v := (.bool (pr x29))) rfl rfl rfl (x_callv (vs := #[encNd x29 (.slice a35 x29.names.length cap36)] ++ cb) rfl rfl (by simp [ev, upd, encNd]) eg) (hg w7 hst6.grow x29 _ (by rw [hx30]; exact List.getElem_mem _) (RdS.mono hvn34 hst6.rle') (by omega)) (fun w39 hst40 => ?_)
   refine L_nil ?_
   rcases Bool.eq_false_or_eq_true (pr x29) with c41 | c41
   ·
    refine W_cond_true (by show Value.bool _ = _; exact congrArg Value.bool c41) ?_
    refine W_seq ?_
    refine W_region_lit ?_
    refine Lq (int (k12 : Int)) rfl rfl rfl rfl ?_
    refine Lq (int (k12 : Int)) rfl rfl rfl rfl ?_
    refine L_nil ?_
    refine W_ret ?_
    refine ⟨_, _, res_run (rs := [.tmp 4]) (vs := [(int (k12 : Int))]) Tryz.results53 (.cons (.tmp rfl) .nil) hmk5, ?_⟩
    exact ⟨ret_int (idxN_at (by omega) hf10 (by rw [← hx30]; exact c41)).symm, hst40.grow⟩
   ·
    refine W_cond_false (by show Value.bool _ = _; exact congrArg Value.bool c41) ?_
    refine W_skip ?_
    refine W_region_lit ?_
    refine Lq (int ((k12 + 1 : Nat) : Int)) rfl rfl rfl (x_add_nat rfl rfl rfl (by omega)) ?_
    refine Lq (int ((k12 + 1 : Nat) : Int)) rfl rfl rfl rfl ?_
    refine L_nil ?_
    refine ⟨l.length - (k12 + 1), by first | omega | (simp only [List.length_append, List.length_cons, List.length_nil]; omega), ?_⟩
    exact ⟨_, (k12 + 1), (upd_of (upd_of (upd_of (upd_of (upd_of rfl rfl) rfl) rfl) rfl) rfl), hmk5, hst40, (by omega), (allN_step hf10 (by rw [← hx30]; exact c41)), rfl⟩
  ·
   have q42 := of_decide_eq_false c14
   refine W_cond_false (by show Value.bool _ = _; exact congrArg Value.bool c14) ?_
   refine W_exit ?_
   refine W_seq ?_
   refine W_region_lit ?_
   refine Lq (int (-1)) rfl rfl rfl rfl ?_
   refine L_nil ?_
   refine W_ret ?_
   refine ⟨_, _, res_run (rs := [.tmp 4]) (vs := [(int (-1))]) Tryz.results53 (.cons (.tmp rfl) .nil) hmk5, ?_⟩
   exact ⟨ret_int (idxN_none (fun j hj => hf10 j hj (by omega))).symm, hst6.grow⟩
theorem Find_spec {w : World} {R : Hp} {p : Nat} {l : List Nd} {rs : List Int} {u : Value} (cls : Int) (names : List Str) (hu : RdS Ty.str R u names) (hmay : names.length ≤ 1000000) (hT : TreeR R p l rs) (hR : Le R (hp w)) :
    Calls Tryz.prog 25 #[ptr p 0, int cls, u] w fun e w' => e = .returned (.tuple #[int (findL l cls names).1, .bool (findL l cls names).2]) ∧ Grow w w' := by
 have hT0 := hT
 obtain ⟨vN, vR, bm, hp0, hN, hRs, hS, hrv, hrl⟩ := hT
 have hlen := hS.len
 have hst := Step.ro hR
 refine calls_of_W (n := 21) Tryz.func25 rfl Tryz.ntmps25 (Nat.le_of_ble_eq_true rfl) ?_
 refine W_seq ?_
 refine W_region_lit ?_
 refine L_new hst (v := fun b => ptr b 0) (ob := .cells #[(int cls)] 3 (0, 0)) rfl rfl rfl (by kernel_rfl) (fun b1 w2 hst3 => ?_)
 obtain ⟨a4, cap5, e6, hc7⟩ := hu.shape
 subst e6
 refine L_new hst3 (v := fun b => ptr b 0) (ob := .cells #[(.slice a4 names.length cap5)] 42 (0, 0)) rfl rfl rfl (by kernel_rfl) (fun b8 w9 hst10 => ?_)
 refine Lq (int 0) rfl rfl rfl rfl ?_
 refine Lq (.bool false) rfl rfl rfl rfl ?_
 refine L_nil ?_
 refine W_seq ?_
 refine W_seq ?_
 refine W_region_lit ?_
 refine Lq (ptr p 0) rfl rfl rfl rfl ?_
 refine Lq (.bool false) rfl rfl rfl (by kernel_rfl) ?_
 refine L_nil ?_
 refine W_cond_false (by show Value.bool _ = _; exact congrArg Value.bool rfl) ?_
 refine W_skip ?_
 refine W_seq ?_
 refine W_region_lit ?_
 refine Lq (ptr p 0) rfl rfl rfl rfl ?_
 refine Lq (ptr p 0) rfl rfl rfl rfl ?_
 refine Lq (ptr p 0) rfl rfl rfl (by kernel_rfl) ?_
 refine Lq vN rfl rfl rfl (x_load rfl rfl (run_loadVar_one ti_61 (hst10.rle' _ _ (hp0 _ _ (one_self _ _))) rfl)) ?_
 refine Lq (.func (.func 54) #[] #[(ptr b1 0), (ptr b8 0)]) rfl rfl rfl (by kernel_rfl) ?_
 obtain ⟨a11, cap12, e13, hc14⟩ := hN.shape
 subst e13
 refine L_callG hst10 (v := (int (idxN (findP cls names) l))) rfl rfl rfl (x_call (vs := #[(.slice a11 l.length cap12), (.func (.func 54) #[] #[(ptr b1 0), (ptr b8 0)])]) rfl rfl (by kernel_rfl) ent_53) (IndexFunc_spec (findP cls names) (Le.refl _) (RdS.mono hN hst10.rle') hS ent_54 (fun w1 (g1 : Grow w9 w1) x_ u_ hx_ hu_ hl_ => Find1_spec x_ (Le.refl _) (Le.trans (hst10.g 1) g1.le) (Le.trans (hst10.g 0) g1.le) hu_ (RdS.mono hu (Le.trans hst10.rle' g1.le)) hl_ (by omega))) (fun w15 hst16 => ?_)
 refine Lq (int (idxN (findP cls names) l)) rfl rfl rfl rfl ?_
 refine L_nil ?_
 refine W_seq ?_
 refine W_region_lit ?_
 refine Lq (int (idxN (findP cls names) l)) rfl rfl rfl rfl ?_
 refine Lq (int (max (idxN (findP cls names) l) 0)) rfl rfl rfl (x_max rfl rfl rfl) ?_
 refine Lq (int (idxN (findP cls names) l)) rfl rfl rfl rfl ?_
 refine Lq (.bool (decide (idxN (findP cls names) l ≥ 0))) rfl rfl rfl (by kernel_rfl) ?_
 refine Lq (int (max (idxN (findP cls names) l) 0)) rfl rfl rfl rfl ?_
 refine Lq (.bool (decide (idxN (findP cls names) l ≥ 0))) rfl rfl rfl rfl ?_
 refine L_nil ?_
 refine W_ret ?_
 refine ⟨_, _, res_run (rs := [.tmp 6, .tmp 7]) (vs := [(int (max (idxN (findP cls names) l) 0)), (.bool (decide (idxN (findP cls names) l ≥ 0)))]) Tryz.results25 (.cons (.tmp rfl) (.cons (.tmp rfl) .nil)) rfl, ?_⟩
 exact ⟨rfl, hst16.grow⟩
theorem Root_spec {w : World} {R : Hp} {p : Nat} {l : List Nd} {rs : List Int} (k : Int) (hT : TreeR R p l rs) (hR : Le R (hp w)) :
    Calls Tryz.prog 26 #[ptr p 0, int k] w fun e w' => e = .returned (int (rootL l rs k)) ∧ Grow w w' := by
 have hT0 := hT
 obtain ⟨vN, vR, bm, hp0, hN, hRs, hS, hrv, hrl⟩ := hT
 have hlen := hS.len
 have hst := Step.ro hR
 refine calls_of_W (n := 29) Tryz.func26 rfl Tryz.ntmps26 (Nat.le_of_ble_eq_true rfl) ?_
 refine W_seq ?_
 refine W_region_lit ?_
 refine Lq (int 0) rfl rfl rfl rfl ?_
 refine L_nil ?_
 refine W_seq ?_
 refine W_seq ?_
 refine W_region_lit ?_
 refine Lq (ptr p 0) rfl rfl rfl rfl ?_
 refine Lq (.bool false) rfl rfl rfl (by kernel_rfl) ?_
 refine Lq (.bool false) rfl rfl rfl rfl ?_
 refine L_guard rfl rfl rfl rfl rfl ?_
 refine Lq (int k) rfl rfl rfl rfl ?_
 refine L_guard rfl rfl rfl rfl rfl ?_
 refine Lq (.bool (decide (k < 0))) rfl rfl rfl (by kernel_rfl) ?_
 refine Lq (.bool (decide (k < 0))) rfl rfl rfl rfl ?_
 refine Lq (.bool (decide (k < 0))) rfl rfl rfl rfl ?_
 rcases Bool.eq_false_or_eq_true (decide (k < 0)) with c1 | c1
 ·
  have q2 := of_decide_eq_true c1
  refine L_unwanted rfl rfl rfl rfl (by rw [c1]; try rfl) rfl rfl ?_
  refine L_unwanted rfl rfl rfl rfl (by rw [c1]; try rfl) rfl rfl ?_
  refine L_unwanted rfl rfl rfl rfl (by rw [c1]; try rfl) rfl rfl ?_
  refine L_unwanted rfl rfl rfl rfl (by rw [c1]; try rfl) rfl rfl ?_
  refine L_unwanted rfl rfl rfl rfl (by rw [c1]; try rfl) rfl rfl ?_
  refine L_unwanted rfl rfl rfl rfl (by rw [c1]; try rfl) rfl rfl ?_
  refine L_unwanted rfl rfl rfl rfl (by rw [c1]; try rfl) rfl rfl ?_
  refine Lq (.bool true) rfl rfl rfl (x_pick rfl rfl (by rw [c1]; rfl)) ?_
  refine L_nil ?_
  refine W_cond_true (by show Value.bool _ = _; exact congrArg Value.bool rfl) ?_
  refine W_seq ?_
  refine W_region_lit ?_
  refine Lq (int (-1)) rfl rfl rfl rfl ?_
  refine L_nil ?_
  refine W_ret ?_
  refine ⟨_, _, res_run (rs := [.tmp 4]) (vs := [(int (-1))]) Tryz.results26 (.cons (.tmp rfl) .nil) rfl, ?_⟩
  exact ⟨ret_int (rootL_out (by omega)).symm, hst.grow⟩
 ·
  have q3 := of_decide_eq_false c1
  refine L_guard rfl rfl rfl rfl c1 ?_
  refine Lq (int k) rfl rfl rfl rfl ?_
  refine L_guard rfl rfl rfl rfl c1 ?_
  refine Lq (ptr p 0) rfl rfl rfl rfl ?_
  refine L_guard rfl rfl rfl rfl c1 ?_
  refine Lq (ptr p 0) rfl rfl rfl rfl ?_
  refine L_guard rfl rfl rfl rfl c1 ?_
  refine Lq (ptr p 1) rfl rfl rfl (by kernel_rfl) ?_
  refine L_guard rfl rfl rfl rfl c1 ?_
  refine Lq vR rfl rfl rfl (x_load rfl rfl (run_loadVar_one ti_62 (hst.rle' _ _ (hp0 _ _ (one_self _ _))) rfl)) ?_
  refine L_guard rfl rfl rfl rfl c1 ?_
  obtain ⟨a4, cap5, e6, hc7⟩ := hRs.shape
  subst e6
  refine Lq (int (rs.length : Int)) rfl rfl rfl (x_len_slice rfl sl_62 rfl) ?_
  refine L_guard rfl rfl rfl rfl c1 ?_
  refine Lq (.bool (decide (k ≥ (rs.length : Int)))) rfl rfl rfl (by kernel_rfl) ?_
  refine Lq (.bool (decide (k ≥ (rs.length : Int)))) rfl rfl rfl (x_pick rfl rfl (by rw [c1]; rfl)) ?_
  refine L_nil ?_
  rcases Bool.eq_false_or_eq_true (decide (k ≥ (rs.length : Int))) with c8 | c8
  ·
   have q9 := of_decide_eq_true c8
   refine W_cond_true (by show Value.bool _ = _; exact congrArg Value.bool c8) ?_
   refine W_seq ?_
   refine W_region_lit ?_
   refine Lq (int (-1)) rfl rfl rfl rfl ?_
   refine L_nil ?_
   refine W_ret ?_
   refine ⟨_, _, res_run (rs := [.tmp 4]) (vs := [(int (-1))]) Tryz.results26 (.cons (.tmp rfl) .nil) rfl, ?_⟩
   exact ⟨ret_int (rootL_out (by omega)).symm, hst.grow⟩
  ·
   have q10 := of_decide_eq_false c8
   refine W_cond_false (by show Value.bool _ = _; exact congrArg Value.bool c8) ?_
   refine W_skip ?_
   refine W_seq ?_
   obtain ⟨kn, rfl⟩ : ∃ n : Nat, k = (n : Int) := ⟨k.toNat, by omega⟩
   refine W_region_lit ?_
   refine Lq (ptr p 0) rfl rfl rfl rfl ?_
   refine Lq (ptr p 0) rfl rfl rfl rfl ?_
   refine Lq (ptr p 0) rfl rfl rfl rfl ?_
   refine Lq (ptr p 1) rfl rfl rfl (by kernel_rfl) ?_
   refine Lq (.slice a4 rs.length cap5) rfl rfl rfl (x_load rfl rfl (run_loadVar_one ti_62 (hst.rle' _ _ (hp0 _ _ (one_self _ _))) rfl)) ?_
   refine Lq (int (kn : Int)) rfl rfl rfl rfl ?_
   obtain ⟨b11, off12, cap13, cs14, T15, fz16, e17, hc18, hb19, he20⟩ := hRs.open (by omega)
   cases e17
   obtain ⟨cl21, hs22, hr23⟩ := he20.at kn (by omega)
   have hx24 : cl21 = [.int .i64 (rs[kn]'(by omega))] := hr23
   subst hx24
   refine Lq (ptr b11 (off12 + kn * 1)) rfl rfl rfl (x_indexAddr' rfl sl_62 ti_3 rfl rfl (by omega)) ?_
   refine Lq (int (rs[kn]'(by omega))) rfl rfl rfl (x_load rfl rfl (run_loadVar_one ti_3 (hst.rle' _ _ hb19) (seg_get (j := 0) hs22 rfl))) ?_
   refine L_callG hst (v := (int (canon l (rs[kn]'(by omega))))) rfl rfl rfl (x_call (vs := #[(ptr p 0), (int (rs[kn]'(by omega)))]) rfl rfl (by kernel_rfl) ent_21) (Canon_spec (rs[kn]'(by omega)) hT0 hst.rle') (fun w25 hst26 => ?_)
   refine Lq (int (canon l (rs[kn]'(by omega)))) rfl rfl rfl rfl ?_
   refine L_nil ?_
   refine W_ret ?_
   refine ⟨_, _, res_run (rs := [.tmp 4]) (vs := [(int (canon l (rs[kn]'(by omega))))]) Tryz.results26 (.cons (.tmp rfl) .nil) rfl, ?_⟩
   exact ⟨ret_int (rootL_in (by omega)).symm, hst26.grow⟩
theorem Clone_specB {w : World} {R B : Hp} {v : Value} {xs : List Str} (hs : Sats w R []) (hv : RdS Ty.str B v xs) (hB : Le B (hp w)) (hmax : xs.length ≤ 1000000) :
    Calls Tryz.prog 52 #[v] w (Comes' w R [] fun v' R' L' => ∃ c', L' = [c'] ∧ OwnL Ty.str 9 R' v' xs c') := by
 have hst := Step.refl hs
 refine calls_of_W (n := 8) Tryz.func52 rfl Tryz.ntmps52 (Nat.le_of_ble_eq_true rfl) ?_
 refine W_seq ?_
 refine W_region_lit ?_
 refine Lq (.slice none 0 0) rfl rfl rfl rfl ?_
 refine L_nil ?_
 refine W_seq ?_
 refine W_seq ?_
 refine W_region_lit ?_
 refine Lq v rfl rfl rfl rfl ?_
 obtain ⟨a1, cap2, e3, hc4⟩ := hv.shape
 subst e3
 rcases a1 with _ | a5
 ·
  refine Lq (.bool true) rfl rfl rfl (by kernel_rfl) ?_
  refine L_nil ?_
  refine W_cond_true (by show Value.bool _ = _; exact congrArg Value.bool rfl) ?_
  refine W_seq ?_
  refine W_region_lit ?_
  refine Lq (.slice none 0 0) rfl rfl rfl rfl ?_
  refine L_nil ?_
  refine W_ret ?_
  refine ⟨_, _, res_run (rs := [.tmp 2]) (vs := [(.slice none 0 0)]) Tryz.results52 (.cons (.tmp rfl) .nil) rfl, ?_⟩
  have hx := RdS.nil hv
  subst hx
  exact ⟨_, R, [non], rfl, hst.nothing, non, rfl, OwnL.empty _ _ _⟩
 ·
  refine Lq (.bool false) rfl rfl rfl (by kernel_rfl) ?_
  refine L_nil ?_
  refine W_cond_false (by show Value.bool _ = _; exact congrArg Value.bool rfl) ?_
  refine W_skip ?_
  refine W_seq ?_
  refine W_region_lit ?_
  refine L_new hst (v := fun b => .slice (some ⟨b, 0, none⟩) 0 0) (ob := .cells #[] 9 (0, 0)) rfl rfl rfl (by kernel_rfl) (fun b6 w7 hst8 => ?_)
  refine Lq (.slice (some a5) xs.length cap2) rfl rfl rfl rfl ?_
  have ho9 : OwnL Ty.str 9 R (.slice (some ⟨b6, 0, none⟩) 0 0) [] (one b6 (.cells #[] 9 (0, 0))) := OwnL.lit (cs := []) Encs.nil rfl (by decide)
  obtain ⟨src10, hy11, hsrc12⟩ := RdS.src hv (Step.keepB hst8 hB (by simp))
  refine L_append hst8 (t := 42) (e := 9) (ys := xs)  0 rfl rfl rfl rfl rfl rfl sl_42 ti_9 rfl rfl rfl ho9 hsrc12 (Encs.restr (R' := R) hy11) rfl (by first | omega | (simp only [List.length_append, List.length_cons, List.length_nil]; omega)) (by first | (simp only [maxLen]; omega) | (simp only [List.length_append, List.length_cons, List.length_nil, maxLen]; omega)) (fun v13 c14 w15 ho16 hst17 => ?_)
  refine Lq v13 rfl rfl rfl rfl ?_
  refine L_nil ?_
  refine W_ret ?_
  refine ⟨_, _, res_run (rs := [.tmp 2]) (vs := [v13]) Tryz.results52 (.cons (.tmp rfl) .nil) rfl, ?_⟩
  exact ⟨_, R, _, rfl, (hst17).keepN 1 rfl, _, rfl, by simpa [retV] using ho16⟩
end Go.Fx.YtjpdhfhiimbpgaaGreatDoor
set_option linter.unusedSimpArgs false
set_option linter.unusedVariables false
set_option linter.unusedSectionVars false
namespace Go.Fx
open Go
section
variable {α : Type} {t : Ty α} {T b N : Nat} {R R0 : Hp} {xs : List α} {c : Hp} {w w0 : World} {L0 Lr : List Hp} {P : Program}
end
end Go.Fx
namespace Go.Fx.YtjpdhfhiimbpgaaGreatDoor
open Go Go.Fx Go.Proofs
set_option maxRecDepth 20000
theorem Small.app {l : List Nd} (h : Small l) {x : Nd} (hl : l.length + 1 ≤ 1000000) (hx : x.names.length ≤ 1000000) (ha : x.ali = -1) : Small (l ++ [x]) where
  len := by simpa using hl
  names := fun k hk => by
    rw [List.length_append, List.length_singleton] at hk
    by_cases e : k < l.length
    · rw [List.getElem_append_left e]; exact h.names k e
    · obtain rfl : k = l.length := by omega
      simpa using hx
  ali := fun k hk => by
    rw [List.length_append, List.length_singleton] at hk
    by_cases e : k < l.length
    · rw [List.getElem_append_left e]; exact h.ali k e
    · obtain rfl : k = l.length := by omega
      left; simpa using ha
  can := h.can.app _ (by rw [ha]; decide)
theorem Small.setAli {l : List Nd} (h : Small l) {a b : Nat} (ha : a < l.length) (hb : b < l.length) (hne : cn l a ≠ cn l b) : Small (Fx.YtjpdhfhiimbpgaaGreatDoor.setAli l (cn l b) (cn l a : Int)) where
  len := by rw [setAli_len]; exact h.len
  names := fun k hk => by
    have hk' : k < l.length := by simpa [setAli_len] using hk
    have hb' := h.can.lt hb
    simp only [setAli_eq hb']
    by_cases e : cn l b = k
    · subst e; rw [List.getElem_set_self]; exact h.names _ _
    · rw [List.getElem_set_ne e]; exact h.names k hk'
  ali := fun k hk => by
    have hk' : k < l.length := by simpa [setAli_len] using hk
    have hb' := h.can.lt hb
    simp only [setAli_eq hb']
    by_cases e : cn l b = k
    · subst e; rw [List.getElem_set_self]; right; simp
    · rw [List.getElem_set_ne e]; exact h.ali k hk'
  can := fun k hk => by
    obtain ⟨d, hc⟩ := h.can.setAli ha hb hne (k := k) (by simpa [setAli_len] using hk)
    exact ⟨d, _, hc⟩
theorem Canon_nat {w : World} {R : Hp} {p : Nat} {l : List Nd} {rs : List Int} {k : Nat} (hk : k < l.length) (hT : TreeR R p l rs) (hR : Le R (hp w)) : Calls Tryz.prog 21 #[ptr p 0, int (k : Int)] w fun e w' => e = .returned (int (cn l k : Int)) ∧ Grow w w' := by
  have h := Canon_spec (k : Int) hT hR
  rwa [canon_nat hk] at h
variable {s : TS} {k : Nat} {name : Str} {x : Nd}
theorem add_out {k : Int} {name : Str} (h : thereL s.nodes k = false) : s.add k name = (0, 1, s) := by unfold TS.add; rw [if_pos (by exact h)]
theorem add_name (hk : k < s.nodes.length) (hx : s.nodes[cn s.nodes k]? = some x) (h : name = eStr ∨ name ∈ x.names) : s.add (k : Int) name = (0, 13, s) := by
  have e : s.nd (cn s.nodes k) = x := by unfold TS.nd; rw [List.getD_eq_getElem?_getD, hx]; rfl
  unfold TS.add
  rw [if_neg (by show ¬ thereL s.nodes _ = false; rw [thereL_in hk]; decide), Int.toNat_natCast, e, if_pos h]
theorem add_go (hk : k < s.nodes.length) (hx : s.nodes[cn s.nodes k]? = some x) (h : ¬ name = eStr) (h2 : ¬ name ∈ x.names) : s.add (k : Int) name = match AL.get s.next ((cn s.nodes k : Int), name) with
    | some to => (canon s.nodes to, 0, s)
    | none => if 64 ≤ x.names.length ∨ 200 ≤ s.nodes.length then (0, 2, s)
      else ((s.nodes.length : Int), 0, { nodes := s.nodes ++ [⟨x.cls, -1, x.names ++ [name]⟩], roots := s.roots, next := AL.set s.next ((cn s.nodes k : Int), name) (s.nodes.length : Int) }) := by
  have e : s.nd (cn s.nodes k) = x := by unfold TS.nd; rw [List.getD_eq_getElem?_getD, hx]; rfl
  unfold TS.add
  rw [if_neg (by show ¬ thereL s.nodes _ = false; rw [thereL_in hk]; decide), Int.toNat_natCast, e, if_neg (by simp only [not_or]; exact ⟨h, h2⟩)]
  rfl
theorem add_link (hk : k < s.nodes.length) (hx : s.nodes[cn s.nodes k]? = some x) (h : ¬ name = eStr) (h2 : ¬ name ∈ x.names) (h3 : (AL.get s.next ((cn s.nodes k : Int), name)).isSome = true) :
    s.add (k : Int) name = (canon s.nodes ((AL.get s.next ((cn s.nodes k : Int), name)).getD 0), 0, s) := by
  rw [add_go hk hx h h2]
  cases e : AL.get s.next ((cn s.nodes k : Int), name) with
  | none => rw [e] at h3; cases h3
  | some to => rfl
theorem add_many (hk : k < s.nodes.length) (hx : s.nodes[cn s.nodes k]? = some x) (h : ¬ name = eStr) (h2 : ¬ name ∈ x.names) (h3 : (AL.get s.next ((cn s.nodes k : Int), name)).isSome = false) (h4 : 64 ≤ x.names.length ∨ 200 ≤ s.nodes.length) : s.add (k : Int) name = (0, 2, s) := by
  rw [add_go hk hx h h2]
  cases e : AL.get s.next ((cn s.nodes k : Int), name) with
  | none => simp only; rw [if_pos h4]
  | some to => rw [e] at h3; cases h3
def TS.grown (s : TS) (k : Nat) (x : Nd) (name : Str) : TS := { nodes := s.nodes ++ [⟨x.cls, -1, x.names ++ [name]⟩], roots := s.roots, next := AL.set s.next ((cn s.nodes k : Int), name) (s.nodes.length : Int) }
theorem add_new (hk : k < s.nodes.length) (hx : s.nodes[cn s.nodes k]? = some x) (h : ¬ name = eStr) (h2 : ¬ name ∈ x.names) (h3 : (AL.get s.next ((cn s.nodes k : Int), name)).isSome = false) (h4 : ¬ 64 ≤ x.names.length) (h5 : ¬ 200 ≤ s.nodes.length) :
    s.add (k : Int) name = ((s.nodes.length : Int), 0, s.grown k x name) := by
  rw [add_go hk hx h h2]
  cases e : AL.get s.next ((cn s.nodes k : Int), name) with
  | none => simp only; rw [if_neg (by omega)]; rfl
  | some to => rw [e] at h3; cases h3
theorem merge_no {a b : Int} (h : ¬ (thereL s.nodes a = true ∧ thereL s.nodes b = true ∧ sameN (ndL s.nodes a.toNat) (ndL s.nodes b.toNat) = true)) : s.merge a b = (1, s) := by unfold TS.merge; exact if_neg h
theorem merge_yes {a b : Nat} (ha : a < s.nodes.length) (hb : b < s.nodes.length) (h : sameN s.nodes[a] s.nodes[b] = true) :
    s.merge (a : Int) (b : Int) = (0, if cn s.nodes a = cn s.nodes b then s else { s with nodes := setAli s.nodes (cn s.nodes b) (cn s.nodes a : Int) }) := by
  unfold TS.merge
  rw [if_pos ⟨thereL_in ha, thereL_in hb, by rw [Int.toNat_natCast, Int.toNat_natCast, TS.nd_eq ha, TS.nd_eq hb]; exact h⟩]
  rfl
theorem merge_diff {a b : Nat} (ha : a < s.nodes.length) (hb : b < s.nodes.length) (h : sameN s.nodes[a] s.nodes[b] = false) : s.merge (a : Int) (b : Int) = (1, s) :=
  merge_no fun ⟨_, _, h3⟩ => by rw [Int.toNat_natCast, Int.toNat_natCast, ndL_eq ha, ndL_eq hb, h] at h3; cases h3
theorem split_out {a : Int} (h : thereL s.nodes a = false) : s.split a = (0, 1, s) := by unfold TS.split; rw [if_pos (by exact h)]
theorem split_many {a : Int} (h : thereL s.nodes a = true) (h2 : 200 ≤ s.nodes.length) : s.split a = (0, 2, s) := by unfold TS.split; rw [if_neg (by show ¬ thereL s.nodes _ = false; rw [h]; decide), if_pos h2]
theorem split_new {a : Nat} (h : a < s.nodes.length) (h2 : ¬ 200 ≤ s.nodes.length) : s.split (a : Int) = ((s.nodes.length : Int), 0, s.splitC (cn s.nodes a)) := by
  unfold TS.split; rw [if_neg (by show ¬ thereL s.nodes _ = false; rw [thereL_in h]; decide), if_neg h2, Int.toNat_natCast]
theorem make_arg {cls : Int} {names : List Str} (h : cls < 0 ∨ (s.roots.length : Int) ≤ cls ∨ 64 < names.length ∨ ¬ names.Nodup ∨ eStr ∈ names) : s.make cls names = (0, 1, s) := by unfold TS.make; rw [if_pos h]
theorem make_go {cls : Int} {names : List Str} (h : ¬ (cls < 0 ∨ (s.roots.length : Int) ≤ cls ∨ 64 < names.length ∨ ¬ names.Nodup ∨ eStr ∈ names)) : s.make cls names = if (ndL s.nodes (rootL s.nodes s.roots cls).toNat).names = names then (rootL s.nodes s.roots cls, (0 : Int), s)
  else match s.nodes.findIdx? (findP cls names) with
    | some n => ((n : Int), 0, s)
    | none => if 200 ≤ s.nodes.length then (0, 2, s) else ((s.nodes.length : Int), 0, s.addN cls names) := by unfold TS.make; rw [if_neg h]; rfl
theorem x_min_short {P : Program} {w : World} {ρ : Operand → Value} {o : Oper} {x y : Operand} {t1 t2 : TypeId} {a : Nat} {b : Int} (ho : o.op = .call { callee := .builtin .min, args := #[x, y], argTypes := #[t1, t2] }) (hx : ρ x = int (a : Int)) (hy : ρ y = int b) (h : (a : Int) ≤ b) : (execOp ρ o).run P w = .ok (.value (int (a : Int))) w := by
  have e := x_min (P := P) (w := w) ho hx hy
  rwa [show min (a : Int) b = (a : Int) by omega] at e
structure Cls where
  name : Str
  fields : List Str
def tyNil : Ty Unit where
  sz := 1
  rel _ v cs := cs = [.slice none 0 0]
  mono _ h := h
  len h := by rw [h]; rfl
  ones h := by rw [h]; rfl
def tyCls : Ty Cls := (Ty.str.pair ((Ty.slice Ty.str).pair tyNil)).via (fun x => (x.name, x.fields, ()))
theorem tyCls_open {R : Hp} {x : Cls} {c : List Value} (h : tyCls.rel R x c) : ∃ v, c = [.string x.name, v, .slice none 0 0] ∧ RdS Ty.str R v x.fields := by
  obtain ⟨c1, c2, rfl, e1, c3, c4, rfl, ⟨v, rfl, h4⟩, h5⟩ := h
  have h1 : c1 = [_] := e1
  have h5 : c4 = [_] := h5
  subst h1; subst h5
  exact ⟨v, rfl, h4⟩
theorem tyCls_mk {R : Hp} {n : Str} {fs : List Str} {v : Value} (h : RdS Ty.str R v fs) : tyCls.rel R ⟨n, fs⟩ [.string n, v, .slice none 0 0] := ⟨[_], [_, _], rfl, rfl, [_], [_], rfl, ⟨v, rfl, h⟩, rfl⟩
theorem retV_int {a b : Int} (h : a = b) : retV [int a] = int b := by subst h; rfl
def nodesOf (cs : List Cls) (k : Nat) : List Nd := (List.range k).map fun (j : Nat) => ⟨(j : Int), -1, (cs.getD j ⟨eStr, []⟩).fields⟩
def rootsOf (k : Nat) : List Int := (List.range k).map fun (j : Nat) => (j : Int)
def newTS (cs : List Cls) : TS := ⟨nodesOf cs cs.length, rootsOf cs.length, []⟩
theorem nodesOf_len (cs : List Cls) (k : Nat) : (nodesOf cs k).length = k := by simp [nodesOf]
theorem rootsOf_len (k : Nat) : (rootsOf k).length = k := by simp [rootsOf]
theorem nodesOf_succ {cs : List Cls} {k : Nat} (h : k < cs.length) : nodesOf cs (k + 1) = nodesOf cs k ++ [⟨(k : Int), -1, cs[k].fields⟩] := by
  unfold nodesOf
  rw [List.range_succ, List.map_append, List.map_singleton, List.getD_eq_getElem?_getD, List.getElem?_eq_getElem h]
  rfl
theorem rootsOf_succ (k : Nat) : rootsOf (k + 1) = rootsOf k ++ [(k : Int)] := by
  unfold rootsOf
  rw [List.range_succ, List.map_append, List.map_singleton]
theorem nodesOf_at {cs : List Cls} {k j : Nat} (h : j < (nodesOf cs k).length) : (nodesOf cs k)[j] = ⟨(j : Int), -1, (cs.getD j ⟨eStr, []⟩).fields⟩ := by simp [nodesOf]
theorem Cans.of_neg {l : List Nd} (h : ∀ k (hk : k < l.length), l[k].ali < 0) : Cans l := fun k hk => ⟨0, k, .here hk (h k hk)⟩
theorem nodesOf_small {cs : List Cls} {k : Nat} (hk : k ≤ cs.length) (hl : cs.length ≤ 1000000) (hf : ∀ x ∈ cs, x.fields.length ≤ 1000000) : Small (nodesOf cs k) where
  len := by rw [nodesOf_len]; omega
  names := fun j hj => by
    rw [nodesOf_at]
    have : j < cs.length := by rw [nodesOf_len] at hj; omega
    rw [List.getD_eq_getElem?_getD, List.getElem?_eq_getElem this]
    exact hf _ (List.getElem_mem _)
  ali := fun j hj => by rw [nodesOf_at]; left; rfl
  can := Cans.of_neg fun j hj => by rw [nodesOf_at]; show (-1 : Int) < 0; decide
theorem newTS_wf (cs : List Cls) : WF (newTS cs) where
  ok := AL.Ok.nil
  can := Cans.of_neg fun j hj => by simp only [newTS, nodesOf_at]; show (-1 : Int) < 0; decide
  ali := fun j hj => by simp only [newTS, nodesOf_at]; exact .inl trivial
  root := fun r hr => by
    obtain ⟨j, hj, rfl⟩ := List.mem_map.1 hr
    exact ⟨j, rfl, by simp only [newTS, nodesOf_len]; exact List.mem_range.1 hj⟩
  next := fun e he => by cases he
  key := fun e he => by cases he
end Go.Fx.YtjpdhfhiimbpgaaGreatDoor
set_option linter.unusedSimpArgs false
set_option linter.unusedVariables false
namespace Go.Fx.YtjpdhfhiimbpgaaGreatDoor
open Go Go.Fx Go.Proofs
set_option maxRecDepth 20000
theorem ent_39 : Ent Tryz.prog 39 := fun _ _ => by kernel_rfl
theorem ent_56 : Ent Tryz.prog 56 := fun _ _ => by kernel_rfl
theorem mt_63 : Tryz.prog.underlying 63 = some (.map 98 3) := by kernel_rfl
theorem sl_26 : SL Tryz.prog 26 48 := Tryz.underlying26
theorem ti_48 : TI Tryz.prog 48 true 3 64 (.agg #[(.string ⟨#[]⟩), (.slice none 0 0), (.slice none 0 0)]) := ⟨by kernel_rfl, by kernel_rfl⟩
theorem ti_63 : TI Tryz.prog 63 false 1 8 (.map none) := ⟨by kernel_rfl, by kernel_rfl⟩
theorem add_spec {w : World} {R cN : Hp} {p : Nat} {vN vR v : Value} {bm : Option Nat} {l : List Nd} {names : List Str} (cls : Int) (hs : Sats w R [treeB p vN vR bm, cN]) (hN : OwnL tyNd 85 R vN l cN) (hv : RdS Ty.str R v names) (hmax : names.length ≤ 1000000) (hlen : l.length + 1 ≤ 1000000) :
    Calls Tryz.prog 39 #[ptr p 0, int cls, v] w (Comes' w R [treeB p vN vR bm, cN] fun v' R' L' => ∃ vN' cN', v' = int (l.length : Int) ∧ L' = [treeB p vN' vR bm, cN'] ∧ OwnL tyNd 85 R' vN' (l ++ [⟨cls, -1, names⟩]) cN') := by
 have hst := Step.refl hs
 refine calls_of_W (n := 26) Tryz.func39 rfl Tryz.ntmps39 (Nat.le_of_ble_eq_true rfl) ?_
 refine W_seq ?_
 refine W_region_lit ?_
 refine Lq (int 0) rfl rfl rfl rfl ?_
 refine L_nil ?_
 refine W_seq ?_
 refine W_region_draw [13] (fun w => Le R (hp w) ∧ Le (one p (.cells #[vN, vR, (.map bm)] 65 (0, 0))) (hp w)) hmix (by decide +kernel) (fun _ _ h => h) ?_
 have hst2 := hst.draws (w.drawn + 1)
 generalize draws w (w.drawn + 1) = w1 at hst2 ⊢
 refine LP (ptr p 0) 0 rfl rfl rfl (fun u4 => rfl) ⟨hst2.rle', hst2.g 0⟩ ?_
 refine LP (ptr p 0) 1 rfl rfl rfl (fun u7 => rfl) ⟨hst2.rle', hst2.g 0⟩ ?_
 refine LP (ptr p 0) 2 rfl rfl rfl (fun u10 => rfl) ⟨hst2.rle', hst2.g 0⟩ ?_
 refine LP (ptr p 0) 3 rfl rfl rfl (fun u13 => (by kernel_rfl)) ⟨hst2.rle', hst2.g 0⟩ ?_
 refine LT vN 4 rfl rfl rfl (fun u16 hF17 => (x_load rfl rfl (run_loadVar_one ti_61 (hF17.2 _ _ (one_self _ _)) rfl))) ⟨hst2.rle', hst2.g 0⟩ ?_
 refine LP (int cls) 5 rfl rfl rfl (fun u19 => rfl) ⟨hst2.rle', hst2.g 0⟩ ?_
 refine LP v 6 rfl rfl rfl (fun u22 => rfl) ⟨hst2.rle', hst2.g 0⟩ ?_
 refine LA_all [7] (by decide +kernel) (by simp) ?_
 intro i_ hi_
 simp only [List.mem_cons, List.not_mem_nil, or_false] at hi_
 subst hi_
 obtain ⟨a27, cap28, e29, hc30⟩ := hv.shape
 subst e29
 have hst31 := hst2
 refine One_callS (i := 7) [] [one p (.cells #[vN, vR, (.map bm)] 65 (0, 0)), cN] hst31 rfl rfl rfl (Want.plain rfl) (x_call (vs := #[(.slice a27 names.length cap28)]) rfl rfl (by kernel_rfl) ent_52) (Clone_specB (v := (.slice a27 names.length cap28)) (xs := names) (hst31.sats.take 0 rfl) hv hst2.rle' (by first | omega | assumption)) (fun v32 w33 R34 L35 hp36 hle37 hst38 => ?_)
 have hm39 := OwnL.mono hN hle37
 obtain ⟨c40, rfl, ho41⟩ := hp36
 obtain ⟨R42, hst43, hle44, hc45⟩ := Step.frz hst38
 have hm46 := OwnL.mono hm39 hle44
 have hrd47 := OwnL.freeze ho41 hle44 hc45
 refine ⟨(fun _ => ⟨(Le.trans hle37 (Le.trans hle44 hst43.rle')), hst43.g 0⟩), ?_⟩
 obtain ⟨a51, cap52, e53, hc54⟩ := hrd47.shape
 subst e53
 refine LP (.agg #[(int cls), (int (-1)), (.slice a51 names.length cap52)]) 8 rfl rfl rfl (fun u49 => (by kernel_rfl)) ⟨(Le.trans hle37 (Le.trans hle44 hst43.rle')), hst43.g 0⟩ ?_
 refine LA_all [9] (by decide +kernel) (by simp) ?_
 intro i_ hi_
 simp only [List.mem_cons, List.not_mem_nil, or_false] at hi_
 subst hi_
 refine One_new hst43 (i := 9) (v := fun b => .slice (some ⟨b, 0, none⟩) 1 1) (ob := .cells #[(int cls), (int (-1)), (.slice a51 names.length cap52)] 85 (0, 0)) rfl rfl rfl (Want.plain rfl) (by kernel_rfl) (fun b58 w59 hst60 => ?_)
 refine ⟨(fun _ => ⟨(Le.trans hle37 (Le.trans hle44 hst60.rle')), hst60.g 1⟩), ?_⟩
 refine LA_all [10] (by decide +kernel) (by simp) ?_
 intro i_ hi_
 simp only [List.mem_cons, List.not_mem_nil, or_false] at hi_
 subst hi_
 refine One_append (j := 10) hst60 (t := 61) (e := 85) (ys := [Nd.mk cls (-1) names]) (src := [(int cls), (int (-1)), (.slice a51 names.length cap52)]) 2 rfl rfl rfl (Want.plain rfl) rfl rfl rfl sl_61 ti_85 rfl rfl rfl hm46 (src_own (hst60.b 0)) (Encs.one (t := tyNd) (tyNd_mk (RdS.mono hrd47 (Le.refl _)))) rfl (by first | omega | (simp only [List.length_append, List.length_cons, List.length_nil]; omega)) (by first | (simp only [maxLen]; omega) | (simp only [List.length_append, List.length_cons, List.length_nil, maxLen]; omega)) (fun v64 c65 w66 ho67 hst68 => ?_)
 refine ⟨(fun _ => ⟨(Le.trans hle37 (Le.trans hle44 hst68.rle')), hst68.g 2⟩), ?_⟩
 refine LP (ptr p 0) 11 rfl rfl rfl (fun u70 => rfl) ⟨(Le.trans hle37 (Le.trans hle44 hst68.rle')), hst68.g 2⟩ ?_
 refine LP (ptr p 0) 12 rfl rfl rfl (fun u73 => (by kernel_rfl)) ⟨(Le.trans hle37 (Le.trans hle44 hst68.rle')), hst68.g 2⟩ ?_
 refine LA_all [13] (by decide +kernel) (by simp) ?_
 intro i_ hi_
 simp only [List.mem_cons, List.not_mem_nil, or_false] at hi_
 subst hi_
 obtain ⟨a76, cap77, e78, hc79⟩ := ho67.value
 subst e78
 obtain ⟨w80, hr82, hst81⟩ := run_storeW (P := Tryz.prog) (b := p) (off := 0) (v := (.slice a76 ((l ++ [Nd.mk cls (-1) names]).length) cap77)) hst68 2 ti_61 rfl rfl rfl rfl rfl rfl
 change Step _ _ _ _ _ [c65, one b58 (.cells #[(int cls), (int (-1)), (.slice a51 names.length cap52)] 85 (0, 0)), one p (.cells #[(.slice a76 ((l ++ [Nd.mk cls (-1) names]).length) cap77), vR, (.map bm)] 65 (0, 0))] at hst81
 refine One_skip (i := 13) rfl rfl (Want.plain rfl) (x_store rfl rfl rfl hr82) (fun h => absurd h (by decide +kernel)) ?_
 refine LA_done (by decide +kernel) ?_
 refine W_seq ?_
 have hla : (l ++ [Nd.mk cls (-1) names]).length = l.length + 1 := by simp
 refine W_region_lit ?_
 refine Lq (ptr p 0) rfl rfl rfl rfl ?_
 refine Lq (ptr p 0) rfl rfl rfl rfl ?_
 refine Lq (ptr p 0) rfl rfl rfl (by kernel_rfl) ?_
 refine Lq (.slice a76 ((l ++ [Nd.mk cls (-1) names]).length) cap77) rfl rfl rfl (x_load rfl rfl (run_loadVar_one ti_61 (hst81.b 2) rfl)) ?_
 refine Lq (int (((l ++ [Nd.mk cls (-1) names]).length : Nat) : Int)) rfl rfl rfl (x_len_slice rfl sl_61 rfl) ?_
 refine Lq (int ((((l ++ [Nd.mk cls (-1) names]).length : Nat) : Int) - 1)) rfl rfl rfl (x_sub rfl rfl rfl (by constructor <;> omega)) ?_
 refine Lq (int ((((l ++ [Nd.mk cls (-1) names]).length : Nat) : Int) - 1)) rfl rfl rfl rfl ?_
 refine L_nil ?_
 refine W_ret ?_
 refine ⟨_, _, res_run (rs := [.tmp 6]) (vs := [(int ((((l ++ [Nd.mk cls (-1) names]).length : Nat) : Int) - 1))]) Tryz.results39 (.cons (.tmp rfl) .nil) rfl, ?_⟩
 exact ⟨_, _, _, rfl, ((hst81.front 2 rfl rfl)).keepN 2 rfl, _, _, retV_int (by omega), rfl, ho67⟩
set_option maxHeartbeats 1000000 in
theorem New_spec {w : World} {R : Hp} {v : Value} {cs : List Cls} (hs : Sats w R []) (hv : RdS tyCls R v cs) (hcs : cs.length ≤ 12) (hfs : ∀ x ∈ cs, x.fields.length ≤ 64) :
    Calls Tryz.prog 11 #[v] w (Comes' w R [] fun v' R' L' => ∃ p c, v' = ptr p 0 ∧ L' = [c] ∧ Tree R' p (newTS cs) c) := by
 have hst := Step.refl hs
 refine calls_of_W (n := 41) Tryz.func11 rfl Tryz.ntmps11 (Nat.le_of_ble_eq_true rfl) ?_
 refine W_seq ?_
 refine W_region_lit ?_
 refine Lq (.pointer none) rfl rfl rfl rfl ?_
 refine L_nil ?_
 refine W_seq ?_
 refine W_region_lit ?_
 refine L_new hst (v := fun b => .map (some b)) (ob := .map #[] 0) rfl rfl rfl (by kernel_rfl) (fun b1 w2 hst3 => ?_)
 have hm4 : MapC kS vI (some b1) [] _ := MapC.made b1
 generalize one b1 (.map #[] 0) = c5 at hm4 hst3
 refine Lq (.agg #[(.slice none 0 0), (.slice none 0 0), (.map (some b1))]) rfl rfl rfl (by kernel_rfl) ?_
 refine L_new hst3 (v := fun b => ptr b 0) (ob := .cells #[(.slice none 0 0), (.slice none 0 0), (.map (some b1))] 65 (0, 0)) rfl rfl rfl (by kernel_rfl) (fun b6 w7 hst8 => ?_)
 refine Lq (ptr b6 0) rfl rfl rfl rfl ?_
 refine L_nil ?_
 refine W_seq ?_
 refine W_seq ?_
 have ho9 : OwnL tyNd 85 R (.slice none 0 0) (nodesOf cs 0) non := OwnL.empty _ _ _
 have hst10 := hst8.nothing
 have ho11 : OwnL Ty.int 3 R (.slice none 0 0) (rootsOf 0) non := OwnL.empty _ _ _
 have hst12 := hst10.nothing
 refine W_region_lit ?_
 refine Lq v rfl rfl rfl rfl ?_
 refine Lq v rfl rfl rfl rfl ?_
 obtain ⟨a13, cap14, e15, hc16⟩ := hv.shape
 subst e15
 refine Lq (int (cs.length : Int)) rfl rfl rfl (x_len_slice rfl sl_26 rfl) ?_
 refine Lq (int (cs.length : Int)) rfl rfl rfl (x_min_short rfl rfl rfl (by omega)) ?_
 refine Lq (.slice a13 cs.length cap14) rfl rfl rfl (x_slice sl_26 rfl rfl (run_sliceHi sl_26 ti_48 (by omega))) ?_
 refine Lq (int (cs.length : Int)) rfl rfl rfl (x_len_slice rfl sl_26 rfl) ?_
 refine Lq (int 0) rfl rfl rfl rfl ?_
 refine L_nil ?_
 refine W_block ?_
 refine W_loop (I := fun σ w_ m_ => ∃ (σ0 : Fr) (R_ : Hp) (k : Nat) (vN : Value) (vR : Value) (cN : Hp) (cR : Hp), σ = upd (upd (upd (upd (upd (upd (upd (upd (upd (upd (upd (upd (upd σ0 0 (.slice a13 cs.length cap14)) 2 (.pointer none)) 3 (ptr b6 0)) 6 (.map (some b1))) 7 (.agg #[(.slice none 0 0), (.slice none 0 0), (.map (some b1))])) 8 (ptr b6 0)) 9 (.slice a13 cs.length cap14)) 10 (.slice a13 cs.length cap14)) 11 (int (cs.length : Int))) 12 (int (cs.length : Int))) 13 (.slice a13 cs.length cap14)) 14 (int (cs.length : Int))) 15 (int (k : Int)) ∧ mks (σ0 0) = [] ∧ Step w R [] w_ R_ [one b6 (.cells #[vN, vR, (.map (some b1))] 65 (0, 0)), cN, cR, c5] ∧ Le R R_ ∧ OwnL tyNd 85 R_ vN (nodesOf cs k) cN ∧ OwnL Ty.int 3 R_ vR (rootsOf k) cR ∧ k ≤ cs.length ∧ m_ = cs.length - k) (m := cs.length - 0) ?_ ?_
 ·
  exact ⟨_, _, 0, (.slice none 0 0), (.slice none 0 0), non, non, (upd_of (upd_of (upd_of (upd_of (upd_of (upd_of (upd_of (upd_of (upd_of (upd_of (upd_of (upd_of (upd_of rfl rfl) rfl) rfl) rfl) rfl) rfl) rfl) rfl) rfl) rfl) rfl) rfl) rfl), rfl, ((((hst12.front 3 rfl rfl).front 1 rfl rfl).front 2 rfl rfl).front 3 rfl rfl), Le.refl _, ho9, ho11, (by omega), rfl⟩
 ·
  rintro m31 σ_ w19 ⟨s24, R25, k26, vN27, vR28, cN29, cR30, rfl, hmk17, hst18, hle20, hi21, hi22, hf23, rfl⟩
  have hlk := nodesOf_len cs k26
  have hrk := rootsOf_len k26
  refine W_seq ?_
  refine W_region_lit ?_
  refine Lq (.bool (decide ((k26 : Int) < (cs.length : Int)))) rfl rfl rfl (by kernel_rfl) ?_
  refine L_nil ?_
  refine W_seq ?_
  rcases Bool.eq_false_or_eq_true (decide ((k26 : Int) < (cs.length : Int))) with c32 | c32
  ·
   have q33 := of_decide_eq_true c32
   refine W_cond_true (by show Value.bool _ = _; exact congrArg Value.bool c32) ?_
   refine W_skip ?_
   refine W_seq ?_
   refine W_block ?_
   refine W_seq ?_
   refine W_region_lit ?_
   refine Lq (int (k26 : Int)) rfl rfl rfl rfl ?_
   obtain ⟨b34, off35, cap36, cs37, T38, fz39, e40, hc41, hb42, he43⟩ := hv.open (by omega)
   cases e40
   obtain ⟨cl44, hs45, hr46⟩ := he43.at k26 (by omega)
   obtain ⟨x47, hx48⟩ : ∃ x_, x_ = (cs[k26]'(by omega)) := ⟨_, rfl⟩
   rw [← hx48] at hr46
   have hx48b : x47.fields.length ≤ 64 := by rw [hx48]; exact hfs _ (List.getElem_mem _)
   obtain ⟨vn49, rfl, hvn50⟩ := tyCls_open hr46
   refine Lq (ptr b34 (off35 + k26 * 3)) rfl rfl rfl (x_indexAddr' rfl sl_26 ti_48 rfl rfl (by omega)) ?_
   refine Lq (.agg #[(.string x47.name), vn49, (.slice none 0 0)]) rfl rfl rfl (x_load rfl rfl (run_loadVar_agg ti_48 ((Le.trans hle20 hst18.rle') _ _ hb42) hs45 rfl)) ?_
   refine L_new hst18 (v := fun b => ptr b 0) (ob := .cells #[(.string ⟨#[]⟩), (.slice none 0 0), (.slice none 0 0)] 48 (0, 0)) rfl rfl rfl (by kernel_rfl) (fun b51 w52 hst53 => ?_)
   refine Lq (int (k26 : Int)) rfl rfl rfl rfl ?_
   obtain ⟨a54, cap55, e56, hc57⟩ := hvn50.shape
   subst e56
   refine L_store hst53 0 ti_48 rfl rfl rfl rfl rfl rfl rfl rfl rfl rfl rfl (fun w58 hst59 => ?_)
   change Step _ _ _ _ _ [one b51 (.cells #[(.string x47.name), (.slice a54 x47.fields.length cap55), (.slice none 0 0)] 48 (0, 0)), one b6 (.cells #[vN27, vR28, (.map (some b1))] 65 (0, 0)), cN29, cR30, c5] at hst59
   refine L_nil ?_
   refine W_region_draw [19] (fun w => Le R25 (hp w) ∧ Le (one b51 (.cells #[(.string x47.name), (.slice a54 x47.fields.length cap55), (.slice none 0 0)] 48 (0, 0))) (hp w)) hmix (by decide +kernel) (fun _ _ h => h) ?_
   have hst61 := hst59.draws (w58.drawn + 1)
   generalize draws w58 (w58.drawn + 1) = w60 at hst61 ⊢
   refine LP (ptr b6 0) 0 rfl rfl rfl (fun u63 => rfl) ⟨hst61.rle', hst61.g 0⟩ ?_
   refine LP (ptr b6 0) 1 rfl rfl rfl (fun u66 => rfl) ⟨hst61.rle', hst61.g 0⟩ ?_
   refine LP (ptr b6 0) 2 rfl rfl rfl (fun u69 => rfl) ⟨hst61.rle', hst61.g 0⟩ ?_
   refine LP (ptr b6 1) 3 rfl rfl rfl (fun u72 => (by kernel_rfl)) ⟨hst61.rle', hst61.g 0⟩ ?_
   refine LP (ptr b6 0) 5 rfl rfl rfl (fun u77 => rfl) ⟨hst61.rle', hst61.g 0⟩ ?_
   refine LP (int (k26 : Int)) 6 rfl rfl rfl (fun u82 => rfl) ⟨hst61.rle', hst61.g 0⟩ ?_
   refine LP (ptr b51 1) 7 rfl rfl rfl (fun u87 => (by kernel_rfl)) ⟨hst61.rle', hst61.g 0⟩ ?_
   refine LT (.slice a54 x47.fields.length cap55) 8 rfl rfl rfl (fun u92 hF93 => (x_load rfl rfl (run_loadVar_one ti_42 (hF93.2 _ _ (one_self _ _)) rfl))) ⟨hst61.rle', hst61.g 0⟩ ?_
   refine LP (ptr b51 1) 9 rfl rfl rfl (fun u97 => (by kernel_rfl)) ⟨hst61.rle', hst61.g 0⟩ ?_
   refine LT (.slice a54 x47.fields.length cap55) 10 rfl rfl rfl (fun u102 hF103 => (x_load rfl rfl (run_loadVar_one ti_42 (hF103.2 _ _ (one_self _ _)) rfl))) ⟨hst61.rle', hst61.g 0⟩ ?_
   refine LT (int (x47.fields.length : Int)) 11 rfl rfl rfl (fun u107 hF108 => (x_len_slice rfl sl_42 rfl)) ⟨hst61.rle', hst61.g 0⟩ ?_
   refine LT (int (x47.fields.length : Int)) 12 rfl rfl rfl (fun u112 hF113 => (x_min_short rfl rfl rfl (by omega))) ⟨hst61.rle', hst61.g 0⟩ ?_
   refine LT (.slice a54 x47.fields.length cap55) 13 rfl rfl rfl (fun u117 hF118 => (x_slice sl_42 rfl rfl (run_sliceHi sl_42 ti_9 (by omega)))) ⟨hst61.rle', hst61.g 0⟩ ?_
   refine LA_all [4, 14] (by decide +kernel) (by simp) ?_
   intro i_ hi_
   simp only [List.mem_cons, List.not_mem_nil, or_false] at hi_
   rcases hi_ with rfl | rfl
   ·
    refine One_val (i := 4) (v := vR28) rfl rfl rfl (Want.plain rfl) (x_load rfl rfl (run_loadVar_one ti_62 (hst61.b 1) rfl)) (fun _ => ⟨hst61.rle', hst61.g 0⟩) ?_
    refine LA_all [14] (by decide +kernel) (by simp) ?_
    intro i_ hi_
    simp only [List.mem_cons, List.not_mem_nil, or_false] at hi_
    subst hi_
    have hst127 := ((hst61.front 2 rfl rfl).front 2 rfl rfl)
    refine One_callS (i := 14) [one b6 (.cells #[vN27, vR28, (.map (some b1))] 65 (0, 0)), cN29] [one b51 (.cells #[(.string x47.name), (.slice a54 x47.fields.length cap55), (.slice none 0 0)] 48 (0, 0)), cR30, c5] hst127 rfl rfl rfl (Want.plain rfl) (x_call (vs := #[(ptr b6 0), (int (k26 : Int)), (.slice a54 x47.fields.length cap55)]) rfl rfl (by kernel_rfl) ent_39) (add_spec (names := x47.fields) (k26 : Int) (hst127.sats.take 2 rfl) hi21 (RdS.mono hvn50 hle20) (by first | omega | assumption | (simp only [List.length_append, List.length_cons, List.length_nil]; omega)) (by first | omega | (simp only [List.length_append, List.length_cons, List.length_nil]; omega))) (fun v128 w129 R130 L131 hp132 hle133 hst134 => ?_)
    have hm135 := OwnL.mono hi22 hle133
    obtain ⟨vN136, cN137, rfl, rfl, hN138⟩ := hp132
    refine ⟨(fun _ => ⟨(Le.trans hle133 hst134.rle'), hst134.g 2⟩), ?_⟩
    refine LA_all [15] (by decide +kernel) (by simp) ?_
    intro i_ hi_
    simp only [List.mem_cons, List.not_mem_nil, or_false] at hi_
    subst hi_
    refine One_new hst134 (i := 15) (v := fun b => .slice (some ⟨b, 0, none⟩) 1 1) (ob := .cells #[(int (((nodesOf cs k26).length : Nat) : Int))] 3 (0, 0)) rfl rfl rfl (Want.plain rfl) (by kernel_rfl) (fun b142 w143 hst144 => ?_)
    refine ⟨(fun _ => ⟨(Le.trans hle133 hst144.rle'), hst144.g 3⟩), ?_⟩
    refine LA_all [16] (by decide +kernel) (by simp) ?_
    intro i_ hi_
    simp only [List.mem_cons, List.not_mem_nil, or_false] at hi_
    subst hi_
    refine One_append (j := 16) hst144 (t := 62) (e := 3) (ys := [(((nodesOf cs k26).length : Nat) : Int)]) (src := [(int (((nodesOf cs k26).length : Nat) : Int))]) 4 rfl rfl rfl (Want.plain rfl) rfl rfl rfl sl_62 ti_3 rfl rfl rfl hm135 (src_own (hst144.b 0)) (Encs.one (t := Ty.int) rfl) rfl (by first | omega | (simp only [List.length_append, List.length_cons, List.length_nil]; omega)) (by first | (simp only [maxLen]; omega) | (simp only [List.length_append, List.length_cons, List.length_nil, maxLen]; omega)) (fun v148 c149 w150 ho151 hst152 => ?_)
    refine ⟨(fun _ => ⟨(Le.trans hle133 hst152.rle'), hst152.g 4⟩), ?_⟩
    refine LP (ptr b6 0) 17 rfl rfl rfl (fun u154 => rfl) ⟨(Le.trans hle133 hst152.rle'), hst152.g 4⟩ ?_
    refine LP (ptr b6 1) 18 rfl rfl rfl (fun u157 => (by kernel_rfl)) ⟨(Le.trans hle133 hst152.rle'), hst152.g 4⟩ ?_
    refine LA_all [19] (by decide +kernel) (by simp) ?_
    intro i_ hi_
    simp only [List.mem_cons, List.not_mem_nil, or_false] at hi_
    subst hi_
    obtain ⟨a160, cap161, e162, hc163⟩ := ho151.value
    subst e162
    obtain ⟨w164, hr166, hst165⟩ := run_storeW (P := Tryz.prog) (b := b6) (off := 1) (v := (.slice a160 (((rootsOf k26) ++ [(((nodesOf cs k26).length : Nat) : Int)]).length) cap161)) hst152 2 ti_62 rfl rfl rfl rfl rfl rfl
    change Step _ _ _ _ _ [c149, one b142 (.cells #[(int (((nodesOf cs k26).length : Nat) : Int))] 3 (0, 0)), one b6 (.cells #[vN136, (.slice a160 (((rootsOf k26) ++ [(((nodesOf cs k26).length : Nat) : Int)]).length) cap161), (.map (some b1))] 65 (0, 0)), cN137, one b51 (.cells #[(.string x47.name), (.slice a54 x47.fields.length cap55), (.slice none 0 0)] 48 (0, 0)), c5] at hst165
    refine One_skip (i := 19) rfl rfl (Want.plain rfl) (x_store rfl rfl rfl hr166) (fun h => absurd h (by decide +kernel)) ?_
    refine LA_done (by decide +kernel) ?_
    refine W_region_lit ?_
    refine Lq (int ((k26 + 1 : Nat) : Int)) rfl rfl rfl (x_add_nat rfl rfl rfl (by omega)) ?_
    refine Lq (int ((k26 + 1 : Nat) : Int)) rfl rfl rfl rfl ?_
    refine L_nil ?_
    refine ⟨cs.length - (k26 + 1), by first | omega | (simp only [List.length_append, List.length_cons, List.length_nil]; omega), ?_⟩
    exact ⟨_, _, (k26 + 1), vN136, (.slice a160 (((rootsOf k26) ++ [(((nodesOf cs k26).length : Nat) : Int)]).length) cap161), cN137, c149, (upd_of (upd_of (upd_of (upd_of (upd_of (upd_of (upd_of (upd_of (upd_of (upd_of (upd_of (upd_of (upd_of rfl rfl) rfl) rfl) rfl) rfl) rfl) rfl) rfl) rfl) rfl) rfl) rfl) rfl), hmk17, (((((hst165.front 5 rfl rfl).front 1 rfl rfl).front 4 rfl rfl).front 4 rfl rfl).keepN 4 rfl), (Le.trans hle20 hle133), (by rw [nodesOf_succ (by omega), ← hx48]; exact hN138), (by rw [rootsOf_succ]; have h_ := ho151; simp only [nodesOf_len] at h_ ⊢; exact h_), (by omega), rfl⟩
   ·
    have hst167 := ((hst61.front 2 rfl rfl).front 2 rfl rfl)
    refine One_callS (i := 14) [one b6 (.cells #[vN27, vR28, (.map (some b1))] 65 (0, 0)), cN29] [one b51 (.cells #[(.string x47.name), (.slice a54 x47.fields.length cap55), (.slice none 0 0)] 48 (0, 0)), cR30, c5] hst167 rfl rfl rfl (Want.plain rfl) (x_call (vs := #[(ptr b6 0), (int (k26 : Int)), (.slice a54 x47.fields.length cap55)]) rfl rfl (by kernel_rfl) ent_39) (add_spec (names := x47.fields) (k26 : Int) (hst167.sats.take 2 rfl) hi21 (RdS.mono hvn50 hle20) (by first | omega | assumption | (simp only [List.length_append, List.length_cons, List.length_nil]; omega)) (by first | omega | (simp only [List.length_append, List.length_cons, List.length_nil]; omega))) (fun v168 w169 R170 L171 hp172 hle173 hst174 => ?_)
    have hm175 := OwnL.mono hi22 hle173
    obtain ⟨vN176, cN177, rfl, rfl, hN178⟩ := hp172
    refine ⟨(fun _ => ⟨(Le.trans hle173 hst174.rle'), hst174.g 2⟩), ?_⟩
    refine LA_all [4, 15] (by decide +kernel) (by simp) ?_
    intro i_ hi_
    simp only [List.mem_cons, List.not_mem_nil, or_false] at hi_
    rcases hi_ with rfl | rfl
    ·
     refine One_val (i := 4) (v := vR28) rfl rfl rfl (Want.plain rfl) (x_load rfl rfl (run_loadVar_one ti_62 (hst174.b 0) rfl)) (fun _ => ⟨(Le.trans hle173 hst174.rle'), hst174.g 2⟩) ?_
     refine LA_all [15] (by decide +kernel) (by simp) ?_
     intro i_ hi_
     simp only [List.mem_cons, List.not_mem_nil, or_false] at hi_
     subst hi_
     refine One_new hst174 (i := 15) (v := fun b => .slice (some ⟨b, 0, none⟩) 1 1) (ob := .cells #[(int (((nodesOf cs k26).length : Nat) : Int))] 3 (0, 0)) rfl rfl rfl (Want.plain rfl) (by kernel_rfl) (fun b187 w188 hst189 => ?_)
     refine ⟨(fun _ => ⟨(Le.trans hle173 hst189.rle'), hst189.g 3⟩), ?_⟩
     refine LA_all [16] (by decide +kernel) (by simp) ?_
     intro i_ hi_
     simp only [List.mem_cons, List.not_mem_nil, or_false] at hi_
     subst hi_
     refine One_append (j := 16) hst189 (t := 62) (e := 3) (ys := [(((nodesOf cs k26).length : Nat) : Int)]) (src := [(int (((nodesOf cs k26).length : Nat) : Int))]) 4 rfl rfl rfl (Want.plain rfl) rfl rfl rfl sl_62 ti_3 rfl rfl rfl hm175 (src_own (hst189.b 0)) (Encs.one (t := Ty.int) rfl) rfl (by first | omega | (simp only [List.length_append, List.length_cons, List.length_nil]; omega)) (by first | (simp only [maxLen]; omega) | (simp only [List.length_append, List.length_cons, List.length_nil, maxLen]; omega)) (fun v193 c194 w195 ho196 hst197 => ?_)
     refine ⟨(fun _ => ⟨(Le.trans hle173 hst197.rle'), hst197.g 4⟩), ?_⟩
     refine LP (ptr b6 0) 17 rfl rfl rfl (fun u199 => rfl) ⟨(Le.trans hle173 hst197.rle'), hst197.g 4⟩ ?_
     refine LP (ptr b6 1) 18 rfl rfl rfl (fun u202 => (by kernel_rfl)) ⟨(Le.trans hle173 hst197.rle'), hst197.g 4⟩ ?_
     refine LA_all [19] (by decide +kernel) (by simp) ?_
     intro i_ hi_
     simp only [List.mem_cons, List.not_mem_nil, or_false] at hi_
     subst hi_
     obtain ⟨a205, cap206, e207, hc208⟩ := ho196.value
     subst e207
     obtain ⟨w209, hr211, hst210⟩ := run_storeW (P := Tryz.prog) (b := b6) (off := 1) (v := (.slice a205 (((rootsOf k26) ++ [(((nodesOf cs k26).length : Nat) : Int)]).length) cap206)) hst197 2 ti_62 rfl rfl rfl rfl rfl rfl
     change Step _ _ _ _ _ [c194, one b187 (.cells #[(int (((nodesOf cs k26).length : Nat) : Int))] 3 (0, 0)), one b6 (.cells #[vN176, (.slice a205 (((rootsOf k26) ++ [(((nodesOf cs k26).length : Nat) : Int)]).length) cap206), (.map (some b1))] 65 (0, 0)), cN177, one b51 (.cells #[(.string x47.name), (.slice a54 x47.fields.length cap55), (.slice none 0 0)] 48 (0, 0)), c5] at hst210
     refine One_skip (i := 19) rfl rfl (Want.plain rfl) (x_store rfl rfl rfl hr211) (fun h => absurd h (by decide +kernel)) ?_
     refine LA_done (by decide +kernel) ?_
     refine W_region_lit ?_
     refine Lq (int ((k26 + 1 : Nat) : Int)) rfl rfl rfl (x_add_nat rfl rfl rfl (by omega)) ?_
     refine Lq (int ((k26 + 1 : Nat) : Int)) rfl rfl rfl rfl ?_
     refine L_nil ?_
     refine ⟨cs.length - (k26 + 1), by first | omega | (simp only [List.length_append, List.length_cons, List.length_nil]; omega), ?_⟩
     exact ⟨_, _, (k26 + 1), vN176, (.slice a205 (((rootsOf k26) ++ [(((nodesOf cs k26).length : Nat) : Int)]).length) cap206), cN177, c194, (upd_of (upd_of (upd_of (upd_of (upd_of (upd_of (upd_of (upd_of (upd_of (upd_of (upd_of (upd_of (upd_of rfl rfl) rfl) rfl) rfl) rfl) rfl) rfl) rfl) rfl) rfl) rfl) rfl) rfl), hmk17, (((((hst210.front 5 rfl rfl).front 1 rfl rfl).front 4 rfl rfl).front 4 rfl rfl).keepN 4 rfl), (Le.trans hle20 hle173), (by rw [nodesOf_succ (by omega), ← hx48]; exact hN178), (by rw [rootsOf_succ]; have h_ := ho196; simp only [nodesOf_len] at h_ ⊢; exact h_), (by omega), rfl⟩
    ·
     refine One_new hst174 (i := 15) (v := fun b => .slice (some ⟨b, 0, none⟩) 1 1) (ob := .cells #[(int (((nodesOf cs k26).length : Nat) : Int))] 3 (0, 0)) rfl rfl rfl (Want.plain rfl) (by kernel_rfl) (fun b212 w213 hst214 => ?_)
     refine ⟨(fun _ => ⟨(Le.trans hle173 hst214.rle'), hst214.g 3⟩), ?_⟩
     refine LA_all [4] (by decide +kernel) (by simp) ?_
     intro i_ hi_
     simp only [List.mem_cons, List.not_mem_nil, or_false] at hi_
     subst hi_
     refine One_val (i := 4) (v := vR28) rfl rfl rfl (Want.plain rfl) (x_load rfl rfl (run_loadVar_one ti_62 (hst214.b 1) rfl)) (fun _ => ⟨(Le.trans hle173 hst214.rle'), hst214.g 3⟩) ?_
     refine LA_all [16] (by decide +kernel) (by simp) ?_
     intro i_ hi_
     simp only [List.mem_cons, List.not_mem_nil, or_false] at hi_
     subst hi_
     refine One_append (j := 16) hst214 (t := 62) (e := 3) (ys := [(((nodesOf cs k26).length : Nat) : Int)]) (src := [(int (((nodesOf cs k26).length : Nat) : Int))]) 4 rfl rfl rfl (Want.plain rfl) rfl rfl rfl sl_62 ti_3 rfl rfl rfl hm175 (src_own (hst214.b 0)) (Encs.one (t := Ty.int) rfl) rfl (by first | omega | (simp only [List.length_append, List.length_cons, List.length_nil]; omega)) (by first | (simp only [maxLen]; omega) | (simp only [List.length_append, List.length_cons, List.length_nil, maxLen]; omega)) (fun v221 c222 w223 ho224 hst225 => ?_)
     refine ⟨(fun _ => ⟨(Le.trans hle173 hst225.rle'), hst225.g 4⟩), ?_⟩
     refine LP (ptr b6 0) 17 rfl rfl rfl (fun u227 => rfl) ⟨(Le.trans hle173 hst225.rle'), hst225.g 4⟩ ?_
     refine LP (ptr b6 1) 18 rfl rfl rfl (fun u230 => (by kernel_rfl)) ⟨(Le.trans hle173 hst225.rle'), hst225.g 4⟩ ?_
     refine LA_all [19] (by decide +kernel) (by simp) ?_
     intro i_ hi_
     simp only [List.mem_cons, List.not_mem_nil, or_false] at hi_
     subst hi_
     obtain ⟨a233, cap234, e235, hc236⟩ := ho224.value
     subst e235
     obtain ⟨w237, hr239, hst238⟩ := run_storeW (P := Tryz.prog) (b := b6) (off := 1) (v := (.slice a233 (((rootsOf k26) ++ [(((nodesOf cs k26).length : Nat) : Int)]).length) cap234)) hst225 2 ti_62 rfl rfl rfl rfl rfl rfl
     change Step _ _ _ _ _ [c222, one b212 (.cells #[(int (((nodesOf cs k26).length : Nat) : Int))] 3 (0, 0)), one b6 (.cells #[vN176, (.slice a233 (((rootsOf k26) ++ [(((nodesOf cs k26).length : Nat) : Int)]).length) cap234), (.map (some b1))] 65 (0, 0)), cN177, one b51 (.cells #[(.string x47.name), (.slice a54 x47.fields.length cap55), (.slice none 0 0)] 48 (0, 0)), c5] at hst238
     refine One_skip (i := 19) rfl rfl (Want.plain rfl) (x_store rfl rfl rfl hr239) (fun h => absurd h (by decide +kernel)) ?_
     refine LA_done (by decide +kernel) ?_
     refine W_region_lit ?_
     refine Lq (int ((k26 + 1 : Nat) : Int)) rfl rfl rfl (x_add_nat rfl rfl rfl (by omega)) ?_
     refine Lq (int ((k26 + 1 : Nat) : Int)) rfl rfl rfl rfl ?_
     refine L_nil ?_
     refine ⟨cs.length - (k26 + 1), by first | omega | (simp only [List.length_append, List.length_cons, List.length_nil]; omega), ?_⟩
     exact ⟨_, _, (k26 + 1), vN176, (.slice a233 (((rootsOf k26) ++ [(((nodesOf cs k26).length : Nat) : Int)]).length) cap234), cN177, c222, (upd_of (upd_of (upd_of (upd_of (upd_of (upd_of (upd_of (upd_of (upd_of (upd_of (upd_of (upd_of (upd_of rfl rfl) rfl) rfl) rfl) rfl) rfl) rfl) rfl) rfl) rfl) rfl) rfl) rfl), hmk17, (((((hst238.front 5 rfl rfl).front 1 rfl rfl).front 4 rfl rfl).front 4 rfl rfl).keepN 4 rfl), (Le.trans hle20 hle173), (by rw [nodesOf_succ (by omega), ← hx48]; exact hN178), (by rw [rootsOf_succ]; have h_ := ho224; simp only [nodesOf_len] at h_ ⊢; exact h_), (by omega), rfl⟩
  ·
   have q240 := of_decide_eq_false c32
   refine W_cond_false (by show Value.bool _ = _; exact congrArg Value.bool c32) ?_
   refine W_exit ?_
   refine W_seq ?_
   refine W_region_lit ?_
   refine Lq (ptr b6 0) rfl rfl rfl rfl ?_
   refine Lq (ptr b6 0) rfl rfl rfl rfl ?_
   refine L_nil ?_
   refine W_ret ?_
   refine ⟨_, _, res_run (rs := [.tmp 2]) (vs := [(ptr b6 0)]) Tryz.results11 (.cons (.tmp rfl) .nil) hmk17, ?_⟩
   obtain rfl : k26 = cs.length := by omega
   obtain ⟨c', hst', htree'⟩ := Tree.close (s := newTS cs) ((((hst18.front 3 rfl rfl).front 3 rfl rfl).front 3 rfl rfl).front 3 rfl rfl) hi21 hi22 hm4 (newTS_wf cs) (nodesOf_small (Nat.le_refl _) (by omega) (fun x_ hx_ => Nat.le_trans (hfs x_ hx_) (by decide))) (by show (rootsOf cs.length).length ≤ _; rw [rootsOf_len]; omega) (fun h_ => by cases h_)
   exact ⟨_, _, _, rfl, hst'.keepN 1 rfl, _, c', rfl, rfl, htree'⟩
set_option maxHeartbeats 1000000 in
theorem Add_spec {w : World} {R c : Hp} {p : Nat} {s : TS} (k : Int) (name : Str) (hs : Sats w R [c]) (htree : Tree R p s c) (hmx : s.nodes.length ≤ 900000) :
    Calls Tryz.prog 28 #[ptr p 0, int k, .string name] w (Comes' w R [c] fun v' R' L' => ∃ c', v' = .tuple #[int (s.add k name).1, int (s.add k name).2.1] ∧ L' = [c'] ∧ Tree R' p ((s.add k name).2.2) c') := by
 obtain ⟨vN, vR, bm, cN, cR, cM, hce, hd1, hd2, hd3, hN, hRs, hM, hwf, hS, hrl, hbm⟩ := htree
 have hst1 : Step w R [c] w R [uni (treeB p vN vR bm) (tri cN cR cM)] := by have h0 := Step.refl hs; rw [hce] at h0 ⊢; exact h0
 have hst := Tree.opened hst1 hd1 hd2 hd3
 clear hst1 hce hd1 hd2 hd3
 have hlen := hS.len
 have hrv := hwf.root
 refine calls_of_W (n := 81) Tryz.func28 rfl Tryz.ntmps28 (Nat.le_of_ble_eq_true rfl) ?_
 refine W_seq ?_
 refine W_region_lit ?_
 refine Lq (int 0) rfl rfl rfl rfl ?_
 refine Lq (int 0) rfl rfl rfl rfl ?_
 refine L_nil ?_
 refine W_seq ?_
 refine W_seq ?_
 refine W_region_lit ?_
 refine Lq (ptr p 0) rfl rfl rfl rfl ?_
 refine Lq (int k) rfl rfl rfl rfl ?_
 have hv1 : TreeR (hp w) p s.nodes s.roots := ⟨_, _, _, (hst.g 0), OwnL.freeze (v := vN) hN hst.rle' (hst.g 1), OwnL.freeze (v := vR) hRs hst.rle' (hst.g 2), hS, hrv, hrl⟩
 refine L_callG hst (v := (.bool (thereL s.nodes k))) rfl rfl rfl (x_call (vs := #[(ptr p 0), (int k)]) rfl rfl (by kernel_rfl) ent_51) (there_spec k hv1 (Le.refl _)) (fun w2 hst3 => ?_)
 refine Lq (.bool (!(thereL s.nodes k))) rfl rfl rfl rfl ?_
 refine L_nil ?_
 rcases Bool.eq_false_or_eq_true (thereL s.nodes k) with c4 | c4
 ·
  have q5 := thereL_iff.1 c4
  refine W_cond_false (by show Value.bool _ = _; exact congrArg Value.bool (by rw [c4]; rfl)) ?_
  refine W_skip ?_
  refine W_seq ?_
  obtain ⟨kn, rfl⟩ : ∃ n : Nat, k = (n : Int) := ⟨k.toNat, by omega⟩
  obtain ⟨bm0, rfl⟩ : ∃ b, bm = some b := by cases bm with | none => exact absurd (congrArg List.length (hbm rfl)) (by simp only [List.length_nil]; omega) | some b => exact ⟨b, rfl⟩
  refine W_region_lit ?_
  refine Lq (ptr p 0) rfl rfl rfl rfl ?_
  refine Lq (int (kn : Int)) rfl rfl rfl rfl ?_
  have hv6 : TreeR (hp w2) p s.nodes s.roots := ⟨_, _, _, (hst3.g 0), OwnL.freeze (v := vN) hN hst3.rle' (hst3.g 1), OwnL.freeze (v := vR) hRs hst3.rle' (hst3.g 2), hS, hrv, hrl⟩
  have hcl7 : cn s.nodes kn < s.nodes.length := Cans.lt (hS).can (by omega)
  refine L_callG hst3 (v := (int (((cn s.nodes kn) : Nat) : Int))) rfl rfl rfl (x_call (vs := #[(ptr p 0), (int (kn : Int))]) rfl rfl (by kernel_rfl) ent_21) (Canon_nat (by omega) hv6 (Le.refl _)) (fun w8 hst9 => ?_)
  refine Lq (int (((cn s.nodes kn) : Nat) : Int)) rfl rfl rfl rfl ?_
  refine L_nil ?_
  refine W_seq ?_
  refine W_region_lit ?_
  refine Lq (ptr p 0) rfl rfl rfl rfl ?_
  refine Lq (ptr p 0) rfl rfl rfl rfl ?_
  refine Lq (ptr p 0) rfl rfl rfl (by kernel_rfl) ?_
  refine Lq vN rfl rfl rfl (x_load rfl rfl (run_loadVar_one ti_61 (hst9.b 0) rfl)) ?_
  refine Lq (int (((cn s.nodes kn) : Nat) : Int)) rfl rfl rfl rfl ?_
  obtain ⟨a10, cap11, e12, hc13⟩ := hN.value
  subst e12
  obtain ⟨b14, cap15, N16, e17, hc18, hrow19, hback20⟩ := OwnL.row hN (by omega)
  obtain ⟨rfl, hl21, rfl⟩ := Value.slice.inj e17
  try rw [← hl21] at hback20
  obtain ⟨cl22, cs23, hr24, hcb25, hsg26⟩ := Row.at hrow19 (cn s.nodes kn) (by omega)
  obtain ⟨x27, hx28⟩ : ∃ x_, x_ = (s.nodes[(cn s.nodes kn)]'(by omega)) := ⟨_, rfl⟩
  rw [← hx28] at hr24
  have hb29 : x27.names.length ≤ 1000000 := by rw [hx28]; exact hS.names _ (by omega)
  have hb30 : x27.ali = -1 ∨ 0 ≤ x27.ali := by rw [hx28]; exact hS.ali _ (by omega)
  obtain ⟨vn31, rfl, hvn32⟩ := tyNd_open hr24
  refine Lq (ptr b14 (0 + (cn s.nodes kn) * 3)) rfl rfl rfl (x_indexAddr' rfl sl_61 ti_85 rfl rfl (by omega)) ?_
  refine Lq (.agg #[(int x27.cls), (int x27.ali), vn31]) rfl rfl rfl (x_load rfl rfl (run_loadVar_agg ti_85 ((hst9.g 1) _ _ hcb25) hsg26 rfl)) ?_
  refine L_new hst9 (v := fun b => ptr b 0) (ob := .cells #[(int 0), (int 0), (.slice none 0 0)] 85 (0, 0)) rfl rfl rfl (by kernel_rfl) (fun b33 w34 hst35 => ?_)
  obtain ⟨a36, cap37, e38, hc39⟩ := hvn32.shape
  subst e38
  refine L_store hst35 0 ti_85 rfl rfl rfl rfl rfl rfl rfl rfl rfl rfl rfl (fun w40 hst41 => ?_)
  change Step _ _ _ _ _ [one b33 (.cells #[(int x27.cls), (int x27.ali), (.slice a36 x27.names.length cap37)] 85 (0, 0)), one p (.cells #[(.slice (some ⟨b14, 0, none⟩) s.nodes.length cap11), vR, (.map (some bm0))] 65 (0, 0)), cN, cR, cM] at hst41
  refine L_nil ?_
  refine W_seq ?_
  refine W_seq ?_
  refine W_region_lit ?_
  refine Lq (.string name) rfl rfl rfl rfl ?_
  refine Lq (.bool (decide (name = ⟨#[]⟩))) rfl rfl rfl (x_eqlD rfl rfl rfl) ?_
  refine Lq (.bool (decide (name = ⟨#[]⟩))) rfl rfl rfl rfl ?_
  rcases Bool.eq_false_or_eq_true (decide (name = ⟨#[]⟩)) with c42 | c42
  ·
   have q43 := of_decide_eq_true c42
   refine L_unwanted rfl rfl rfl rfl (by rw [c42]; try rfl) rfl rfl ?_
   refine L_unwanted rfl rfl rfl rfl (by rw [c42]; try rfl) rfl rfl ?_
   refine L_unwanted rfl rfl rfl rfl (by rw [c42]; try rfl) rfl rfl ?_
   refine L_unwanted rfl rfl rfl rfl (by rw [c42]; try rfl) rfl rfl ?_
   refine Lq (.bool true) rfl rfl rfl (x_pick rfl rfl (by rw [c42]; rfl)) ?_
   refine L_nil ?_
   refine W_cond_true (by show Value.bool _ = _; exact congrArg Value.bool rfl) ?_
   refine W_seq ?_
   refine W_region_lit ?_
   refine Lq (int 0) rfl rfl rfl rfl ?_
   refine Lq (int 13) rfl rfl rfl rfl ?_
   refine L_nil ?_
   refine W_ret ?_
   refine ⟨_, _, res_run (rs := [.tmp 6, .tmp 7]) (vs := [(int 0), (int 13)]) Tryz.results28 (.cons (.tmp rfl) (.cons (.tmp rfl) .nil)) rfl, ?_⟩
   have he := add_name (x := x27) (s := s) (k := kn) (by omega) (by rw [List.getElem?_eq_getElem (by omega), hx28]) (.inl (of_decide_eq_true c42))
   rw [he]
   obtain ⟨c', hst', htree'⟩ := Tree.close (s := s) ((((hst41.front 4 rfl rfl).front 4 rfl rfl).front 4 rfl rfl).front 4 rfl rfl) (hback20 R s.nodes cN (by first | rfl | (simp only [List.length_set]; done) | (simp only [List.length_set]; omega) | omega) hrow19) hRs hM hwf hS hrl hbm
   exact ⟨_, _, _, rfl, hst'.keepN 1 rfl, c', rfl, rfl, htree'⟩
  ·
   have q44 := of_decide_eq_false c42
   refine L_guard rfl rfl rfl rfl c42 ?_
   refine Lq (ptr b33 2) rfl rfl rfl (by kernel_rfl) ?_
   refine L_guard rfl rfl rfl rfl c42 ?_
   refine Lq (.slice a36 x27.names.length cap37) rfl rfl rfl (x_load rfl rfl (run_loadVar_one ti_42 (hst41.b 0) rfl)) ?_
   refine L_guard rfl rfl rfl rfl c42 ?_
   refine Lq (.string name) rfl rfl rfl rfl ?_
   refine L_guard rfl rfl rfl rfl c42 ?_
   refine L_callG hst41 (v := (.bool (decide (name ∈ x27.names)))) rfl rfl rfl (x_call (vs := #[(.slice a36 x27.names.length cap37), (.string name)]) rfl rfl (by kernel_rfl) ent_56) (Contains_spec name (Le.refl _) (RdS.mono hvn32 hst41.rle') (by first | omega | assumption)) (fun w45 hst46 => ?_)
   refine Lq (.bool (decide (name ∈ x27.names))) rfl rfl rfl (x_pick rfl rfl (by rw [c42]; rfl)) ?_
   refine L_nil ?_
   rcases Bool.eq_false_or_eq_true (decide (name ∈ x27.names)) with c47 | c47
   ·
    have q48 := of_decide_eq_true c47
    refine W_cond_true (by show Value.bool _ = _; exact congrArg Value.bool c47) ?_
    refine W_seq ?_
    refine W_region_lit ?_
    refine Lq (int 0) rfl rfl rfl rfl ?_
    refine Lq (int 13) rfl rfl rfl rfl ?_
    refine L_nil ?_
    refine W_ret ?_
    refine ⟨_, _, res_run (rs := [.tmp 6, .tmp 7]) (vs := [(int 0), (int 13)]) Tryz.results28 (.cons (.tmp rfl) (.cons (.tmp rfl) .nil)) rfl, ?_⟩
    have he := add_name (x := x27) (s := s) (k := kn) (by omega) (by rw [List.getElem?_eq_getElem (by omega), hx28]) (.inr (of_decide_eq_true c47))
    rw [he]
    obtain ⟨c', hst', htree'⟩ := Tree.close (s := s) ((((hst46.front 4 rfl rfl).front 4 rfl rfl).front 4 rfl rfl).front 4 rfl rfl) (hback20 R s.nodes cN (by first | rfl | (simp only [List.length_set]; done) | (simp only [List.length_set]; omega) | omega) hrow19) hRs hM hwf hS hrl hbm
    exact ⟨_, _, _, rfl, hst'.keepN 1 rfl, c', rfl, rfl, htree'⟩
   ·
    have q49 := of_decide_eq_false c47
    refine W_cond_false (by show Value.bool _ = _; exact congrArg Value.bool c47) ?_
    refine W_skip ?_
    refine W_seq ?_
    refine W_seq ?_
    refine W_region_lit ?_
    refine Lq (ptr p 0) rfl rfl rfl rfl ?_
    refine Lq (ptr p 0) rfl rfl rfl rfl ?_
    refine Lq (ptr p 2) rfl rfl rfl (by kernel_rfl) ?_
    refine Lq (.map (some bm0)) rfl rfl rfl (x_load rfl rfl (run_loadVar_one ti_63 (hst46.b 1) rfl)) ?_
    refine Lq (int (((cn s.nodes kn) : Nat) : Int)) rfl rfl rfl rfl ?_
    refine Lq (.string name) rfl rfl rfl rfl ?_
    refine Lq (.agg #[(int (((cn s.nodes kn) : Nat) : Int)), (.string name)]) rfl rfl rfl (by kernel_rfl) ?_
    obtain ⟨v50, hr51, hv52⟩ := MapC.lookupD (w := w45) hM (hst46.g 4) law98 mt_63 ti_3 ((((cn s.nodes kn) : Nat) : Int), name) true 0 rfl
    have hv52' : v50 = .int .i64 ((AL.get s.next ((((cn s.nodes kn) : Nat) : Int), name)).getD 0) := hv52
    subst hv52'
    refine Lq (.tuple #[(int ((AL.get s.next ((((cn s.nodes kn) : Nat) : Int), name)).getD 0)), (.bool ((AL.get s.next ((((cn s.nodes kn) : Nat) : Int), name)).isSome))]) rfl rfl rfl (x_lookup rfl rfl rfl hr51) ?_
    refine Lq (.tuple #[(int ((AL.get s.next ((((cn s.nodes kn) : Nat) : Int), name)).getD 0)), (.bool ((AL.get s.next ((((cn s.nodes kn) : Nat) : Int), name)).isSome))]) rfl rfl rfl rfl ?_
    refine Lq (int ((AL.get s.next ((((cn s.nodes kn) : Nat) : Int), name)).getD 0)) rfl rfl rfl (by kernel_rfl) ?_
    refine Lq (.bool ((AL.get s.next ((((cn s.nodes kn) : Nat) : Int), name)).isSome)) rfl rfl rfl (by kernel_rfl) ?_
    refine Lq (int ((AL.get s.next ((((cn s.nodes kn) : Nat) : Int), name)).getD 0)) rfl rfl rfl rfl ?_
    refine Lq (.bool ((AL.get s.next ((((cn s.nodes kn) : Nat) : Int), name)).isSome)) rfl rfl rfl rfl ?_
    refine L_nil ?_
    refine W_seq ?_
    refine W_region_lit ?_
    refine Lq (.bool ((AL.get s.next ((((cn s.nodes kn) : Nat) : Int), name)).isSome)) rfl rfl rfl rfl ?_
    refine L_nil ?_
    rcases Bool.eq_false_or_eq_true ((AL.get s.next ((((cn s.nodes kn) : Nat) : Int), name)).isSome) with c53 | c53
    ·
     refine W_cond_true (by show Value.bool _ = _; exact congrArg Value.bool c53) ?_
     refine W_seq ?_
     refine W_region_lit ?_
     refine Lq (ptr p 0) rfl rfl rfl rfl ?_
     refine Lq (int ((AL.get s.next ((((cn s.nodes kn) : Nat) : Int), name)).getD 0)) rfl rfl rfl rfl ?_
     have hv54 : TreeR (hp w45) p s.nodes s.roots := ⟨_, _, _, (hst46.g 1), OwnL.freeze (v := (.slice (some ⟨b14, 0, none⟩) s.nodes.length cap11)) (hback20 R s.nodes cN (by first | rfl | (simp only [List.length_set]; done) | (simp only [List.length_set]; omega) | omega) hrow19) hst46.rle' (hst46.g 2), OwnL.freeze (v := vR) hRs hst46.rle' (hst46.g 3), hS, hrv, hrl⟩
     refine L_callG hst46 (v := (int (canon s.nodes ((AL.get s.next ((((cn s.nodes kn) : Nat) : Int), name)).getD 0)))) rfl rfl rfl (x_call (vs := #[(ptr p 0), (int ((AL.get s.next ((((cn s.nodes kn) : Nat) : Int), name)).getD 0))]) rfl rfl (by kernel_rfl) ent_21) (Canon_spec ((AL.get s.next ((((cn s.nodes kn) : Nat) : Int), name)).getD 0) hv54 (Le.refl _)) (fun w55 hst56 => ?_)
     refine Lq (int (canon s.nodes ((AL.get s.next ((((cn s.nodes kn) : Nat) : Int), name)).getD 0))) rfl rfl rfl rfl ?_
     refine Lq (int 0) rfl rfl rfl rfl ?_
     refine L_nil ?_
     refine W_ret ?_
     refine ⟨_, _, res_run (rs := [.tmp 6, .tmp 7]) (vs := [(int (canon s.nodes ((AL.get s.next ((((cn s.nodes kn) : Nat) : Int), name)).getD 0))), (int 0)]) Tryz.results28 (.cons (.tmp rfl) (.cons (.tmp rfl) .nil)) rfl, ?_⟩
     have he := add_link (s := s) (x := x27) (k := kn) (by omega) (by rw [List.getElem?_eq_getElem (by omega), hx28]) (of_decide_eq_false c42) (of_decide_eq_false c47) c53
     rw [he]
     obtain ⟨c', hst', htree'⟩ := Tree.close (s := s) ((((hst56.front 4 rfl rfl).front 4 rfl rfl).front 4 rfl rfl).front 4 rfl rfl) (hback20 R s.nodes cN (by first | rfl | (simp only [List.length_set]; done) | (simp only [List.length_set]; omega) | omega) hrow19) hRs hM hwf hS hrl hbm
     exact ⟨_, _, _, rfl, hst'.keepN 1 rfl, c', rfl, rfl, htree'⟩
    ·
     refine W_cond_false (by show Value.bool _ = _; exact congrArg Value.bool c53) ?_
     refine W_skip ?_
     refine W_seq ?_
     refine W_seq ?_
     refine W_region_lit ?_
     refine Lq (ptr b33 2) rfl rfl rfl (by kernel_rfl) ?_
     refine Lq (.slice a36 x27.names.length cap37) rfl rfl rfl (x_load rfl rfl (run_loadVar_one ti_42 (hst46.b 0) rfl)) ?_
     refine Lq (int (x27.names.length : Int)) rfl rfl rfl (x_len_slice rfl sl_42 rfl) ?_
     refine Lq (.bool (decide ((x27.names.length : Int) ≥ 64))) rfl rfl rfl (by kernel_rfl) ?_
     refine Lq (.bool (decide ((x27.names.length : Int) ≥ 64))) rfl rfl rfl rfl ?_
     rcases Bool.eq_false_or_eq_true (decide ((x27.names.length : Int) ≥ 64)) with c57 | c57
     ·
      have q58 := of_decide_eq_true c57
      refine L_unwanted rfl rfl rfl rfl (by rw [c57]; try rfl) rfl rfl ?_
      refine L_unwanted rfl rfl rfl rfl (by rw [c57]; try rfl) rfl rfl ?_
      refine L_unwanted rfl rfl rfl rfl (by rw [c57]; try rfl) rfl rfl ?_
      refine L_unwanted rfl rfl rfl rfl (by rw [c57]; try rfl) rfl rfl ?_
      refine L_unwanted rfl rfl rfl rfl (by rw [c57]; try rfl) rfl rfl ?_
      refine L_unwanted rfl rfl rfl rfl (by rw [c57]; try rfl) rfl rfl ?_
      refine Lq (.bool true) rfl rfl rfl (x_pick rfl rfl (by rw [c57]; rfl)) ?_
      refine L_nil ?_
      refine W_cond_true (by show Value.bool _ = _; exact congrArg Value.bool rfl) ?_
      refine W_seq ?_
      refine W_region_lit ?_
      refine Lq (int 0) rfl rfl rfl rfl ?_
      refine Lq (int 2) rfl rfl rfl rfl ?_
      refine L_nil ?_
      refine W_ret ?_
      refine ⟨_, _, res_run (rs := [.tmp 6, .tmp 7]) (vs := [(int 0), (int 2)]) Tryz.results28 (.cons (.tmp rfl) (.cons (.tmp rfl) .nil)) rfl, ?_⟩
      have he := add_many (s := s) (x := x27) (k := kn) (by omega) (by rw [List.getElem?_eq_getElem (by omega), hx28]) (of_decide_eq_false c42) (of_decide_eq_false c47) c53 (by omega)
      rw [he]
      obtain ⟨c', hst', htree'⟩ := Tree.close (s := s) ((((hst46.front 4 rfl rfl).front 4 rfl rfl).front 4 rfl rfl).front 4 rfl rfl) (hback20 R s.nodes cN (by first | rfl | (simp only [List.length_set]; done) | (simp only [List.length_set]; omega) | omega) hrow19) hRs hM hwf hS hrl hbm
      exact ⟨_, _, _, rfl, hst'.keepN 1 rfl, c', rfl, rfl, htree'⟩
     ·
      have q59 := of_decide_eq_false c57
      refine L_guard rfl rfl rfl rfl c57 ?_
      refine Lq (ptr p 0) rfl rfl rfl rfl ?_
      refine L_guard rfl rfl rfl rfl c57 ?_
      refine Lq (ptr p 0) rfl rfl rfl rfl ?_
      refine L_guard rfl rfl rfl rfl c57 ?_
      refine Lq (ptr p 0) rfl rfl rfl (by kernel_rfl) ?_
      refine L_guard rfl rfl rfl rfl c57 ?_
      refine Lq (.slice (some ⟨b14, 0, none⟩) s.nodes.length cap11) rfl rfl rfl (x_load rfl rfl (run_loadVar_one ti_61 (hst46.b 1) rfl)) ?_
      refine L_guard rfl rfl rfl rfl c57 ?_
      refine Lq (int (s.nodes.length : Int)) rfl rfl rfl (x_len_slice rfl sl_61 rfl) ?_
      refine L_guard rfl rfl rfl rfl c57 ?_
      refine Lq (.bool (decide ((s.nodes.length : Int) ≥ 200))) rfl rfl rfl (by kernel_rfl) ?_
      refine Lq (.bool (decide ((s.nodes.length : Int) ≥ 200))) rfl rfl rfl (x_pick rfl rfl (by rw [c57]; rfl)) ?_
      refine L_nil ?_
      rcases Bool.eq_false_or_eq_true (decide ((s.nodes.length : Int) ≥ 200)) with c60 | c60
      ·
       have q61 := of_decide_eq_true c60
       refine W_cond_true (by show Value.bool _ = _; exact congrArg Value.bool c60) ?_
       refine W_seq ?_
       refine W_region_lit ?_
       refine Lq (int 0) rfl rfl rfl rfl ?_
       refine Lq (int 2) rfl rfl rfl rfl ?_
       refine L_nil ?_
       refine W_ret ?_
       refine ⟨_, _, res_run (rs := [.tmp 6, .tmp 7]) (vs := [(int 0), (int 2)]) Tryz.results28 (.cons (.tmp rfl) (.cons (.tmp rfl) .nil)) rfl, ?_⟩
       have he := add_many (s := s) (x := x27) (k := kn) (by omega) (by rw [List.getElem?_eq_getElem (by omega), hx28]) (of_decide_eq_false c42) (of_decide_eq_false c47) c53 (by omega)
       rw [he]
       obtain ⟨c', hst', htree'⟩ := Tree.close (s := s) ((((hst46.front 4 rfl rfl).front 4 rfl rfl).front 4 rfl rfl).front 4 rfl rfl) (hback20 R s.nodes cN (by first | rfl | (simp only [List.length_set]; done) | (simp only [List.length_set]; omega) | omega) hrow19) hRs hM hwf hS hrl hbm
       exact ⟨_, _, _, rfl, hst'.keepN 1 rfl, c', rfl, rfl, htree'⟩
      ·
       have q62 := of_decide_eq_false c60
       refine W_cond_false (by show Value.bool _ = _; exact congrArg Value.bool c60) ?_
       refine W_skip ?_
       refine W_seq ?_
       refine W_region_draw [] (fun w => Le R (hp w) ∧ Le (one b33 (.cells #[(int x27.cls), (int x27.ali), (.slice a36 x27.names.length cap37)] 85 (0, 0))) (hp w)) hmix (by decide +kernel) (fun _ _ h => h) ?_
       have hst64 := hst46.draws (w45.drawn + 1)
       generalize draws w45 (w45.drawn + 1) = w63 at hst64 ⊢
       refine LP (ptr p 0) 0 rfl rfl rfl (fun u66 => rfl) ⟨hst64.rle', hst64.g 0⟩ ?_
       refine LP (ptr b33 0) 1 rfl rfl rfl (fun u69 => (by kernel_rfl)) ⟨hst64.rle', hst64.g 0⟩ ?_
       refine LT (int x27.cls) 2 rfl rfl rfl (fun u72 hF73 => (x_load rfl rfl (run_loadVar_one ti_3 (hF73.2 _ _ (one_self _ _)) rfl))) ⟨hst64.rle', hst64.g 0⟩ ?_
       refine LP (ptr b33 2) 3 rfl rfl rfl (fun u75 => (by kernel_rfl)) ⟨hst64.rle', hst64.g 0⟩ ?_
       refine LT (.slice a36 x27.names.length cap37) 4 rfl rfl rfl (fun u78 hF79 => (x_load rfl rfl (run_loadVar_one ti_42 (hF79.2 _ _ (one_self _ _)) rfl))) ⟨hst64.rle', hst64.g 0⟩ ?_
       refine LP (.string name) 6 rfl rfl rfl (fun u83 => rfl) ⟨hst64.rle', hst64.g 0⟩ ?_
       refine LA_all [5, 7] (by decide +kernel) (by simp) ?_
       intro i_ hi_
       simp only [List.mem_cons, List.not_mem_nil, or_false] at hi_
       rcases hi_ with rfl | rfl
       ·
        have hst90 := hst64
        refine One_callS (i := 5) [] [one b33 (.cells #[(int x27.cls), (int x27.ali), (.slice a36 x27.names.length cap37)] 85 (0, 0)), one p (.cells #[(.slice (some ⟨b14, 0, none⟩) s.nodes.length cap11), vR, (.map (some bm0))] 65 (0, 0)), cN, cR, cM] hst90 rfl rfl rfl (Want.plain rfl) (x_call (vs := #[(.slice a36 x27.names.length cap37)]) rfl rfl (by kernel_rfl) ent_52) (Clone_specB (v := (.slice a36 x27.names.length cap37)) (xs := x27.names) (hst90.sats.take 0 rfl) hvn32 hst64.rle' (by first | omega | assumption)) (fun v91 w92 R93 L94 hp95 hle96 hst97 => ?_)
        have hm98 := Row.mono hrow19 hle96
        have hm99 := OwnL.mono hRs hle96
        obtain ⟨c100, rfl, ho101⟩ := hp95
        refine ⟨(fun _ => ⟨(Le.trans hle96 hst97.rle'), hst97.g 1⟩), ?_⟩
        refine LA_all [7] (by decide +kernel) (by simp) ?_
        intro i_ hi_
        simp only [List.mem_cons, List.not_mem_nil, or_false] at hi_
        subst hi_
        refine One_new hst97 (i := 7) (v := fun b => .slice (some ⟨b, 0, none⟩) 1 1) (ob := .cells #[(.string name)] 9 (0, 0)) rfl rfl rfl (Want.plain rfl) (by kernel_rfl) (fun b105 w106 hst107 => ?_)
        refine ⟨(fun _ => ⟨(Le.trans hle96 hst107.rle'), hst107.g 2⟩), ?_⟩
        refine LA_all [8] (by decide +kernel) (by simp) ?_
        intro i_ hi_
        simp only [List.mem_cons, List.not_mem_nil, or_false] at hi_
        subst hi_
        refine One_append (j := 8) hst107 (t := 42) (e := 9) (ys := [name]) (src := [(.string name)]) 1 rfl rfl rfl (Want.plain rfl) rfl rfl rfl sl_42 ti_9 rfl rfl rfl ho101 (src_own (hst107.b 0)) (str_mk _ _) rfl (by first | omega | (simp only [List.length_append, List.length_cons, List.length_nil]; omega)) (by first | (simp only [maxLen]; omega) | (simp only [List.length_append, List.length_cons, List.length_nil, maxLen]; omega)) (fun v111 c112 w113 ho114 hst115 => ?_)
        refine ⟨(fun _ => ⟨(Le.trans hle96 hst115.rle'), hst115.g 2⟩), ?_⟩
        refine LA_all [9] (by decide +kernel) (by simp) ?_
        intro i_ hi_
        simp only [List.mem_cons, List.not_mem_nil, or_false] at hi_
        subst hi_
        obtain ⟨a119, cap120, e121, hc122⟩ := ho114.value
        subst e121
        obtain ⟨R123, hst124, hle125, hc126⟩ := Step.frz hst115
        have hm127 := Row.mono hm98 hle125
        have hm128 := OwnL.mono hm99 hle125
        have hrd129 := OwnL.freeze ho114 hle125 hc126
        have hst130 := ((hst124.front 3 rfl rfl).front 3 rfl rfl)
        refine One_callS (i := 9) [one p (.cells #[(.slice (some ⟨b14, 0, none⟩) s.nodes.length cap11), vR, (.map (some bm0))] 65 (0, 0)), cN] [one b105 (.cells #[(.string name)] 9 (0, 0)), one b33 (.cells #[(int x27.cls), (int x27.ali), (.slice a36 x27.names.length cap37)] 85 (0, 0)), cR, cM] hst130 rfl rfl rfl (Want.plain rfl) (x_call (vs := #[(ptr p 0), (int x27.cls), (.slice a119 ((x27.names ++ [name]).length) cap120)]) rfl rfl (by kernel_rfl) ent_39) (add_spec (names := (x27.names ++ [name])) x27.cls (hst130.sats.take 2 rfl) (hback20 R123 s.nodes cN (by first | rfl | (simp only [List.length_set]; done) | (simp only [List.length_set]; omega) | omega) hm127) hrd129 (by first | omega | assumption | (simp only [List.length_append, List.length_cons, List.length_nil]; omega)) (by first | omega | (simp only [List.length_append, List.length_cons, List.length_nil]; omega))) (fun v131 w132 R133 L134 hp135 hle136 hst137 => ?_)
        have hm138 := OwnL.mono hm128 hle136
        obtain ⟨vN139, cN140, rfl, rfl, hN141⟩ := hp135
        refine ⟨(fun _ => ⟨(Le.trans hle96 (Le.trans hle125 (Le.trans hle136 hst137.rle'))), hst137.g 3⟩), ?_⟩
        refine LP (int (s.nodes.length : Int)) 10 rfl rfl rfl (fun u143 => rfl) ⟨(Le.trans hle96 (Le.trans hle125 (Le.trans hle136 hst137.rle'))), hst137.g 3⟩ ?_
        refine LA_done (by decide +kernel) ?_
        refine W_seq ?_
        refine W_region_lit ?_
        refine Lq (ptr p 0) rfl rfl rfl rfl ?_
        refine Lq (ptr p 0) rfl rfl rfl rfl ?_
        refine Lq (ptr p 2) rfl rfl rfl (by kernel_rfl) ?_
        refine Lq (.map (some bm0)) rfl rfl rfl (x_load rfl rfl (run_loadVar_one ti_63 (hst137.b 0) rfl)) ?_
        refine Lq (int (((cn s.nodes kn) : Nat) : Int)) rfl rfl rfl rfl ?_
        refine Lq (.string name) rfl rfl rfl rfl ?_
        refine Lq (.agg #[(int (((cn s.nodes kn) : Nat) : Int)), (.string name)]) rfl rfl rfl (by kernel_rfl) ?_
        refine Lq (int (s.nodes.length : Int)) rfl rfl rfl rfl ?_
        obtain ⟨c145, w146, hr147, hm148, hst149⟩ := MapC.update hM (hst137.front 5 rfl rfl) law98 mt_63 ((((cn s.nodes kn) : Nat) : Int), name) (s.nodes.length : Int) (int (s.nodes.length : Int)) rfl
        refine L_skip rfl rfl (x_mapUpdate rfl rfl rfl rfl hr147) ?_
        refine L_nil ?_
        refine W_seq ?_
        refine W_region_lit ?_
        refine Lq (int (s.nodes.length : Int)) rfl rfl rfl rfl ?_
        refine Lq (int (s.nodes.length : Int)) rfl rfl rfl rfl ?_
        refine Lq (int 0) rfl rfl rfl rfl ?_
        refine L_nil ?_
        refine W_ret ?_
        refine ⟨_, _, res_run (rs := [.tmp 6, .tmp 7]) (vs := [(int (s.nodes.length : Int)), (int 0)]) Tryz.results28 (.cons (.tmp rfl) (.cons (.tmp rfl) .nil)) rfl, ?_⟩
        have hw2 := hwf.add (kn : Int) name
        have he0 := add_new (s := s) (x := x27) (k := kn) (by omega) (by rw [List.getElem?_eq_getElem (by omega), hx28]) (of_decide_eq_false c42) (of_decide_eq_false c47) c53 (by omega) (by omega)
        rw [he0] at hw2
        have he := he0
        rw [he]
        obtain ⟨c', hst', htree'⟩ := Tree.close (s := s.grown kn x27 name) (((hst149.front 5 rfl rfl).front 3 rfl rfl).front 3 rfl rfl) hN141 hm138 hm148 hw2 (hS.app (by omega) (by simp only [List.length_append, List.length_cons, List.length_nil]; omega) rfl) hrl (fun h_ => by cases h_)
        exact ⟨_, _, _, rfl, hst'.keepN 1 rfl, c', rfl, rfl, htree'⟩
       ·
        refine One_new hst64 (i := 7) (v := fun b => .slice (some ⟨b, 0, none⟩) 1 1) (ob := .cells #[(.string name)] 9 (0, 0)) rfl rfl rfl (Want.plain rfl) (by kernel_rfl) (fun b150 w151 hst152 => ?_)
        refine ⟨(fun _ => ⟨hst152.rle', hst152.g 1⟩), ?_⟩
        refine LA_all [5] (by decide +kernel) (by simp) ?_
        intro i_ hi_
        simp only [List.mem_cons, List.not_mem_nil, or_false] at hi_
        subst hi_
        have hst156 := hst152
        refine One_callS (i := 5) [] [one b150 (.cells #[(.string name)] 9 (0, 0)), one b33 (.cells #[(int x27.cls), (int x27.ali), (.slice a36 x27.names.length cap37)] 85 (0, 0)), one p (.cells #[(.slice (some ⟨b14, 0, none⟩) s.nodes.length cap11), vR, (.map (some bm0))] 65 (0, 0)), cN, cR, cM] hst156 rfl rfl rfl (Want.plain rfl) (x_call (vs := #[(.slice a36 x27.names.length cap37)]) rfl rfl (by kernel_rfl) ent_52) (Clone_specB (v := (.slice a36 x27.names.length cap37)) (xs := x27.names) (hst156.sats.take 0 rfl) hvn32 hst152.rle' (by first | omega | assumption)) (fun v157 w158 R159 L160 hp161 hle162 hst163 => ?_)
        have hm164 := Row.mono hrow19 hle162
        have hm165 := OwnL.mono hRs hle162
        obtain ⟨c166, rfl, ho167⟩ := hp161
        refine ⟨(fun _ => ⟨(Le.trans hle162 hst163.rle'), hst163.g 2⟩), ?_⟩
        refine LA_all [8] (by decide +kernel) (by simp) ?_
        intro i_ hi_
        simp only [List.mem_cons, List.not_mem_nil, or_false] at hi_
        subst hi_
        refine One_append (j := 8) hst163 (t := 42) (e := 9) (ys := [name]) (src := [(.string name)]) 0 rfl rfl rfl (Want.plain rfl) rfl rfl rfl sl_42 ti_9 rfl rfl rfl ho167 (src_own (hst163.b 1)) (str_mk _ _) rfl (by first | omega | (simp only [List.length_append, List.length_cons, List.length_nil]; omega)) (by first | (simp only [maxLen]; omega) | (simp only [List.length_append, List.length_cons, List.length_nil, maxLen]; omega)) (fun v171 c172 w173 ho174 hst175 => ?_)
        refine ⟨(fun _ => ⟨(Le.trans hle162 hst175.rle'), hst175.g 2⟩), ?_⟩
        refine LA_all [9] (by decide +kernel) (by simp) ?_
        intro i_ hi_
        simp only [List.mem_cons, List.not_mem_nil, or_false] at hi_
        subst hi_
        obtain ⟨a179, cap180, e181, hc182⟩ := ho174.value
        subst e181
        obtain ⟨R183, hst184, hle185, hc186⟩ := Step.frz hst175
        have hm187 := Row.mono hm164 hle185
        have hm188 := OwnL.mono hm165 hle185
        have hrd189 := OwnL.freeze ho174 hle185 hc186
        have hst190 := ((hst184.front 3 rfl rfl).front 3 rfl rfl)
        refine One_callS (i := 9) [one p (.cells #[(.slice (some ⟨b14, 0, none⟩) s.nodes.length cap11), vR, (.map (some bm0))] 65 (0, 0)), cN] [one b150 (.cells #[(.string name)] 9 (0, 0)), one b33 (.cells #[(int x27.cls), (int x27.ali), (.slice a36 x27.names.length cap37)] 85 (0, 0)), cR, cM] hst190 rfl rfl rfl (Want.plain rfl) (x_call (vs := #[(ptr p 0), (int x27.cls), (.slice a179 ((x27.names ++ [name]).length) cap180)]) rfl rfl (by kernel_rfl) ent_39) (add_spec (names := (x27.names ++ [name])) x27.cls (hst190.sats.take 2 rfl) (hback20 R183 s.nodes cN (by first | rfl | (simp only [List.length_set]; done) | (simp only [List.length_set]; omega) | omega) hm187) hrd189 (by first | omega | assumption | (simp only [List.length_append, List.length_cons, List.length_nil]; omega)) (by first | omega | (simp only [List.length_append, List.length_cons, List.length_nil]; omega))) (fun v191 w192 R193 L194 hp195 hle196 hst197 => ?_)
        have hm198 := OwnL.mono hm188 hle196
        obtain ⟨vN199, cN200, rfl, rfl, hN201⟩ := hp195
        refine ⟨(fun _ => ⟨(Le.trans hle162 (Le.trans hle185 (Le.trans hle196 hst197.rle'))), hst197.g 3⟩), ?_⟩
        refine LP (int (s.nodes.length : Int)) 10 rfl rfl rfl (fun u203 => rfl) ⟨(Le.trans hle162 (Le.trans hle185 (Le.trans hle196 hst197.rle'))), hst197.g 3⟩ ?_
        refine LA_done (by decide +kernel) ?_
        refine W_seq ?_
        refine W_region_lit ?_
        refine Lq (ptr p 0) rfl rfl rfl rfl ?_
        refine Lq (ptr p 0) rfl rfl rfl rfl ?_
        refine Lq (ptr p 2) rfl rfl rfl (by kernel_rfl) ?_
        refine Lq (.map (some bm0)) rfl rfl rfl (x_load rfl rfl (run_loadVar_one ti_63 (hst197.b 0) rfl)) ?_
        refine Lq (int (((cn s.nodes kn) : Nat) : Int)) rfl rfl rfl rfl ?_
        refine Lq (.string name) rfl rfl rfl rfl ?_
        refine Lq (.agg #[(int (((cn s.nodes kn) : Nat) : Int)), (.string name)]) rfl rfl rfl (by kernel_rfl) ?_
        refine Lq (int (s.nodes.length : Int)) rfl rfl rfl rfl ?_
        obtain ⟨c205, w206, hr207, hm208, hst209⟩ := MapC.update hM (hst197.front 5 rfl rfl) law98 mt_63 ((((cn s.nodes kn) : Nat) : Int), name) (s.nodes.length : Int) (int (s.nodes.length : Int)) rfl
        refine L_skip rfl rfl (x_mapUpdate rfl rfl rfl rfl hr207) ?_
        refine L_nil ?_
        refine W_seq ?_
        refine W_region_lit ?_
        refine Lq (int (s.nodes.length : Int)) rfl rfl rfl rfl ?_
        refine Lq (int (s.nodes.length : Int)) rfl rfl rfl rfl ?_
        refine Lq (int 0) rfl rfl rfl rfl ?_
        refine L_nil ?_
        refine W_ret ?_
        refine ⟨_, _, res_run (rs := [.tmp 6, .tmp 7]) (vs := [(int (s.nodes.length : Int)), (int 0)]) Tryz.results28 (.cons (.tmp rfl) (.cons (.tmp rfl) .nil)) rfl, ?_⟩
        have hw2 := hwf.add (kn : Int) name
        have he0 := add_new (s := s) (x := x27) (k := kn) (by omega) (by rw [List.getElem?_eq_getElem (by omega), hx28]) (of_decide_eq_false c42) (of_decide_eq_false c47) c53 (by omega) (by omega)
        rw [he0] at hw2
        have he := he0
        rw [he]
        obtain ⟨c', hst', htree'⟩ := Tree.close (s := s.grown kn x27 name) (((hst209.front 5 rfl rfl).front 3 rfl rfl).front 3 rfl rfl) hN201 hm198 hm208 hw2 (hS.app (by omega) (by simp only [List.length_append, List.length_cons, List.length_nil]; omega) rfl) hrl (fun h_ => by cases h_)
        exact ⟨_, _, _, rfl, hst'.keepN 1 rfl, c', rfl, rfl, htree'⟩
 ·
  have q210 := thereL_not.1 c4
  refine W_cond_true (by show Value.bool _ = _; exact congrArg Value.bool (by rw [c4]; rfl)) ?_
  refine W_seq ?_
  refine W_region_lit ?_
  refine Lq (int 0) rfl rfl rfl rfl ?_
  refine Lq (int 1) rfl rfl rfl rfl ?_
  refine L_nil ?_
  refine W_ret ?_
  refine ⟨_, _, res_run (rs := [.tmp 6, .tmp 7]) (vs := [(int 0), (int 1)]) Tryz.results28 (.cons (.tmp rfl) (.cons (.tmp rfl) .nil)) rfl, ?_⟩
  have he := add_out (s := s) (name := name) c4
  rw [he]
  obtain ⟨c', hst', htree'⟩ := Tree.close (s := s) ((((hst3.front 3 rfl rfl).front 3 rfl rfl).front 3 rfl rfl).front 3 rfl rfl) hN hRs hM hwf hS hrl hbm
  exact ⟨_, _, _, rfl, hst'.keepN 1 rfl, c', rfl, rfl, htree'⟩
end Go.Fx.YtjpdhfhiimbpgaaGreatDoor
set_option linter.unusedSimpArgs false
set_option linter.unusedVariables false
set_option linter.unusedSectionVars false
namespace Go.Fx
open Go
section
variable {α : Type} {t : Ty α} {T b N : Nat} {R R0 : Hp} {xs : List α} {c : Hp} {w w0 : World} {L0 Lr : List Hp} {P : Program}
/-- A part of an element is written, whatever its cells are. -/
theorem Row.storeG {agg : Bool} {n bytes : Nat} {z v : Value} {eT : TypeId} (h : Row t T b N R xs c) (hst : Step w0 R0 L0 w R (c :: Lr)) (ti : TI P eT agg n bytes z) (i : Nat) (hi : i < xs.length) (fo : Nat) (hfo : fo + n ≤ t.sz) {y : α}
    (hvl : v.cells.toList.length = n) (hone : v.cells.toList.all (·.oneCell') = true) (hy : ∀ c1, t.rel R xs[i] c1 → t.rel R y (c1.take fo ++ v.cells.toList ++ c1.drop (fo + n))) :
    ∃ c' w', (storeVar eT ⟨b, 0 + i * t.sz + fo, none⟩ v).run P w = .ok () w' ∧ Row t T b N R (xs.set i y) c' ∧ Step w0 R0 L0 w' R (c' :: Lr) := by
  obtain ⟨cl, hcl⟩ : ∃ cl, cl = (c b) := ⟨_, rfl⟩
  obtain ⟨cs, rest, e, he, hN⟩ := h
  have hg := he.get i hi
  have hrow : Row t T b N R xs c := ⟨cs, rest, e, he, hN⟩
  -- the relation narrowed to the cells that lie there
  let t' : Ty α := { sz := t.sz, rel := fun R' x c1 => t.rel R' x c1, mono := t.mono, len := t.len, ones := t.ones }
  clear hcl
  subst e
  have hl := he.len
  have h1 : (i + 1) * t.sz ≤ xs.length * t.sz := Nat.mul_le_mul_right _ hi
  rw [Nat.add_mul, Nat.one_mul] at h1
  generalize hclc : (cs.drop (i * t.sz)).take t.sz = cl at hg
  have hg2 : (cs.drop (i * t.sz)).take t.sz = cl := hclc
  have hv := hy _ hg
  have hb := hst.blk (i := 0) rfl
  have hr := run_storeVar (P := P) (v := v) ti (off := 0 + i * t.sz + fo) hb (by simpa using hvl) hone (by simp; omega)
  have e : put (cs ++ rest).toArray (0 + i * t.sz + fo) v.cells.toList = (cs.take (i * t.sz) ++ (cl.take fo ++ v.cells.toList ++ cl.drop (fo + n)) ++ cs.drop (i * t.sz + t.sz) ++ rest).toArray := by
    simp only [put, Nat.zero_add, hvl]
    congr 1
    have a1 : (cs ++ rest).take (i * t.sz + fo) = cs.take (i * t.sz) ++ cl.take fo := by
      rw [List.take_append, Nat.sub_eq_zero_of_le (by omega : i * t.sz + fo ≤ cs.length), List.take_zero, List.append_nil, List.take_add, ← hg2, List.take_take, Nat.min_eq_left (by omega)]
    have a2 : (cs ++ rest).drop (i * t.sz + fo + n) = cl.drop (fo + n) ++ cs.drop (i * t.sz + t.sz) ++ rest := by
      rw [List.drop_append, Nat.sub_eq_zero_of_le (by omega : i * t.sz + fo + n ≤ cs.length), List.drop_zero]
      congr 1
      rw [← hg2]
      have : cs.drop (i * t.sz + fo + n) = ((cs.drop (i * t.sz)).drop (fo + n)) := by rw [List.drop_drop]; congr 1; omega
      rw [this]
      have e3 : cs.drop (i * t.sz) = (cs.drop (i * t.sz)).take t.sz ++ cs.drop (i * t.sz + t.sz) := by
        rw [← List.drop_drop, List.take_append_drop]
      have hlen : ((cs.drop (i * t.sz)).take t.sz).length = t.sz := by rw [List.length_take, List.length_drop]; omega
      conv => lhs; rw [e3]
      rw [List.drop_append, Nat.sub_eq_zero_of_le (by omega : fo + n ≤ _), List.drop_zero]
    rw [a1, a2]
    simp
  rw [e] at hr
  refine ⟨_, _, hr, ⟨_, rest, rfl, he.set i hi hv, ?_⟩, hst.set0 _⟩
  have hcl : cl.length = t.sz := by rw [← hg2, List.length_take, List.length_drop]; omega
  rw [← hN]
  simp only [List.length_append, List.length_take, List.length_drop, hvl, hcl]
  omega
end
end Go.Fx
namespace Go.Fx.YtjpdhfhiimbpgaaGreatDoor
open Go Go.Fx Go.Proofs
set_option maxRecDepth 20000
theorem tyNd_ali {R : Hp} {x : Nd} {c1 : List Value} (a : Int) (h : tyNd.rel R x c1) : tyNd.rel R { x with ali := a } (c1.take 1 ++ [.int .i64 a] ++ c1.drop (1 + 1)) := by
  obtain ⟨v, rfl, hv⟩ := tyNd_open h
  exact tyNd_mk hv
def TS.nodeAt (s : TS) (k : Nat) : Nd := ⟨(s.nd (cn s.nodes k)).cls, -1, (s.nd (cn s.nodes k)).names⟩
theorem TS.nodeAt_eq {s : TS} {k : Nat} (h : cn s.nodes k < s.nodes.length) : s.nodeAt k = ⟨s.nodes[cn s.nodes k].cls, -1, s.nodes[cn s.nodes k].names⟩ := by unfold TS.nodeAt; rw [TS.nd_eq h]
theorem TS.nodeAt_names {s : TS} {k : Nat} (hS : Small s.nodes) (hk : k < s.nodes.length) : (s.nodeAt k).names.length ≤ 1000000 := by rw [TS.nodeAt_eq (hS.can.lt hk)]; exact hS.names _ _
def vis1 (vis : List Stp) (k : Stp) : Bool := vis.any fun j => decide (j = k)
theorem vis1_iff {vis : List Stp} {k : Stp} : vis1 vis k = true ↔ k ∈ vis := by simp [vis1, List.any_eq_true]
def redM (l : List Nd) (c n : Int) (m : List (Stp × Int)) (vis : List Stp) : List (Stp × Int) := m.map fun e => (e.1, if vis1 vis e.1 = true then redir l c n e.2 else e.2)
variable {l : List Nd} {c n : Int} {m : List (Stp × Int)} {vis : List Stp}
theorem redM_start : redM l c n m [] = m := by simp [redM, vis1]
theorem redM_keys : AL.keys (redM l c n m vis) = AL.keys m := by simp [redM, AL.keys, Function.comp_def]
theorem redM_all (h : ∀ e ∈ m, e.1 ∈ vis) : redM l c n m vis = m.map fun e => (e.1, redir l c n e.2) := by
  unfold redM
  refine List.map_congr_left fun e he => ?_
  rw [if_pos (vis1_iff.2 (h e he))]
theorem redM_mem {k : Stp} {to : Int} (h : (k, to) ∈ redM l c n m vis) (hv : k ∉ vis) : (k, to) ∈ m := by
  obtain ⟨e, he, h2⟩ := List.mem_map.1 h
  obtain ⟨h3, h4⟩ := Prod.mk.inj h2
  subst h3
  rw [if_neg (fun q => hv (vis1_iff.1 q))] at h4
  rw [← h4]
  exact he
theorem AL.set_map {κ β : Type} [DecidableEq κ] {m : List (κ × β)} {f g : κ × β → β} {k : κ} {v : β} (hok : AL.Ok m) (hk : k ∈ AL.keys m) (h : ∀ e ∈ m, e.1 ≠ k → f e = g e) (h2 : ∀ e ∈ m, e.1 = k → g e = v) :
    AL.set (m.map fun e => (e.1, f e)) k v = m.map fun e => (e.1, g e) := by
  induction m with
  | nil => cases hk
  | cons p m ih =>
    obtain ⟨a, b⟩ := p
    have hok' : (AL.keys ((a, b) :: m)).Nodup := hok
    simp only [AL.keys, List.map_cons, List.nodup_cons] at hok'
    simp only [List.map_cons, AL.set]
    by_cases e : a = k
    · subst e
      rw [if_pos rfl, h2 (a, b) (by simp) rfl]
      congr 1
      refine List.map_congr_left fun e he => ?_
      rw [h e (by simp [he]) (fun q => hok'.1 (List.mem_map.2 ⟨e, he, q⟩))]
    · rw [if_neg e, h (a, b) (by simp) e]
      congr 1
      refine ih hok'.2 ?_ (fun x hx => h x (by simp [hx])) (fun x hx => h2 x (by simp [hx]))
      simp only [AL.keys, List.map_cons, List.mem_cons] at hk
      rcases hk with hk | hk
      · exact absurd hk.symm e
      · exact hk
theorem AL.mem_uniq {κ β : Type} [DecidableEq κ] {m : List (κ × β)} {k : κ} {u v : β} (hok : AL.Ok m) (h1 : (k, u) ∈ m) (h2 : (k, v) ∈ m) : u = v := by
  induction m with
  | nil => cases h1
  | cons p m ih =>
    have hok' : (AL.keys (p :: m)).Nodup := hok
    simp only [AL.keys, List.map_cons, List.nodup_cons] at hok'
    rcases List.mem_cons.1 h1 with h1 | h1 <;> rcases List.mem_cons.1 h2 with h2 | h2
    · rw [← h1] at h2; exact (Prod.mk.inj h2).2.symm
    · exact absurd (List.mem_map.2 ⟨_, h2, by rw [← h1]⟩) hok'.1
    · exact absurd (List.mem_map.2 ⟨_, h1, by rw [← h2]⟩) hok'.1
    · exact ih hok'.2 h1 h2
theorem vis1_app {k j : Stp} : vis1 (vis ++ [k]) j = (vis1 vis j || decide (k = j)) := by simp [vis1]
theorem redM_set {k : Stp} {to : Int} (hok : AL.Ok m) (hm : (k, to) ∈ m) (hc : canon l to = c) : AL.set (redM l c n m vis) k n = redM l c n m (vis ++ [k]) := by
  unfold redM
  refine AL.set_map hok (List.mem_map.2 ⟨_, hm, rfl⟩) (fun e he hne => ?_) (fun e he e2 => ?_)
  · have e3 : decide (k = e.1) = false := decide_eq_false (fun q => hne q.symm)
    simp only [vis1_app, e3, Bool.or_false]
  · rw [vis1_app, decide_eq_true e2.symm, Bool.or_true, if_pos rfl]
    have : e.2 = to := AL.mem_uniq (k := k) hok (by rw [← e2]; exact he) hm
    unfold redir
    rw [this, if_pos hc]
theorem redM_same {k : Stp} {to : Int} (hok : AL.Ok m) (hm : (k, to) ∈ m) (hc : canon l to ≠ c) : redM l c n m vis = redM l c n m (vis ++ [k]) := by
  unfold redM
  refine List.map_congr_left fun e he => ?_
  by_cases e2 : e.1 = k
  · have : e.2 = to := AL.mem_uniq (k := k) hok (by rw [← e2]; exact he) hm
    rw [vis1_app, decide_eq_true e2.symm, Bool.or_true, if_pos rfl]
    unfold redir
    rw [this, if_neg hc, ite_self]
  · rw [vis1_app, decide_eq_false (fun q => e2 q.symm), Bool.or_false]
theorem canon_app {x : Nd} {k : Nat} (h : Cans l) (hk : k < l.length) : canon (l ++ [x]) (k : Int) = canon l (k : Int) := by
  rw [canon_nat hk, canon_nat (by rw [List.length_append]; omega), h.cn_app x hk]
/-- One that came is one of the old ones. -/
theorem turn_old {xs : List (Stp × Int)} {p : Stp × Int} (hok : AL.Ok m) (hs : ∃ ys, (xs ++ p :: ys).Perm (redM l c n m vis)) (hv : xs.map (·.1) = vis) : p ∈ m ∧ xs.length < m.length := by
  obtain ⟨ys, hs⟩ := hs
  have hkn : ((xs ++ p :: ys).map (·.1)).Nodup := by
    have h1 := (hs.map (·.1)).nodup_iff
    refine h1.2 ?_
    have e : (redM l c n m vis).map (·.1) = AL.keys m := redM_keys
    rw [e]
    exact hok
  rw [List.map_append, List.map_cons] at hkn
  have hnot : p.1 ∉ vis := by
    rw [← hv]
    intro h
    exact (List.nodup_append.1 hkn).2.2 _ h _ (List.mem_cons_self ..) rfl
  refine ⟨?_, ?_⟩
  · have : p ∈ redM l c n m vis := hs.mem_iff.1 (by simp)
    obtain ⟨a, b⟩ := p
    exact redM_mem this hnot
  · have := hs.length_eq
    simp only [List.length_append, List.length_cons, redM, List.length_map] at this
    omega
theorem turn_all {xs : List (Stp × Int)} (hs : xs.Perm (redM l c n m vis)) (hv : xs.map (·.1) = vis) : redM l c n m vis = m.map fun e => (e.1, redir l c n e.2) := by
  refine redM_all fun e he => ?_
  have h1 := (hs.map (·.1)).mem_iff (a := e.1)
  have e2 : (redM l c n m vis).map (·.1) = AL.keys m := redM_keys
  rw [hv, e2] at h1
  exact h1.2 (List.mem_map.2 ⟨e, he, rfl⟩)
def redR (l : List Nd) (c n : Int) (rs : List Int) (k : Nat) : List Int := (rs.take k).map (redir l c n) ++ rs.drop k
theorem redR_len {rs : List Int} {k : Nat} : (redR l c n rs k).length = rs.length := by
  unfold redR; rw [List.length_append, List.length_map, List.length_take, List.length_drop]; omega
theorem redR_get {rs : List Int} {k : Nat} (hk : k < rs.length) : (redR l c n rs k)[k]? = some rs[k] := by
  unfold redR
  have hl : ((rs.take k).map (redir l c n)).length = k := by rw [List.length_map, List.length_take]; omega
  rw [List.getElem?_append_right (by omega), hl, Nat.sub_self, List.getElem?_drop, Nat.add_zero, List.getElem?_eq_getElem hk]
theorem redR_at {rs : List Int} {k : Nat} (hk : k < rs.length) (h : k < (redR l c n rs k).length) : (redR l c n rs k)[k] = rs[k] := by
  have e := redR_get (l := l) (c := c) (n := n) hk
  rw [List.getElem?_eq_getElem h] at e
  exact Option.some.inj e
theorem redR_step {rs : List Int} {k : Nat} (hk : k < rs.length) : redR l c n rs (k + 1) = (redR l c n rs k).set k (redir l c n rs[k]) := by
  unfold redR
  rw [List.take_succ_eq_append_getElem hk, List.map_append, List.drop_eq_getElem_cons hk]
  have hl : ((rs.take k).map (redir l c n)).length = k := by rw [List.length_map, List.length_take]; omega
  rw [List.set_append_right _ _ (by omega), hl, Nat.sub_self, List.set_cons_zero]
  simp
theorem redR_yes {rs : List Int} {k : Nat} (hk : k < rs.length) (hc : canon l rs[k] = c) : (redR l c n rs k).set k n = redR l c n rs (k + 1) := by
  rw [redR_step hk]; unfold redir; rw [if_pos hc]
theorem redR_no {rs : List Int} {k : Nat} (hk : k < rs.length) (hc : canon l rs[k] ≠ c) : redR l c n rs k = redR l c n rs (k + 1) := by
  rw [redR_step hk]
  have e : redir l c n rs[k] = (redR l c n rs k)[k]'(by rw [redR_len]; exact hk) := by
    rw [redR_at hk]; unfold redir; rw [if_neg hc]
  rw [e, List.set_getElem_self]
theorem redR_all {rs : List Int} {k : Nat} (hk : rs.length ≤ k) : redR l c n rs k = rs.map (redir l c n) := by
  unfold redR; rw [List.take_of_length_le hk, List.drop_of_length_le hk, List.append_nil]
theorem redR_start {rs : List Int} : redR l c n rs 0 = rs := by simp [redR]
theorem redR_valid {rs : List Int} {k N : Nat} (h : ∀ r ∈ rs, ∃ j : Nat, r = (j : Int) ∧ j < N) (hn : ∃ j : Nat, n = (j : Int) ∧ j < N) : ∀ r ∈ redR l c n rs k, ∃ j : Nat, r = (j : Int) ∧ j < N := fun r hr => by
  rcases List.mem_append.1 hr with hr | hr
  · obtain ⟨x, hx, rfl⟩ := List.mem_map.1 hr
    unfold redir
    split
    · exact hn
    · exact h x (List.mem_of_mem_take hx)
  · exact h r (List.mem_of_mem_drop hr)
end Go.Fx.YtjpdhfhiimbpgaaGreatDoor
set_option linter.unusedSimpArgs false
set_option linter.unusedVariables false
namespace Go.Fx.YtjpdhfhiimbpgaaGreatDoor
open Go Go.Fx Go.Proofs
set_option maxRecDepth 20000
theorem ti_98 : TI Tryz.prog 98 true 2 24 (.agg #[(.int .i64 0), (.string ⟨#[]⟩)]) := ⟨by kernel_rfl, by kernel_rfl⟩
set_option maxHeartbeats 1000000 in
theorem Merge_spec {w : World} {R c : Hp} {p : Nat} {s : TS} (a b : Int) (hs : Sats w R [c]) (htree : Tree R p s c) :
    Calls Tryz.prog 27 #[ptr p 0, int a, int b] w (Comes' w R [c] fun v' R' L' => ∃ c', v' = int (s.merge a b).1 ∧ L' = [c'] ∧ Tree R' p ((s.merge a b).2) c') := by
 obtain ⟨vN, vR, bm, cN, cR, cM, hce, hd1, hd2, hd3, hN, hRs, hM, hwf, hS, hrl, hbm⟩ := htree
 have hst1 : Step w R [c] w R [uni (treeB p vN vR bm) (tri cN cR cM)] := by have h0 := Step.refl hs; rw [hce] at h0 ⊢; exact h0
 have hst := Tree.opened hst1 hd1 hd2 hd3
 clear hst1 hce hd1 hd2 hd3
 have hlen := hS.len
 have hrv := hwf.root
 refine calls_of_W (n := 54) Tryz.func27 rfl Tryz.ntmps27 (Nat.le_of_ble_eq_true rfl) ?_
 refine W_seq ?_
 refine W_region_lit ?_
 refine Lq (int 0) rfl rfl rfl rfl ?_
 refine L_nil ?_
 refine W_seq ?_
 refine W_seq ?_
 rcases Bool.eq_false_or_eq_true (thereL s.nodes a) with c1 | c1
 ·
  have q2 := thereL_iff.1 c1
  obtain ⟨an, rfl⟩ : ∃ n : Nat, a = (n : Int) := ⟨a.toNat, by omega⟩
  rcases Bool.eq_false_or_eq_true (thereL s.nodes b) with c3 | c3
  ·
   have q4 := thereL_iff.1 c3
   obtain ⟨bn, rfl⟩ : ∃ n : Nat, b = (n : Int) := ⟨b.toNat, by omega⟩
   refine W_region_draw [] (fun w => Le R (hp w) ∧ Le (one p (.cells #[vN, vR, (.map bm)] 65 (0, 0))) (hp w) ∧ Le cN (hp w) ∧ Le cR (hp w) ∧ Le cM (hp w)) hmix (by decide +kernel) (fun _ _ h => h) ?_
   have hst6 := hst.draws (w.drawn + 1)
   generalize draws w (w.drawn + 1) = w5 at hst6 ⊢
   refine LP (ptr p 0) 0 rfl rfl rfl (fun u8 => rfl) hst6.a4 ?_
   refine LP (int (an : Int)) 1 rfl rfl rfl (fun u11 => rfl) hst6.a4 ?_
   refine LA_all [2] (by decide +kernel) (by simp) ?_
   intro i_ hi_
   simp only [List.mem_cons, List.not_mem_nil, or_false] at hi_
   subst hi_
   have hv16 : TreeR (hp w5) p s.nodes s.roots := ⟨_, _, _, (hst6.g 0), OwnL.freeze (v := vN) hN hst6.rle' (hst6.g 1), OwnL.freeze (v := vR) hRs hst6.rle' (hst6.g 2), hS, hrv, hrl⟩
   refine One_call (i := 2) rfl rfl rfl (Want.plain rfl) (x_call (vs := #[(ptr p 0), (int (an : Int))]) rfl rfl (by kernel_rfl) ent_51) (there_spec (an : Int) hv16 (Le.refl _)) ?_
   rintro e19 w17 ⟨rfl, hw20⟩
   have hst18 := hst6.grown hw20
   refine ⟨_, rfl, (fun _ => hst18.a4), ?_⟩
   refine LP (.bool (!(thereL s.nodes (an : Int)))) 3 rfl rfl rfl (fun u22 => rfl) hst18.a4 ?_
   refine LP (.bool (!(thereL s.nodes (an : Int)))) 4 rfl rfl rfl (fun u25 => rfl) hst18.a4 ?_
   refine LP (ptr p 0) 5 rfl rfl rfl (fun u28 => rfl) hst18.a4 ?_ (hw := (Want.of rfl rfl rfl rfl (by rw [c1]; rfl)))
   refine LP (int (bn : Int)) 6 rfl rfl rfl (fun u31 => rfl) hst18.a4 ?_ (hw := (Want.of rfl rfl rfl rfl (by rw [c1]; rfl)))
   refine LA_all [7] (by decide +kernel) (by simp) ?_
   intro i_ hi_
   simp only [List.mem_cons, List.not_mem_nil, or_false] at hi_
   subst hi_
   have hv36 : TreeR (hp w17) p s.nodes s.roots := ⟨_, _, _, (hst18.g 0), OwnL.freeze (v := vN) hN hst18.rle' (hst18.g 1), OwnL.freeze (v := vR) hRs hst18.rle' (hst18.g 2), hS, hrv, hrl⟩
   refine One_call (i := 7) rfl rfl rfl (Want.of rfl rfl rfl rfl (by rw [c1]; rfl)) (x_call (vs := #[(ptr p 0), (int (bn : Int))]) rfl rfl (by kernel_rfl) ent_51) (there_spec (bn : Int) hv36 (Le.refl _)) ?_
   rintro e39 w37 ⟨rfl, hw40⟩
   have hst38 := hst18.grown hw40
   refine ⟨_, rfl, (fun _ => hst38.a4), ?_⟩
   refine LP (.bool (!(thereL s.nodes (bn : Int)))) 8 rfl rfl rfl (fun u42 => rfl) hst38.a4 ?_ (hw := (Want.of rfl rfl rfl rfl (by rw [c1]; rfl)))
   refine LP (.bool (!(thereL s.nodes (bn : Int)))) 9 rfl rfl rfl (fun u45 => (x_pick rfl rfl (by rw [c1]; rfl))) hst38.a4 ?_
   refine LP (.bool (!(thereL s.nodes (bn : Int)))) 10 rfl rfl rfl (fun u48 => rfl) hst38.a4 ?_
   refine LP (ptr p 0) 11 rfl rfl rfl (fun u51 => rfl) hst38.a4 ?_ (hw := (Want.of rfl rfl rfl rfl (by rw [c3]; rfl)))
   refine LP (ptr p 0) 12 rfl rfl rfl (fun u54 => rfl) hst38.a4 ?_ (hw := (Want.of rfl rfl rfl rfl (by rw [c3]; rfl)))
   refine LP (ptr p 0) 13 rfl rfl rfl (fun u57 => (by kernel_rfl)) hst38.a4 ?_ (hw := (Want.of rfl rfl rfl rfl (by rw [c3]; rfl)))
   refine LT vN 14 rfl rfl rfl (fun u60 hF61 => (x_load rfl rfl (run_loadVar_one ti_61 (hF61.2.1 _ _ (one_self _ _)) rfl))) hst38.a4 ?_ (hw := (Want.of rfl rfl rfl rfl (by rw [c3]; rfl)))
   refine LP (int (an : Int)) 15 rfl rfl rfl (fun u63 => rfl) hst38.a4 ?_ (hw := (Want.of rfl rfl rfl rfl (by rw [c3]; rfl)))
   obtain ⟨a68, cap69, e70, hc71⟩ := hN.value
   subst e70
   obtain ⟨b72, cap73, N74, e75, hc76, hrow77, hback78⟩ := OwnL.row hN (by omega)
   obtain ⟨rfl, hl79, rfl⟩ := Value.slice.inj e75
   try rw [← hl79] at hback78
   obtain ⟨cl80, cs81, hr82, hcb83, hsg84⟩ := Row.at hrow77 an (by omega)
   obtain ⟨x85, hx86⟩ : ∃ x_, x_ = (s.nodes[an]'(by omega)) := ⟨_, rfl⟩
   rw [← hx86] at hr82
   have hb87 : x85.names.length ≤ 1000000 := by rw [hx86]; exact hS.names _ (by omega)
   have hb88 : x85.ali = -1 ∨ 0 ≤ x85.ali := by rw [hx86]; exact hS.ali _ (by omega)
   obtain ⟨vn89, rfl, hvn90⟩ := tyNd_open hr82
   refine LP (ptr b72 (0 + an * 3)) 16 rfl rfl rfl (fun u66 => (x_indexAddr' rfl sl_61 ti_85 rfl rfl (by omega))) hst38.a4 ?_ (hw := (Want.of rfl rfl rfl rfl (by rw [c3]; rfl)))
   refine LT (.agg #[(int x85.cls), (int x85.ali), vn89]) 17 rfl rfl rfl (fun u92 hF93 => (x_load rfl rfl (run_loadVar_agg ti_85 (hF93.2.2.1 _ _ hcb83) hsg84 rfl))) hst38.a4 ?_ (hw := (Want.of rfl rfl rfl rfl (by rw [c3]; rfl)))
   refine LP (ptr p 0) 18 rfl rfl rfl (fun u95 => rfl) hst38.a4 ?_ (hw := (Want.of rfl rfl rfl rfl (by rw [c3]; rfl)))
   refine LP (ptr p 0) 19 rfl rfl rfl (fun u98 => rfl) hst38.a4 ?_ (hw := (Want.of rfl rfl rfl rfl (by rw [c3]; rfl)))
   refine LP (ptr p 0) 20 rfl rfl rfl (fun u101 => (by kernel_rfl)) hst38.a4 ?_ (hw := (Want.of rfl rfl rfl rfl (by rw [c3]; rfl)))
   refine LT (.slice (some ⟨b72, 0, none⟩) s.nodes.length cap69) 21 rfl rfl rfl (fun u104 hF105 => (x_load rfl rfl (run_loadVar_one ti_61 (hF105.2.1 _ _ (one_self _ _)) rfl))) hst38.a4 ?_ (hw := (Want.of rfl rfl rfl rfl (by rw [c3]; rfl)))
   refine LP (int (bn : Int)) 22 rfl rfl rfl (fun u107 => rfl) hst38.a4 ?_ (hw := (Want.of rfl rfl rfl rfl (by rw [c3]; rfl)))
   obtain ⟨cl112, cs113, hr114, hcb115, hsg116⟩ := Row.at hrow77 bn (by omega)
   obtain ⟨x117, hx118⟩ : ∃ x_, x_ = (s.nodes[bn]'(by omega)) := ⟨_, rfl⟩
   rw [← hx118] at hr114
   have hb119 : x117.names.length ≤ 1000000 := by rw [hx118]; exact hS.names _ (by omega)
   have hb120 : x117.ali = -1 ∨ 0 ≤ x117.ali := by rw [hx118]; exact hS.ali _ (by omega)
   obtain ⟨vn121, rfl, hvn122⟩ := tyNd_open hr114
   refine LP (ptr b72 (0 + bn * 3)) 23 rfl rfl rfl (fun u110 => (x_indexAddr' rfl sl_61 ti_85 rfl rfl (by omega))) hst38.a4 ?_ (hw := (Want.of rfl rfl rfl rfl (by rw [c3]; rfl)))
   refine LT (.agg #[(int x117.cls), (int x117.ali), vn121]) 24 rfl rfl rfl (fun u124 hF125 => (x_load rfl rfl (run_loadVar_agg ti_85 (hF125.2.2.1 _ _ hcb115) hsg116 rfl))) hst38.a4 ?_ (hw := (Want.of rfl rfl rfl rfl (by rw [c3]; rfl)))
   refine LA_all [25] (by decide +kernel) (by simp) ?_
   intro i_ hi_
   simp only [List.mem_cons, List.not_mem_nil, or_false] at hi_
   subst hi_
   obtain ⟨a129, cap130, e131, hc132⟩ := hvn90.shape
   subst e131
   obtain ⟨a133, cap134, e135, hc136⟩ := hvn122.shape
   subst e135
   refine One_call (i := 25) rfl rfl rfl (Want.of rfl rfl rfl rfl (by rw [c3]; rfl)) (x_call (vs := #[(.agg #[(int x85.cls), (int x85.ali), (.slice a129 x85.names.length cap130)]), (.agg #[(int x117.cls), (int x117.ali), (.slice a133 x117.names.length cap134)])]) rfl rfl (by kernel_rfl) ent_55) (same_spec x85 x117 (Le.refl _) (RdS.mono hvn90 hst38.rle') (RdS.mono hvn122 hst38.rle') (by first | omega | assumption) (by first | omega | assumption)) ?_
   rintro e139 w137 ⟨rfl, hw140⟩
   have hst138 := hst38.grown hw140
   refine ⟨_, rfl, (fun _ => hst138.a4), ?_⟩
   refine LP (.bool (!(sameN x85 x117))) 26 rfl rfl rfl (fun u142 => rfl) hst138.a4 ?_ (hw := (Want.of rfl rfl rfl rfl (by rw [c3]; rfl)))
   refine LP (.bool (!(sameN x85 x117))) 27 rfl rfl rfl (fun u145 => (x_pick rfl rfl (by rw [c3]; rfl))) hst138.a4 ?_
   refine LA_done (by decide +kernel) ?_
   rcases Bool.eq_false_or_eq_true (sameN x85 x117) with c147 | c147
   ·
    refine W_cond_false (by show Value.bool _ = _; exact congrArg Value.bool (by rw [c147]; rfl)) ?_
    refine W_skip ?_
    refine W_seq ?_
    refine W_seq ?_
    refine W_region_lit ?_
    refine Lq (ptr p 0) rfl rfl rfl rfl ?_
    refine Lq (int (an : Int)) rfl rfl rfl rfl ?_
    have hv148 : TreeR (hp w137) p s.nodes s.roots := ⟨_, _, _, (hst138.g 0), OwnL.freeze (v := (.slice (some ⟨b72, 0, none⟩) s.nodes.length cap69)) (hback78 R s.nodes cN (by first | rfl | (simp only [List.length_set]; done) | (simp only [List.length_set]; omega) | omega) hrow77) hst138.rle' (hst138.g 1), OwnL.freeze (v := vR) hRs hst138.rle' (hst138.g 2), hS, hrv, hrl⟩
    have hcl149 : cn s.nodes an < s.nodes.length := Cans.lt (hS).can (by omega)
    refine L_callG hst138 (v := (int (((cn s.nodes an) : Nat) : Int))) rfl rfl rfl (x_call (vs := #[(ptr p 0), (int (an : Int))]) rfl rfl (by kernel_rfl) ent_21) (Canon_nat (by omega) hv148 (Le.refl _)) (fun w150 hst151 => ?_)
    refine Lq (ptr p 0) rfl rfl rfl rfl ?_
    refine Lq (int (bn : Int)) rfl rfl rfl rfl ?_
    have hv152 : TreeR (hp w150) p s.nodes s.roots := ⟨_, _, _, (hst151.g 0), OwnL.freeze (v := (.slice (some ⟨b72, 0, none⟩) s.nodes.length cap69)) (hback78 R s.nodes cN (by first | rfl | (simp only [List.length_set]; done) | (simp only [List.length_set]; omega) | omega) hrow77) hst151.rle' (hst151.g 1), OwnL.freeze (v := vR) hRs hst151.rle' (hst151.g 2), hS, hrv, hrl⟩
    have hcl153 : cn s.nodes bn < s.nodes.length := Cans.lt (hS).can (by omega)
    refine L_callG hst151 (v := (int (((cn s.nodes bn) : Nat) : Int))) rfl rfl rfl (x_call (vs := #[(ptr p 0), (int (bn : Int))]) rfl rfl (by kernel_rfl) ent_21) (Canon_nat (by omega) hv152 (Le.refl _)) (fun w154 hst155 => ?_)
    refine Lq (int (((cn s.nodes an) : Nat) : Int)) rfl rfl rfl rfl ?_
    refine Lq (int (((cn s.nodes bn) : Nat) : Int)) rfl rfl rfl rfl ?_
    refine L_nil ?_
    refine W_seq ?_
    refine W_region_lit ?_
    refine Lq (int (((cn s.nodes an) : Nat) : Int)) rfl rfl rfl rfl ?_
    refine Lq (int (((cn s.nodes bn) : Nat) : Int)) rfl rfl rfl rfl ?_
    refine Lq (.bool ((((cn s.nodes an) : Nat) : Int) != (((cn s.nodes bn) : Nat) : Int))) rfl rfl rfl (by kernel_rfl) ?_
    refine L_nil ?_
    rcases Bool.eq_false_or_eq_true ((((cn s.nodes an) : Nat) : Int) != (((cn s.nodes bn) : Nat) : Int)) with c156 | c156
    ·
     have q157 : ¬ (((cn s.nodes an) : Nat) : Int) = (((cn s.nodes bn) : Nat) : Int) := by simpa using c156
     refine W_cond_true (by show Value.bool _ = _; exact congrArg Value.bool c156) ?_
     refine W_region_lit ?_
     refine Lq (ptr p 0) rfl rfl rfl rfl ?_
     refine Lq (ptr p 0) rfl rfl rfl rfl ?_
     refine Lq (ptr p 0) rfl rfl rfl (by kernel_rfl) ?_
     refine Lq (.slice (some ⟨b72, 0, none⟩) s.nodes.length cap69) rfl rfl rfl (x_load rfl rfl (run_loadVar_one ti_61 (hst155.b 0) rfl)) ?_
     refine Lq (int (((cn s.nodes bn) : Nat) : Int)) rfl rfl rfl rfl ?_
     refine Lq (int (((cn s.nodes an) : Nat) : Int)) rfl rfl rfl rfl ?_
     obtain ⟨cl158, cs159, hr160, hcb161, hsg162⟩ := Row.at hrow77 (cn s.nodes bn) (by omega)
     obtain ⟨x163, hx164⟩ : ∃ x_, x_ = (s.nodes[(cn s.nodes bn)]'(by omega)) := ⟨_, rfl⟩
     rw [← hx164] at hr160
     have hb165 : x163.names.length ≤ 1000000 := by rw [hx164]; exact hS.names _ (by omega)
     have hb166 : x163.ali = -1 ∨ 0 ≤ x163.ali := by rw [hx164]; exact hS.ali _ (by omega)
     obtain ⟨vn167, rfl, hvn168⟩ := tyNd_open hr160
     refine Lq (ptr b72 (0 + (cn s.nodes bn) * 3)) rfl rfl rfl (x_indexAddr' rfl sl_61 ti_85 rfl rfl (by omega)) ?_
     refine Lq (ptr b72 (0 + (cn s.nodes bn) * 3 + 1)) rfl rfl rfl (by kernel_rfl) ?_
     obtain ⟨c169, w170, hr171, hrow172, hst173⟩ := Row.storeG (P := Tryz.prog) (v := (int (((cn s.nodes an) : Nat) : Int))) (y := { x163 with ali := (((cn s.nodes an) : Nat) : Int) }) hrow77 (hst155.front 1 rfl rfl) ti_3 (cn s.nodes bn) (by omega) 1 (by decide) rfl rfl (fun c1 h1 => by rw [← hx164] at h1; exact tyNd_ali _ h1)
     refine L_skip rfl rfl (x_store rfl rfl rfl hr171) ?_
     refine L_nil ?_
     refine W_seq ?_
     refine W_region_lit ?_
     refine Lq (int 0) rfl rfl rfl rfl ?_
     refine L_nil ?_
     refine W_ret ?_
     refine ⟨_, _, res_run (rs := [.tmp 6]) (vs := [(int 0)]) Tryz.results27 (.cons (.tmp rfl) .nil) rfl, ?_⟩
     have he := merge_yes (s := s) (a := an) (b := bn) (by omega) (by omega) (by rw [← hx86, ← hx118]; exact c147)
     rw [if_neg (by omega)] at he
     have hwf2 := hwf.setAli (a := an) (b := bn) (by omega) (by omega) (by omega)
     have hS2 := hS.setAli (a := an) (b := bn) (by omega) (by omega) (by omega)
     rw [setAli_eq (by omega), ← hx164] at he hwf2 hS2
     rw [he]
     obtain ⟨c', hst', htree'⟩ := Tree.close (s := { s with nodes := (List.set s.nodes (cn s.nodes bn) ({ x163 with ali := (((cn s.nodes an) : Nat) : Int) })) }) ((((hst173.front 3 rfl rfl).front 3 rfl rfl).front 2 rfl rfl).front 3 rfl rfl) (hback78 R (List.set s.nodes (cn s.nodes bn) ({ x163 with ali := (((cn s.nodes an) : Nat) : Int) })) c169 (by first | rfl | (simp only [List.length_set]; done) | (simp only [List.length_set]; omega) | omega) hrow172) hRs hM hwf2 hS2 hrl (fun h_ => by have := hbm h_; simp_all)
     exact ⟨_, _, _, rfl, hst'.keepN 1 rfl, c', rfl, rfl, htree'⟩
    ·
     have q174 : (((cn s.nodes an) : Nat) : Int) = (((cn s.nodes bn) : Nat) : Int) := by simpa using c156
     refine W_cond_false (by show Value.bool _ = _; exact congrArg Value.bool c156) ?_
     refine W_skip ?_
     refine W_seq ?_
     refine W_region_lit ?_
     refine Lq (int 0) rfl rfl rfl rfl ?_
     refine L_nil ?_
     refine W_ret ?_
     refine ⟨_, _, res_run (rs := [.tmp 6]) (vs := [(int 0)]) Tryz.results27 (.cons (.tmp rfl) .nil) rfl, ?_⟩
     have he := merge_yes (s := s) (a := an) (b := bn) (by omega) (by omega) (by rw [← hx86, ← hx118]; exact c147)
     rw [if_pos (by omega)] at he
     rw [he]
     obtain ⟨c', hst', htree'⟩ := Tree.close (s := s) ((((hst155.front 3 rfl rfl).front 3 rfl rfl).front 3 rfl rfl).front 3 rfl rfl) (hback78 R s.nodes cN (by first | rfl | (simp only [List.length_set]; done) | (simp only [List.length_set]; omega) | omega) hrow77) hRs hM hwf hS hrl hbm
     exact ⟨_, _, _, rfl, hst'.keepN 1 rfl, c', rfl, rfl, htree'⟩
   ·
    refine W_cond_true (by show Value.bool _ = _; exact congrArg Value.bool (by rw [c147]; rfl)) ?_
    refine W_seq ?_
    refine W_region_lit ?_
    refine Lq (int 1) rfl rfl rfl rfl ?_
    refine L_nil ?_
    refine W_ret ?_
    refine ⟨_, _, res_run (rs := [.tmp 6]) (vs := [(int 1)]) Tryz.results27 (.cons (.tmp rfl) .nil) rfl, ?_⟩
    have he := merge_diff (s := s) (a := an) (b := bn) (by omega) (by omega) (by rw [← hx86, ← hx118]; exact c147)
    rw [he]
    obtain ⟨c', hst', htree'⟩ := Tree.close (s := s) ((((hst138.front 3 rfl rfl).front 3 rfl rfl).front 3 rfl rfl).front 3 rfl rfl) (hback78 R s.nodes cN (by first | rfl | (simp only [List.length_set]; done) | (simp only [List.length_set]; omega) | omega) hrow77) hRs hM hwf hS hrl hbm
    exact ⟨_, _, _, rfl, hst'.keepN 1 rfl, c', rfl, rfl, htree'⟩
  ·
   have q175 := thereL_not.1 c3
   refine W_region_draw [] (fun w => Le R (hp w) ∧ Le (one p (.cells #[vN, vR, (.map bm)] 65 (0, 0))) (hp w) ∧ Le cN (hp w) ∧ Le cR (hp w) ∧ Le cM (hp w)) hmix (by decide +kernel) (fun _ _ h => h) ?_
   have hst177 := hst.draws (w.drawn + 1)
   generalize draws w (w.drawn + 1) = w176 at hst177 ⊢
   refine LP (ptr p 0) 0 rfl rfl rfl (fun u179 => rfl) hst177.a4 ?_
   refine LP (int (an : Int)) 1 rfl rfl rfl (fun u182 => rfl) hst177.a4 ?_
   refine LA_all [2] (by decide +kernel) (by simp) ?_
   intro i_ hi_
   simp only [List.mem_cons, List.not_mem_nil, or_false] at hi_
   subst hi_
   have hv187 : TreeR (hp w176) p s.nodes s.roots := ⟨_, _, _, (hst177.g 0), OwnL.freeze (v := vN) hN hst177.rle' (hst177.g 1), OwnL.freeze (v := vR) hRs hst177.rle' (hst177.g 2), hS, hrv, hrl⟩
   refine One_call (i := 2) rfl rfl rfl (Want.plain rfl) (x_call (vs := #[(ptr p 0), (int (an : Int))]) rfl rfl (by kernel_rfl) ent_51) (there_spec (an : Int) hv187 (Le.refl _)) ?_
   rintro e190 w188 ⟨rfl, hw191⟩
   have hst189 := hst177.grown hw191
   refine ⟨_, rfl, (fun _ => hst189.a4), ?_⟩
   refine LP (.bool (!(thereL s.nodes (an : Int)))) 3 rfl rfl rfl (fun u193 => rfl) hst189.a4 ?_
   refine LP (.bool (!(thereL s.nodes (an : Int)))) 4 rfl rfl rfl (fun u196 => rfl) hst189.a4 ?_
   refine LP (ptr p 0) 5 rfl rfl rfl (fun u199 => rfl) hst189.a4 ?_ (hw := (Want.of rfl rfl rfl rfl (by rw [c1]; rfl)))
   refine LP (int b) 6 rfl rfl rfl (fun u202 => rfl) hst189.a4 ?_ (hw := (Want.of rfl rfl rfl rfl (by rw [c1]; rfl)))
   refine LA_all [7] (by decide +kernel) (by simp) ?_
   intro i_ hi_
   simp only [List.mem_cons, List.not_mem_nil, or_false] at hi_
   subst hi_
   have hv207 : TreeR (hp w188) p s.nodes s.roots := ⟨_, _, _, (hst189.g 0), OwnL.freeze (v := vN) hN hst189.rle' (hst189.g 1), OwnL.freeze (v := vR) hRs hst189.rle' (hst189.g 2), hS, hrv, hrl⟩
   refine One_call (i := 7) rfl rfl rfl (Want.of rfl rfl rfl rfl (by rw [c1]; rfl)) (x_call (vs := #[(ptr p 0), (int b)]) rfl rfl (by kernel_rfl) ent_51) (there_spec b hv207 (Le.refl _)) ?_
   rintro e210 w208 ⟨rfl, hw211⟩
   have hst209 := hst189.grown hw211
   refine ⟨_, rfl, (fun _ => hst209.a4), ?_⟩
   refine LP (.bool (!(thereL s.nodes b))) 8 rfl rfl rfl (fun u213 => rfl) hst209.a4 ?_ (hw := (Want.of rfl rfl rfl rfl (by rw [c1]; rfl)))
   refine LP (.bool (!(thereL s.nodes b))) 9 rfl rfl rfl (fun u216 => (x_pick rfl rfl (by rw [c1]; rfl))) hst209.a4 ?_
   refine LP (.bool (!(thereL s.nodes b))) 10 rfl rfl rfl (fun u219 => rfl) hst209.a4 ?_
   refine LV 11 rfl rfl rfl hst209.a4 ?_ (hw := (Want.of rfl rfl rfl rfl (by rw [c3]; rfl)))
   refine LV 12 rfl rfl rfl hst209.a4 ?_ (hw := (Want.of rfl rfl rfl rfl (by rw [c3]; rfl)))
   refine LV 13 rfl rfl rfl hst209.a4 ?_ (hw := (Want.of rfl rfl rfl rfl (by rw [c3]; rfl)))
   refine LV 14 rfl rfl rfl hst209.a4 ?_ (hw := (Want.of rfl rfl rfl rfl (by rw [c3]; rfl)))
   refine LV 15 rfl rfl rfl hst209.a4 ?_ (hw := (Want.of rfl rfl rfl rfl (by rw [c3]; rfl)))
   refine LV 16 rfl rfl rfl hst209.a4 ?_ (hw := (Want.of rfl rfl rfl rfl (by rw [c3]; rfl)))
   refine LV 17 rfl rfl rfl hst209.a4 ?_ (hw := (Want.of rfl rfl rfl rfl (by rw [c3]; rfl)))
   refine LV 18 rfl rfl rfl hst209.a4 ?_ (hw := (Want.of rfl rfl rfl rfl (by rw [c3]; rfl)))
   refine LV 19 rfl rfl rfl hst209.a4 ?_ (hw := (Want.of rfl rfl rfl rfl (by rw [c3]; rfl)))
   refine LV 20 rfl rfl rfl hst209.a4 ?_ (hw := (Want.of rfl rfl rfl rfl (by rw [c3]; rfl)))
   refine LV 21 rfl rfl rfl hst209.a4 ?_ (hw := (Want.of rfl rfl rfl rfl (by rw [c3]; rfl)))
   refine LV 22 rfl rfl rfl hst209.a4 ?_ (hw := (Want.of rfl rfl rfl rfl (by rw [c3]; rfl)))
   refine LV 23 rfl rfl rfl hst209.a4 ?_ (hw := (Want.of rfl rfl rfl rfl (by rw [c3]; rfl)))
   refine LV 24 rfl rfl rfl hst209.a4 ?_ (hw := (Want.of rfl rfl rfl rfl (by rw [c3]; rfl)))
   refine LV 25 rfl rfl rfl hst209.a4 ?_ (hw := (Want.of rfl rfl rfl rfl (by rw [c3]; rfl)))
   refine LV 26 rfl rfl rfl hst209.a4 ?_ (hw := (Want.of rfl rfl rfl rfl (by rw [c3]; rfl)))
   refine LP (.bool true) 27 rfl rfl rfl (fun u238 => (x_pick rfl rfl (by rw [c3]; rfl))) hst209.a4 ?_
   refine LA_done (by decide +kernel) ?_
   refine W_cond_true (by show Value.bool _ = _; exact congrArg Value.bool rfl) ?_
   refine W_seq ?_
   refine W_region_lit ?_
   refine Lq (int 1) rfl rfl rfl rfl ?_
   refine L_nil ?_
   refine W_ret ?_
   refine ⟨_, _, res_run (rs := [.tmp 6]) (vs := [(int 1)]) Tryz.results27 (.cons (.tmp rfl) .nil) rfl, ?_⟩
   have he := merge_no (s := s) (a := (an : Int)) (b := b) (fun h_ => by rw [c3] at h_; exact absurd h_.2.1 (by decide))
   rw [he]
   obtain ⟨c', hst', htree'⟩ := Tree.close (s := s) ((((hst209.front 3 rfl rfl).front 3 rfl rfl).front 3 rfl rfl).front 3 rfl rfl) hN hRs hM hwf hS hrl hbm
   exact ⟨_, _, _, rfl, hst'.keepN 1 rfl, c', rfl, rfl, htree'⟩
 ·
  have q240 := thereL_not.1 c1
  refine W_region_draw [] (fun w => Le R (hp w) ∧ Le (one p (.cells #[vN, vR, (.map bm)] 65 (0, 0))) (hp w) ∧ Le cN (hp w) ∧ Le cR (hp w) ∧ Le cM (hp w)) hmix (by decide +kernel) (fun _ _ h => h) ?_
  have hst242 := hst.draws (w.drawn + 1)
  generalize draws w (w.drawn + 1) = w241 at hst242 ⊢
  refine LP (ptr p 0) 0 rfl rfl rfl (fun u244 => rfl) hst242.a4 ?_
  refine LP (int a) 1 rfl rfl rfl (fun u247 => rfl) hst242.a4 ?_
  refine LA_all [2] (by decide +kernel) (by simp) ?_
  intro i_ hi_
  simp only [List.mem_cons, List.not_mem_nil, or_false] at hi_
  subst hi_
  have hv252 : TreeR (hp w241) p s.nodes s.roots := ⟨_, _, _, (hst242.g 0), OwnL.freeze (v := vN) hN hst242.rle' (hst242.g 1), OwnL.freeze (v := vR) hRs hst242.rle' (hst242.g 2), hS, hrv, hrl⟩
  refine One_call (i := 2) rfl rfl rfl (Want.plain rfl) (x_call (vs := #[(ptr p 0), (int a)]) rfl rfl (by kernel_rfl) ent_51) (there_spec a hv252 (Le.refl _)) ?_
  rintro e255 w253 ⟨rfl, hw256⟩
  have hst254 := hst242.grown hw256
  refine ⟨_, rfl, (fun _ => hst254.a4), ?_⟩
  refine LP (.bool (!(thereL s.nodes a))) 3 rfl rfl rfl (fun u258 => rfl) hst254.a4 ?_
  refine LP (.bool (!(thereL s.nodes a))) 4 rfl rfl rfl (fun u261 => rfl) hst254.a4 ?_
  refine LV 5 rfl rfl rfl hst254.a4 ?_ (hw := (Want.of rfl rfl rfl rfl (by rw [c1]; rfl)))
  refine LV 6 rfl rfl rfl hst254.a4 ?_ (hw := (Want.of rfl rfl rfl rfl (by rw [c1]; rfl)))
  refine LV 7 rfl rfl rfl hst254.a4 ?_ (hw := (Want.of rfl rfl rfl rfl (by rw [c1]; rfl)))
  refine LV 8 rfl rfl rfl hst254.a4 ?_ (hw := (Want.of rfl rfl rfl rfl (by rw [c1]; rfl)))
  refine LP (.bool true) 9 rfl rfl rfl (fun u268 => (x_pick rfl rfl (by rw [c1]; rfl))) hst254.a4 ?_
  refine LP (.bool true) 10 rfl rfl rfl (fun u271 => rfl) hst254.a4 ?_
  refine LV 11 rfl rfl rfl hst254.a4 ?_ (hw := (Want.of rfl rfl rfl rfl rfl))
  refine LV 12 rfl rfl rfl hst254.a4 ?_ (hw := (Want.of rfl rfl rfl rfl rfl))
  refine LV 13 rfl rfl rfl hst254.a4 ?_ (hw := (Want.of rfl rfl rfl rfl rfl))
  refine LV 14 rfl rfl rfl hst254.a4 ?_ (hw := (Want.of rfl rfl rfl rfl rfl))
  refine LV 15 rfl rfl rfl hst254.a4 ?_ (hw := (Want.of rfl rfl rfl rfl rfl))
  refine LV 16 rfl rfl rfl hst254.a4 ?_ (hw := (Want.of rfl rfl rfl rfl rfl))
  refine LV 17 rfl rfl rfl hst254.a4 ?_ (hw := (Want.of rfl rfl rfl rfl rfl))
  refine LV 18 rfl rfl rfl hst254.a4 ?_ (hw := (Want.of rfl rfl rfl rfl rfl))
  refine LV 19 rfl rfl rfl hst254.a4 ?_ (hw := (Want.of rfl rfl rfl rfl rfl))
  refine LV 20 rfl rfl rfl hst254.a4 ?_ (hw := (Want.of rfl rfl rfl rfl rfl))
  refine LV 21 rfl rfl rfl hst254.a4 ?_ (hw := (Want.of rfl rfl rfl rfl rfl))
  refine LV 22 rfl rfl rfl hst254.a4 ?_ (hw := (Want.of rfl rfl rfl rfl rfl))
  refine LV 23 rfl rfl rfl hst254.a4 ?_ (hw := (Want.of rfl rfl rfl rfl rfl))
  refine LV 24 rfl rfl rfl hst254.a4 ?_ (hw := (Want.of rfl rfl rfl rfl rfl))
  refine LV 25 rfl rfl rfl hst254.a4 ?_ (hw := (Want.of rfl rfl rfl rfl rfl))
  refine LV 26 rfl rfl rfl hst254.a4 ?_ (hw := (Want.of rfl rfl rfl rfl rfl))
  refine LP (.bool true) 27 rfl rfl rfl (fun u290 => rfl) hst254.a4 ?_
  refine LA_done (by decide +kernel) ?_
  refine W_cond_true (by show Value.bool _ = _; exact congrArg Value.bool rfl) ?_
  refine W_seq ?_
  refine W_region_lit ?_
  refine Lq (int 1) rfl rfl rfl rfl ?_
  refine L_nil ?_
  refine W_ret ?_
  refine ⟨_, _, res_run (rs := [.tmp 6]) (vs := [(int 1)]) Tryz.results27 (.cons (.tmp rfl) .nil) rfl, ?_⟩
  have he := merge_no (s := s) (a := a) (b := b) (fun h_ => by rw [c1] at h_; exact absurd h_.1 (by decide))
  rw [he]
  obtain ⟨c', hst', htree'⟩ := Tree.close (s := s) ((((hst254.front 3 rfl rfl).front 3 rfl rfl).front 3 rfl rfl).front 3 rfl rfl) hN hRs hM hwf hS hrl hbm
  exact ⟨_, _, _, rfl, hst'.keepN 1 rfl, c', rfl, rfl, htree'⟩
set_option maxHeartbeats 1000000 in
theorem Split_spec {w : World} {R c : Hp} {p : Nat} {s : TS} (a : Int) (hs : Sats w R [c]) (htree : Tree R p s c) (hmx : s.nodes.length ≤ 900000) :
    Calls Tryz.prog 38 #[ptr p 0, int a] w (Comes' w R [c] fun v' R' L' => ∃ c', v' = .tuple #[int (s.split a).1, int (s.split a).2.1] ∧ L' = [c'] ∧ Tree R' p ((s.split a).2.2) c') := by
 obtain ⟨vN, vR, bm, cN, cR, cM, hce, hd1, hd2, hd3, hN, hRs, hM, hwf, hS, hrl, hbm⟩ := htree
 have hst1 : Step w R [c] w R [uni (treeB p vN vR bm) (tri cN cR cM)] := by have h0 := Step.refl hs; rw [hce] at h0 ⊢; exact h0
 have hst := Tree.opened hst1 hd1 hd2 hd3
 clear hst1 hce hd1 hd2 hd3
 have hlen := hS.len
 have hrv := hwf.root
 refine calls_of_W (n := 90) Tryz.func38 rfl Tryz.ntmps38 (Nat.le_of_ble_eq_true rfl) ?_
 refine W_seq ?_
 refine W_region_lit ?_
 refine Lq (int 0) rfl rfl rfl rfl ?_
 refine Lq (int 0) rfl rfl rfl rfl ?_
 refine L_nil ?_
 refine W_seq ?_
 refine W_block ?_
 refine W_seq ?_
 rcases Bool.eq_false_or_eq_true (thereL s.nodes a) with c1 | c1
 ·
  have q2 := thereL_iff.1 c1
  obtain ⟨an, rfl⟩ : ∃ n : Nat, a = (n : Int) := ⟨a.toNat, by omega⟩
  obtain ⟨bm0, rfl⟩ : ∃ b, bm = some b := by cases bm with | none => exact absurd (congrArg List.length (hbm rfl)) (by simp only [List.length_nil]; omega) | some b => exact ⟨b, rfl⟩
  refine W_region_lit ?_
  refine Lq (ptr p 0) rfl rfl rfl rfl ?_
  refine Lq (int (an : Int)) rfl rfl rfl rfl ?_
  have hv3 : TreeR (hp w) p s.nodes s.roots := ⟨_, _, _, (hst.g 0), OwnL.freeze (v := vN) hN hst.rle' (hst.g 1), OwnL.freeze (v := vR) hRs hst.rle' (hst.g 2), hS, hrv, hrl⟩
  refine L_callG hst (v := (.bool (thereL s.nodes (an : Int)))) rfl rfl rfl (x_call (vs := #[(ptr p 0), (int (an : Int))]) rfl rfl (by kernel_rfl) ent_51) (there_spec (an : Int) hv3 (Le.refl _)) (fun w4 hst5 => ?_)
  refine Lq (.bool (!(thereL s.nodes (an : Int)))) rfl rfl rfl rfl ?_
  refine Lq (.bool (!(thereL s.nodes (an : Int)))) rfl rfl rfl rfl ?_
  refine L_nil ?_
  refine W_cond_false (by show Value.bool _ = _; exact congrArg Value.bool (by rw [c1]; rfl)) ?_
  refine W_seq ?_
  refine W_region_lit ?_
  refine Lq (ptr p 0) rfl rfl rfl rfl ?_
  refine Lq (ptr p 0) rfl rfl rfl rfl ?_
  refine Lq (ptr p 0) rfl rfl rfl (by kernel_rfl) ?_
  refine Lq vN rfl rfl rfl (x_load rfl rfl (run_loadVar_one ti_61 (hst5.b 0) rfl)) ?_
  obtain ⟨a6, cap7, e8, hc9⟩ := hN.value
  subst e8
  refine Lq (int (s.nodes.length : Int)) rfl rfl rfl (x_len_slice rfl sl_61 rfl) ?_
  refine Lq (.bool (decide ((s.nodes.length : Int) ≥ 200))) rfl rfl rfl (by kernel_rfl) ?_
  refine Lq (.bool (decide ((s.nodes.length : Int) ≥ 200))) rfl rfl rfl rfl ?_
  refine L_nil ?_
  rcases Bool.eq_false_or_eq_true (decide ((s.nodes.length : Int) ≥ 200)) with c10 | c10
  ·
   have q11 := of_decide_eq_true c10
   refine W_cond_true (by show Value.bool _ = _; exact congrArg Value.bool c10) ?_
   refine W_seq ?_
   refine W_region_lit ?_
   refine Lq (int 0) rfl rfl rfl rfl ?_
   refine Lq (int 2) rfl rfl rfl rfl ?_
   refine L_nil ?_
   refine W_ret ?_
   refine ⟨_, _, res_run (rs := [.tmp 4, .tmp 5]) (vs := [(int 0), (int 2)]) Tryz.results38 (.cons (.tmp rfl) (.cons (.tmp rfl) .nil)) rfl, ?_⟩
   have he := split_many (s := s) (a := (an : Int)) c1 (by omega)
   rw [he]
   obtain ⟨c', hst', htree'⟩ := Tree.close (s := s) ((((hst5.front 3 rfl rfl).front 3 rfl rfl).front 3 rfl rfl).front 3 rfl rfl) hN hRs hM hwf hS hrl hbm
   exact ⟨_, _, _, rfl, hst'.keepN 1 rfl, c', rfl, rfl, htree'⟩
  ·
   have q12 := of_decide_eq_false c10
   refine W_cond_false (by show Value.bool _ = _; exact congrArg Value.bool c10) ?_
   refine W_skip ?_
   refine W_seq ?_
   refine W_region_lit ?_
   refine Lq (ptr p 0) rfl rfl rfl rfl ?_
   refine Lq (int (an : Int)) rfl rfl rfl rfl ?_
   have hv13 : TreeR (hp w4) p s.nodes s.roots := ⟨_, _, _, (hst5.g 0), OwnL.freeze (v := (.slice a6 s.nodes.length cap7)) hN hst5.rle' (hst5.g 1), OwnL.freeze (v := vR) hRs hst5.rle' (hst5.g 2), hS, hrv, hrl⟩
   have hcl14 : cn s.nodes an < s.nodes.length := Cans.lt (hS).can (by omega)
   refine L_callG hst5 (v := (int (((cn s.nodes an) : Nat) : Int))) rfl rfl rfl (x_call (vs := #[(ptr p 0), (int (an : Int))]) rfl rfl (by kernel_rfl) ent_21) (Canon_nat (by omega) hv13 (Le.refl _)) (fun w15 hst16 => ?_)
   refine Lq (int (((cn s.nodes an) : Nat) : Int)) rfl rfl rfl rfl ?_
   refine L_nil ?_
   refine W_seq_k (fun σ w_ => ∃ (σ0 : Fr) (R_ : Hp) (vN : Value) (cN : Hp), σ = upd (upd (upd σ0 0 (ptr p 0)) 6 (int (((cn s.nodes an) : Nat) : Int))) 7 (int (s.nodes.length : Int)) ∧ mks (σ0 0) = [] ∧ Step w R [c] w_ R_ [one p (.cells #[vN, vR, (.map (some bm0))] 65 (0, 0)), cN, cR, cM] ∧ Le R R_ ∧ OwnL tyNd 85 R_ vN (s.nodes ++ [s.nodeAt an]) cN ∧ OwnL Ty.int 3 R_ vR s.roots cR) ?_ ?_
   ·
    rintro σ_ w23 ⟨s19, R20, vN17, cN18, rfl, hmk21, hst22, hle24, hi25, hi26⟩
    refine W_seq ?_
    refine W_seq ?_
    obtain ⟨l2, hl2⟩ : ∃ l_, l_ = s.nodes ++ [s.nodeAt an] := ⟨_, rfl⟩
    have hN27 : OwnL tyNd 85 R20 vN17 l2 cN18 := by rw [hl2]; exact hi25
    have hll : l2.length = s.nodes.length + 1 := by rw [hl2]; simp
    have hS2 : Small l2 := by rw [hl2]; exact hS.app (by omega) (TS.nodeAt_names hS (by omega)) rfl
    have hrv2 : ∀ r ∈ s.roots, ∃ k : Nat, r = (k : Int) ∧ k < l2.length := fun r hr => by obtain ⟨k, h1, h2⟩ := hrv r hr; exact ⟨k, h1, by omega⟩
    have hcan2 : ∀ j : Nat, j < s.nodes.length → canon l2 (j : Int) = canon s.nodes (j : Int) := fun j hj => by rw [hl2]; exact canon_app hS.can hj
    refine W_region_lit ?_
    refine Lq (ptr p 0) rfl rfl rfl rfl ?_
    refine Lq (ptr p 0) rfl rfl rfl rfl ?_
    refine Lq (ptr p 2) rfl rfl rfl (by kernel_rfl) ?_
    refine Lq (.map (some bm0)) rfl rfl rfl (x_load rfl rfl (run_loadVar_one ti_63 (hst22.b 0) rfl)) ?_
    obtain ⟨es28, ck29, hE30⟩ := MapC.open hM
    refine L_new hst22 (v := fun b => ptr b 0) rfl rfl rfl (x_range rfl rfl (run_range mt_63 hE30 (hst22.g 3))) (fun r31 w32 hst33 => ?_)
    have hI35 := It.start bm0 r31 es28 ck29 s.next
    generalize one r31 (.mapIter (some bm0) ck29 #[] ck29) = ci34 at hI35 hst33
    refine L_nil ?_
    refine W_block ?_
    refine W_loop (I := fun σ w_ m_ => ∃ (σ0 : Fr) (es : Array MapEntry) (vis : List Stp) (ys : List (Stp × Int)) (cM : Hp) (ci : Hp), σ = upd (upd (upd (upd (upd (upd (upd (upd σ0 0 (ptr p 0)) 6 (int (((cn s.nodes an) : Nat) : Int))) 7 (int (s.nodes.length : Int))) 45 (ptr p 0)) 46 (ptr p 0)) 47 (ptr p 2)) 48 (.map (some bm0))) 49 (ptr r31 0) ∧ mks (σ0 0) = [] ∧ Step w R [c] w_ R20 [one p (.cells #[vN17, vR, (.map (some bm0))] 65 (0, 0)), cN18, cR, cM, ci] ∧ MapE kS vI bm0 es ck29 (redM s.nodes (cn s.nodes an : Int) (s.nodes.length : Int) s.next vis) cM ∧ It bm0 r31 es ck29 (redM s.nodes (cn s.nodes an : Int) (s.nodes.length : Int) s.next vis) ys ci ∧ ys.map (·.1) = vis ∧ m_ = s.next.length - ys.length) (m := s.next.length - ([] : List (Stp × Int)).length) ?_ ?_
    ·
     exact ⟨_, es28, [], ([] : List (Stp × Int)), cM, ci34, (upd_of (upd_of (upd_of (upd_of (upd_of (upd_of (upd_of (upd_of rfl rfl) rfl) rfl) rfl) rfl) rfl) rfl) rfl), hmk21, ((((hst33.front 4 rfl rfl).front 4 rfl rfl).front 4 rfl rfl).front 4 rfl rfl), (by rw [redM_start]; exact hE30), (by rw [redM_start]; exact hI35), rfl, rfl⟩
    ·
     rintro m49 σ_ w38 ⟨s43, es44, vis45, ys46, cM47, ci48, rfl, hmk36, hst37, hi40, hi41, hf42, rfl⟩
     refine W_seq ?_
     refine W_region_lit ?_
     have hst62 := (hst37.front 4 rfl rfl)
     rcases run_next (P := Tryz.prog) 0 hi40 (hst62.g 4) hi41 hst62 with ⟨hq50, hr51⟩ | ⟨p52, v53, w54, ci55, hr51, hv56, hm57, hsub58, hI59, hst60, he61⟩
     ·
      refine L_val (v := .tuple #[.bool false]) rfl rfl rfl (x_next rfl rfl hr51) ?_
      refine Lq (.bool false) rfl rfl rfl (by kernel_rfl) ?_
      refine L_nil ?_
      refine W_seq ?_
      refine W_cond_false (by show Value.bool _ = _; exact congrArg Value.bool rfl) ?_
      refine W_exit ?_
      refine W_seq ?_
      refine W_seq ?_
      have hM63 : MapC kS vI (some bm0) (s.splitC (cn s.nodes an)).next cM47 := by have h_ := hi40.close; rw [turn_all hq50 hf42] at h_; exact h_
      refine W_region_lit ?_
      refine Lq (ptr p 0) rfl rfl rfl rfl ?_
      refine Lq (ptr p 0) rfl rfl rfl rfl ?_
      refine Lq (ptr p 1) rfl rfl rfl (by kernel_rfl) ?_
      refine Lq vR rfl rfl rfl (x_load rfl rfl (run_loadVar_one ti_62 (hst62.b 1) rfl)) ?_
      obtain ⟨a64, cap65, e66, hc67⟩ := hi26.value
      subst e66
      refine Lq (int (s.roots.length : Int)) rfl rfl rfl (x_len_slice rfl sl_62 rfl) ?_
      refine Lq (int 0) rfl rfl rfl rfl ?_
      refine L_nil ?_
      refine W_block ?_
      have hcr : ∀ r ∈ s.roots, canon l2 r = canon s.nodes r := fun r hr => by obtain ⟨j, h1, h2⟩ := hrv r hr; rw [h1]; exact hcan2 j h2
      refine W_loop (I := fun σ w_ m_ => ∃ (σ0 : Fr) (k : Nat) (cR : Hp), σ = upd (upd (upd (upd (upd (upd (upd (upd (upd (upd (upd (upd (upd (upd (upd (upd σ0 0 (ptr p 0)) 6 (int (((cn s.nodes an) : Nat) : Int))) 7 (int (s.nodes.length : Int))) 45 (ptr p 0)) 46 (ptr p 0)) 47 (ptr p 2)) 48 (.map (some bm0))) 49 (ptr r31 0)) 50 (.tuple #[(.bool false)])) 51 (.bool false)) 66 (ptr p 0)) 67 (ptr p 0)) 68 (ptr p 1)) 69 (.slice a64 s.roots.length cap65)) 70 (int (s.roots.length : Int))) 71 (int (k : Int)) ∧ mks (σ0 0) = [] ∧ Step w R [c] w_ R20 [one p (.cells #[vN17, (.slice a64 s.roots.length cap65), (.map (some bm0))] 65 (0, 0)), cN18, cR, cM47] ∧ OwnL Ty.int 3 R20 (.slice a64 s.roots.length cap65) (redR s.nodes (cn s.nodes an : Int) (s.nodes.length : Int) s.roots k) cR ∧ k ≤ s.roots.length ∧ m_ = s.roots.length - k) (m := s.roots.length - 0) ?_ ?_
      ·
       exact ⟨_, 0, cR, (upd_of (upd_of (upd_of (upd_of (upd_of (upd_of (upd_of (upd_of (upd_of (upd_of (upd_of (upd_of (upd_of (upd_of (upd_of (upd_of rfl rfl) rfl) rfl) rfl) rfl) rfl) rfl) rfl) rfl) rfl) rfl) rfl) rfl) rfl) rfl) rfl), hmk36, (((((hst62.front 4 rfl rfl).front 4 rfl rfl).front 4 rfl rfl).front 4 rfl rfl).keepN 4 rfl), (by rw [redR_start]; exact hi26), (by omega), rfl⟩
      ·
       rintro m77 σ_ w70 ⟨s74, k75, cR76, rfl, hmk68, hst69, hi72, hf73, rfl⟩
       have hrl_ : (redR s.nodes (cn s.nodes an : Int) (s.nodes.length : Int) s.roots k75).length = s.roots.length := redR_len
       refine W_seq ?_
       refine W_region_lit ?_
       refine Lq (.bool (decide ((k75 : Int) < (s.roots.length : Int)))) rfl rfl rfl (by kernel_rfl) ?_
       refine L_nil ?_
       refine W_seq ?_
       rcases Bool.eq_false_or_eq_true (decide ((k75 : Int) < (s.roots.length : Int))) with c78 | c78
       ·
        have q79 := of_decide_eq_true c78
        refine W_cond_true (by show Value.bool _ = _; exact congrArg Value.bool c78) ?_
        refine W_skip ?_
        refine W_seq ?_
        refine W_block ?_
        refine W_seq ?_
        refine W_region_lit ?_
        refine Lq (int (k75 : Int)) rfl rfl rfl rfl ?_
        obtain ⟨b80, cap81, N82, e83, hc84, hrow85, hback86⟩ := OwnL.row hi72 (by omega)
        obtain ⟨rfl, hl87, rfl⟩ := Value.slice.inj e83
        try rw [← hl87] at hback86
        obtain ⟨cl88, cs89, hr90, hcb91, hsg92⟩ := Row.at hrow85 k75 (by omega)
        have hx93 : cl88 = [.int .i64 ((redR s.nodes (cn s.nodes an : Int) (s.nodes.length : Int) s.roots k75)[k75]'(by omega))] := hr90
        subst hx93
        refine Lq (ptr b80 (0 + k75 * 1)) rfl rfl rfl (x_indexAddr' rfl sl_62 ti_3 rfl rfl (by omega)) ?_
        refine Lq (int ((redR s.nodes (cn s.nodes an : Int) (s.nodes.length : Int) s.roots k75)[k75]'(by omega))) rfl rfl rfl (x_load rfl rfl (run_loadVar_one ti_3 ((hst69.g 2) _ _ hcb91) (seg_get (j := 0) hsg92 rfl))) ?_
        refine Lq (int (k75 : Int)) rfl rfl rfl rfl ?_
        refine Lq (int ((redR s.nodes (cn s.nodes an : Int) (s.nodes.length : Int) s.roots k75)[k75]'(by omega))) rfl rfl rfl rfl ?_
        refine L_nil ?_
        refine W_seq ?_
        refine W_region_lit ?_
        refine Lq (ptr p 0) rfl rfl rfl rfl ?_
        refine Lq (int ((redR s.nodes (cn s.nodes an : Int) (s.nodes.length : Int) s.roots k75)[k75]'(by omega))) rfl rfl rfl rfl ?_
        have hv94 : TreeR (hp w70) p l2 (redR s.nodes (cn s.nodes an : Int) (s.nodes.length : Int) s.roots k75) := ⟨_, _, _, (hst69.g 0), OwnL.freeze (v := vN17) hN27 hst69.rle' (hst69.g 1), OwnL.freeze (v := (.slice (some ⟨b80, 0, none⟩) s.roots.length cap65)) (hback86 R20 (redR s.nodes (cn s.nodes an : Int) (s.nodes.length : Int) s.roots k75) cR76 (by first | rfl | (simp only [List.length_set]; done) | (simp only [List.length_set]; omega) | omega) hrow85) hst69.rle' (hst69.g 2), hS2, (redR_valid hrv2 ⟨s.nodes.length, rfl, by omega⟩), (by rw [redR_len]; exact hrl)⟩
        refine L_callG hst69 (v := (int (canon l2 ((redR s.nodes (cn s.nodes an : Int) (s.nodes.length : Int) s.roots k75)[k75]'(by omega))))) rfl rfl rfl (x_call (vs := #[(ptr p 0), (int ((redR s.nodes (cn s.nodes an : Int) (s.nodes.length : Int) s.roots k75)[k75]'(by omega)))]) rfl rfl (by kernel_rfl) ent_21) (Canon_spec ((redR s.nodes (cn s.nodes an : Int) (s.nodes.length : Int) s.roots k75)[k75]'(by omega)) hv94 (Le.refl _)) (fun w95 hst96 => ?_)
        refine Lq (int (((cn s.nodes an) : Nat) : Int)) rfl rfl rfl rfl ?_
        refine Lq (.bool ((canon l2 ((redR s.nodes (cn s.nodes an : Int) (s.nodes.length : Int) s.roots k75)[k75]'(by omega))) == (((cn s.nodes an) : Nat) : Int))) rfl rfl rfl (by kernel_rfl) ?_
        refine L_nil ?_
        rcases Bool.eq_false_or_eq_true ((canon l2 ((redR s.nodes (cn s.nodes an : Int) (s.nodes.length : Int) s.roots k75)[k75]'(by omega))) == (((cn s.nodes an) : Nat) : Int)) with c97 | c97
        ·
         have q98 := eq_of_beq c97
         refine W_cond_true (by show Value.bool _ = _; exact congrArg Value.bool c97) ?_
         refine W_region_lit ?_
         refine Lq (ptr p 0) rfl rfl rfl rfl ?_
         refine Lq (ptr p 0) rfl rfl rfl rfl ?_
         refine Lq (ptr p 1) rfl rfl rfl (by kernel_rfl) ?_
         refine Lq (.slice (some ⟨b80, 0, none⟩) s.roots.length cap65) rfl rfl rfl (x_load rfl rfl (run_loadVar_one ti_62 (hst96.b 0) rfl)) ?_
         refine Lq (int (k75 : Int)) rfl rfl rfl rfl ?_
         refine Lq (int (s.nodes.length : Int)) rfl rfl rfl rfl ?_
         obtain ⟨cl99, cs100, hr101, hcb102, hsg103⟩ := Row.at hrow85 k75 (by omega)
         have hx104 : cl99 = [.int .i64 ((redR s.nodes (cn s.nodes an : Int) (s.nodes.length : Int) s.roots k75)[k75]'(by omega))] := hr101
         subst hx104
         refine Lq (ptr b80 (0 + k75 * 1)) rfl rfl rfl (x_indexAddr' rfl sl_62 ti_3 rfl rfl (by omega)) ?_
         obtain ⟨c105, w106, hr107, hrow108, hst109⟩ := Row.store (P := Tryz.prog) (v := (int (s.nodes.length : Int))) (y := (s.nodes.length : Int)) hrow85 (hst96.front 2 rfl rfl) ti_3 k75 (by omega) rfl
         refine L_skip rfl rfl (x_store rfl rfl rfl hr107) ?_
         refine L_nil ?_
         refine W_region_lit ?_
         refine Lq (int ((k75 + 1 : Nat) : Int)) rfl rfl rfl (x_add_nat rfl rfl rfl (by omega)) ?_
         refine Lq (int ((k75 + 1 : Nat) : Int)) rfl rfl rfl rfl ?_
         refine L_nil ?_
         refine ⟨s.roots.length - (k75 + 1), by first | omega | (simp only [List.length_append, List.length_cons, List.length_nil]; omega), ?_⟩
         exact ⟨_, (k75 + 1), c105, (upd_of (upd_of (upd_of (upd_of (upd_of (upd_of (upd_of (upd_of (upd_of (upd_of (upd_of (upd_of (upd_of (upd_of (upd_of (upd_of rfl rfl) rfl) rfl) rfl) rfl) rfl) rfl) rfl) rfl) rfl) rfl) rfl) rfl) rfl) rfl) rfl), hmk68, ((((hst109.front 3 rfl rfl).front 1 rfl rfl).front 3 rfl rfl).front 3 rfl rfl), (by rw [← redR_yes (by omega) (by have h_ := eq_of_beq c97; rw [redR_at (by omega), hcr _ (List.getElem_mem _)] at h_; exact h_)]; exact (hback86 R20 ((redR s.nodes (cn s.nodes an : Int) (s.nodes.length : Int) s.roots k75).set k75 (s.nodes.length : Int)) c105 (by first | rfl | (simp only [List.length_set]; done) | (simp only [List.length_set]; omega) | omega) hrow108)), (by omega), rfl⟩
        ·
         have q110 := ne_of_beq_false c97
         refine W_cond_false (by show Value.bool _ = _; exact congrArg Value.bool c97) ?_
         refine W_skip ?_
         refine W_region_lit ?_
         refine Lq (int ((k75 + 1 : Nat) : Int)) rfl rfl rfl (x_add_nat rfl rfl rfl (by omega)) ?_
         refine Lq (int ((k75 + 1 : Nat) : Int)) rfl rfl rfl rfl ?_
         refine L_nil ?_
         refine ⟨s.roots.length - (k75 + 1), by first | omega | (simp only [List.length_append, List.length_cons, List.length_nil]; omega), ?_⟩
         exact ⟨_, (k75 + 1), cR76, (upd_of (upd_of (upd_of (upd_of (upd_of (upd_of (upd_of (upd_of (upd_of (upd_of (upd_of (upd_of (upd_of (upd_of (upd_of (upd_of rfl rfl) rfl) rfl) rfl) rfl) rfl) rfl) rfl) rfl) rfl) rfl) rfl) rfl) rfl) rfl) rfl), hmk68, ((((hst96.front 3 rfl rfl).front 3 rfl rfl).front 3 rfl rfl).front 3 rfl rfl), (by rw [← redR_no (by omega) (by have h_ := ne_of_beq_false c97; rw [redR_at (by omega), hcr _ (List.getElem_mem _)] at h_; exact h_)]; exact (hback86 R20 (redR s.nodes (cn s.nodes an : Int) (s.nodes.length : Int) s.roots k75) cR76 (by first | rfl | (simp only [List.length_set]; done) | (simp only [List.length_set]; omega) | omega) hrow85)), (by omega), rfl⟩
       ·
        have q111 := of_decide_eq_false c78
        refine W_cond_false (by show Value.bool _ = _; exact congrArg Value.bool c78) ?_
        refine W_exit ?_
        refine W_seq ?_
        refine W_region_lit ?_
        refine Lq (int (s.nodes.length : Int)) rfl rfl rfl rfl ?_
        refine Lq (int (s.nodes.length : Int)) rfl rfl rfl rfl ?_
        refine Lq (int 0) rfl rfl rfl rfl ?_
        refine L_nil ?_
        refine W_ret ?_
        refine ⟨_, _, res_run (rs := [.tmp 4, .tmp 5]) (vs := [(int (s.nodes.length : Int)), (int 0)]) Tryz.results38 (.cons (.tmp rfl) (.cons (.tmp rfl) .nil)) hmk68, ?_⟩
        have he := split_new (s := s) (a := an) (by omega) (by omega)
        rw [he]
        have hR112 : OwnL Ty.int 3 R20 (.slice a64 s.roots.length cap65) (s.splitC (cn s.nodes an)).roots cR76 := by have h_ := hi72; rw [redR_all (by omega)] at h_; exact h_
        have hln : l2 = (s.splitC (cn s.nodes an)).nodes := hl2
        have hN113 : OwnL tyNd 85 R20 vN17 (s.splitC (cn s.nodes an)).nodes cN18 := by rw [← hln]; exact hN27
        obtain ⟨c', hst', htree'⟩ := Tree.close (s := s.splitC (cn s.nodes an)) ((((hst69.front 3 rfl rfl).front 3 rfl rfl).front 3 rfl rfl).front 3 rfl rfl) hN113 hR112 hM63 (hwf.splitC _) (by rw [← hln]; exact hS2) (by show (s.roots.map _).length ≤ _; rw [List.length_map]; exact hrl) (fun h_ => by cases h_)
        exact ⟨_, _, _, rfl, hst'.keepN 1 rfl, c', rfl, rfl, htree'⟩
     ·
      have hv114 : v53 = .int .i64 p52.2 := hv56
      subst hv114
      refine L_val (v := .tuple #[.bool true, (.agg #[(int p52.1.1), (.string p52.1.2)]), (int p52.2)]) rfl rfl rfl (x_next rfl rfl hr51) ?_
      refine Lq (.bool true) rfl rfl rfl (by kernel_rfl) ?_
      refine L_nil ?_
      refine W_seq ?_
      refine W_cond_true (by show Value.bool _ = _; exact congrArg Value.bool rfl) ?_
      refine W_skip ?_
      refine W_block ?_
      refine W_seq ?_
      have hpo115 := turn_old hwf.ok hsub58 hf42
      obtain ⟨j_, hj1, hj2⟩ := hwf.next _ hpo115.1
      have hcan2' : canon l2 p52.2 = canon s.nodes p52.2 := by rw [hj1]; exact hcan2 j_ hj2
      refine W_region_lit ?_
      refine L_val (v := .tuple #[(.agg #[(int p52.1.1), (.string p52.1.2)]), (int p52.2)]) (w' := w54) rfl rfl rfl (x_entry rfl rfl (he61 _ (hst60.g 4) (hst60.g 0))) ?_
      refine Lq (.agg #[(int p52.1.1), (.string p52.1.2)]) rfl rfl rfl (by kernel_rfl) ?_
      refine Lq (int p52.2) rfl rfl rfl (by kernel_rfl) ?_
      refine L_new hst60 (v := fun b => ptr b 0) (ob := .cells #[(int 0), (.string ⟨#[]⟩)] 98 (0, 0)) rfl rfl rfl (by kernel_rfl) (fun b116 w117 hst118 => ?_)
      refine L_store hst118 0 ti_98 rfl rfl rfl rfl rfl rfl rfl rfl rfl rfl rfl (fun w119 hst120 => ?_)
      change Step _ _ _ _ _ [one b116 (.cells #[(int p52.1.1), (.string p52.1.2)] 98 (0, 0)), ci55, one p (.cells #[vN17, vR, (.map (some bm0))] 65 (0, 0)), cN18, cR, cM47] at hst120
      refine Lq (int p52.2) rfl rfl rfl rfl ?_
      refine L_nil ?_
      refine W_seq ?_
      refine W_region_lit ?_
      refine Lq (ptr p 0) rfl rfl rfl rfl ?_
      refine Lq (int p52.2) rfl rfl rfl rfl ?_
      have hv121 : TreeR (hp w119) p l2 s.roots := ⟨_, _, _, (hst120.g 2), OwnL.freeze (v := vN17) hN27 hst120.rle' (hst120.g 3), OwnL.freeze (v := vR) hi26 hst120.rle' (hst120.g 4), hS2, hrv2, hrl⟩
      refine L_callG hst120 (v := (int (canon l2 p52.2))) rfl rfl rfl (x_call (vs := #[(ptr p 0), (int p52.2)]) rfl rfl (by kernel_rfl) ent_21) (Canon_spec p52.2 hv121 (Le.refl _)) (fun w122 hst123 => ?_)
      refine Lq (int (((cn s.nodes an) : Nat) : Int)) rfl rfl rfl rfl ?_
      refine Lq (.bool ((canon l2 p52.2) == (((cn s.nodes an) : Nat) : Int))) rfl rfl rfl (by kernel_rfl) ?_
      refine L_nil ?_
      rcases Bool.eq_false_or_eq_true ((canon l2 p52.2) == (((cn s.nodes an) : Nat) : Int)) with c124 | c124
      ·
       have q125 := eq_of_beq c124
       refine W_cond_true (by show Value.bool _ = _; exact congrArg Value.bool c124) ?_
       refine W_region_draw [6] (fun w => Le R20 (hp w) ∧ Le (one b116 (.cells #[(int p52.1.1), (.string p52.1.2)] 98 (0, 0))) (hp w) ∧ Le ci55 (hp w) ∧ Le (one p (.cells #[vN17, vR, (.map (some bm0))] 65 (0, 0))) (hp w) ∧ Le cN18 (hp w) ∧ Le cR (hp w) ∧ Le cM47 (hp w)) hmix (by decide +kernel) (fun _ _ h => h) ?_
       have hst127 := hst123.draws (w122.drawn + 1)
       generalize draws w122 (w122.drawn + 1) = w126 at hst127 ⊢
       refine LP (ptr p 0) 0 rfl rfl rfl (fun u129 => rfl) hst127.a6 ?_
       refine LP (ptr p 0) 1 rfl rfl rfl (fun u132 => rfl) hst127.a6 ?_
       refine LP (ptr p 2) 2 rfl rfl rfl (fun u135 => (by kernel_rfl)) hst127.a6 ?_
       refine LT (.map (some bm0)) 3 rfl rfl rfl (fun u138 hF139 => (x_load rfl rfl (run_loadVar_one ti_63 (hF139.2.2.2.1 _ _ (one_self _ _)) rfl))) hst127.a6 ?_
       refine LT (.agg #[(int p52.1.1), (.string p52.1.2)]) 4 rfl rfl rfl (fun u141 hF142 => (x_load rfl rfl (run_loadVar_agg ti_98 (hF142.2.1 _ _ (one_self _ _)) (l := [(int p52.1.1), (.string p52.1.2)]) rfl rfl))) hst127.a6 ?_
       refine LP (int (s.nodes.length : Int)) 5 rfl rfl rfl (fun u144 => rfl) hst127.a6 ?_
       refine LA_all [6] (by decide +kernel) (by simp) ?_
       intro i_ hi_
       simp only [List.mem_cons, List.not_mem_nil, or_false] at hi_
       subst hi_
       obtain ⟨c147, w148, es149, hr150, hE151, hb152, hk153, hst154⟩ := MapE.update (P := Tryz.prog) hi40 (hst127.front 5 rfl rfl) law98 mt_63 p52.1 (by rw [redM_keys]; exact List.mem_map.2 ⟨_, hpo115.1, rfl⟩) (s.nodes.length : Int) (int (s.nodes.length : Int)) rfl
       obtain ⟨ys155, hI156, hxk157, _⟩ := It.turn hi40 hE151 hb152 hk153 hI59
       have ys155l : ys155.length = ys46.length + 1 := by have h_ := congrArg List.length hxk157; simpa using h_
       refine One_skip (i := 6) rfl rfl (Want.plain rfl) (x_mapUpdate rfl rfl rfl rfl hr150) (fun h => absurd h (by decide +kernel)) ?_
       refine LA_done (by decide +kernel) ?_
       refine ⟨s.next.length - ys155.length, by first | omega | (simp only [List.length_append, List.length_cons, List.length_nil]; omega), ?_⟩
       exact ⟨_, es149, (vis45 ++ [p52.1]), ys155, c147, ci55, (upd_of (upd_of (upd_of (upd_of (upd_of (upd_of (upd_of (upd_of rfl rfl) rfl) rfl) rfl) rfl) rfl) rfl) rfl), hmk36, ((((((hst154.front 2 rfl rfl).front 1 rfl rfl).front 5 rfl rfl).front 5 rfl rfl).front 5 rfl rfl).keepN 5 rfl), (by rw [← (redM_set hwf.ok hpo115.1 (by rw [← hcan2']; exact eq_of_beq c124))]; exact hE151), (by rw [← (redM_set hwf.ok hpo115.1 (by rw [← hcan2']; exact eq_of_beq c124))]; exact hI156), (by rw [hxk157, List.map_append, hf42]; rfl), rfl⟩
      ·
       have q158 := ne_of_beq_false c124
       refine W_cond_false (by show Value.bool _ = _; exact congrArg Value.bool c124) ?_
       refine W_skip ?_
       refine ⟨s.next.length - (ys46 ++ [p52]).length, by first | omega | (simp only [List.length_append, List.length_cons, List.length_nil]; omega), ?_⟩
       exact ⟨_, es44, (vis45 ++ [p52.1]), (ys46 ++ [p52]), cM47, ci55, (upd_of (upd_of (upd_of (upd_of (upd_of (upd_of (upd_of (upd_of rfl rfl) rfl) rfl) rfl) rfl) rfl) rfl) rfl), hmk36, ((((((hst123.front 1 rfl rfl).front 5 rfl rfl).front 5 rfl rfl).front 5 rfl rfl).front 5 rfl rfl).keepN 5 rfl), (by rw [← (redM_same hwf.ok hpo115.1 (by rw [← hcan2']; exact ne_of_beq_false c124))]; exact hi40), (by rw [← (redM_same hwf.ok hpo115.1 (by rw [← hcan2']; exact ne_of_beq_false c124))]; exact hI59), (by rw [List.map_append, hf42]; rfl), rfl⟩
   ·
    refine W_region_draw [] (fun w => Le R (hp w)) hmix (by decide +kernel) (fun _ _ h => h) ?_
    have hst160 := hst16.draws (w15.drawn + 1)
    generalize draws w15 (w15.drawn + 1) = w159 at hst160 ⊢
    refine LP (ptr p 0) 0 rfl rfl rfl (fun u162 => rfl) hst160.rle' ?_
    refine LP (ptr p 0) 1 rfl rfl rfl (fun u165 => rfl) hst160.rle' ?_
    refine LP (ptr p 0) 2 rfl rfl rfl (fun u168 => rfl) hst160.rle' ?_
    refine LP (ptr p 0) 3 rfl rfl rfl (fun u171 => (by kernel_rfl)) hst160.rle' ?_
    refine LP (int (((cn s.nodes an) : Nat) : Int)) 5 rfl rfl rfl (fun u176 => rfl) hst160.rle' ?_
    refine LP (ptr p 0) 9 rfl rfl rfl (fun u181 => rfl) hst160.rle' ?_
    refine LP (ptr p 0) 10 rfl rfl rfl (fun u186 => rfl) hst160.rle' ?_
    refine LP (ptr p 0) 11 rfl rfl rfl (fun u191 => (by kernel_rfl)) hst160.rle' ?_
    refine LP (int (((cn s.nodes an) : Nat) : Int)) 13 rfl rfl rfl (fun u198 => rfl) hst160.rle' ?_
    refine LA_all [4, 12] (by decide +kernel) (by simp) ?_
    intro i_ hi_
    simp only [List.mem_cons, List.not_mem_nil, or_false] at hi_
    rcases hi_ with rfl | rfl
    ·
     refine One_val (i := 4) (v := (.slice a6 s.nodes.length cap7)) rfl rfl rfl (Want.plain rfl) (x_load rfl rfl (run_loadVar_one ti_61 (hst160.b 0) rfl)) (fun _ => hst160.rle') ?_
     obtain ⟨b208, cap209, N210, e211, hc212, hrow213, hback214⟩ := OwnL.row hN (by omega)
     obtain ⟨rfl, hl215, rfl⟩ := Value.slice.inj e211
     try rw [← hl215] at hback214
     obtain ⟨cl216, cs217, hr218, hcb219, hsg220⟩ := Row.at hrow213 (cn s.nodes an) (by omega)
     obtain ⟨x221, hx222⟩ : ∃ x_, x_ = (s.nodes[(cn s.nodes an)]'(by omega)) := ⟨_, rfl⟩
     rw [← hx222] at hr218
     have hb223 : x221.names.length ≤ 1000000 := by rw [hx222]; exact hS.names _ (by omega)
     have hb224 : x221.ali = -1 ∨ 0 ≤ x221.ali := by rw [hx222]; exact hS.ali _ (by omega)
     obtain ⟨vn225, rfl, hvn226⟩ := tyNd_open hr218
     refine LP (ptr b208 (0 + (cn s.nodes an) * 3)) 6 rfl rfl rfl (fun u206 => (x_indexAddr' rfl sl_61 ti_85 rfl rfl (by omega))) hst160.rle' ?_
     refine LP (ptr b208 (0 + (cn s.nodes an) * 3)) 7 rfl rfl rfl (fun u228 => (by kernel_rfl)) hst160.rle' ?_
     refine LA_all [8, 12] (by decide +kernel) (by simp) ?_
     intro i_ hi_
     simp only [List.mem_cons, List.not_mem_nil, or_false] at hi_
     rcases hi_ with rfl | rfl
     ·
      refine One_val (i := 8) (v := (int x221.cls)) rfl rfl rfl (Want.plain rfl) (x_load rfl rfl (run_loadVar_one ti_3 ((hst160.g 1) _ _ hcb219) (seg_get (j := 0) hsg220 rfl))) (fun _ => hst160.rle') ?_
      refine LA_all [12] (by decide +kernel) (by simp) ?_
      intro i_ hi_
      simp only [List.mem_cons, List.not_mem_nil, or_false] at hi_
      subst hi_
      refine One_val (i := 12) (v := (.slice (some ⟨b208, 0, none⟩) s.nodes.length cap7)) rfl rfl rfl (Want.plain rfl) (x_load rfl rfl (run_loadVar_one ti_61 (hst160.b 0) rfl)) (fun _ => hst160.rle') ?_
      obtain ⟨cl241, cs242, hr243, hcb244, hsg245⟩ := Row.at hrow213 (cn s.nodes an) (by omega)
      rw [← hx222] at hr243
      obtain ⟨vn246, rfl, hvn247⟩ := tyNd_open hr243
      refine LP (ptr b208 (0 + (cn s.nodes an) * 3)) 14 rfl rfl rfl (fun u239 => (x_indexAddr' rfl sl_61 ti_85 rfl rfl (by omega))) hst160.rle' ?_
      refine LP (ptr b208 (0 + (cn s.nodes an) * 3 + 2)) 15 rfl rfl rfl (fun u249 => (by kernel_rfl)) hst160.rle' ?_
      refine LA_all [16] (by decide +kernel) (by simp) ?_
      intro i_ hi_
      simp only [List.mem_cons, List.not_mem_nil, or_false] at hi_
      subst hi_
      refine One_val (i := 16) (v := vn246) rfl rfl rfl (Want.plain rfl) (x_load rfl rfl (run_loadVar_one ti_42 ((hst160.g 1) _ _ hcb244) (seg_get (j := 2) hsg245 rfl))) (fun _ => hst160.rle') ?_
      refine LA_all [17] (by decide +kernel) (by simp) ?_
      intro i_ hi_
      simp only [List.mem_cons, List.not_mem_nil, or_false] at hi_
      subst hi_
      obtain ⟨a257, cap258, e259, hc260⟩ := hvn247.shape
      subst e259
      have hst261 := ((hst160.front 1 rfl rfl).front 1 rfl rfl)
      refine One_callS (i := 17) [one p (.cells #[(.slice (some ⟨b208, 0, none⟩) s.nodes.length cap7), vR, (.map (some bm0))] 65 (0, 0)), cN] [cR, cM] hst261 rfl rfl rfl (Want.plain rfl) (x_call (vs := #[(ptr p 0), (int x221.cls), (.slice a257 x221.names.length cap258)]) rfl rfl (by kernel_rfl) ent_39) (add_spec (names := x221.names) x221.cls (hst261.sats.take 2 rfl) (hback214 R s.nodes cN (by first | rfl | (simp only [List.length_set]; done) | (simp only [List.length_set]; omega) | omega) hrow213) (RdS.mono hvn247 (Le.refl _)) (by first | omega | assumption | (simp only [List.length_append, List.length_cons, List.length_nil]; omega)) (by first | omega | (simp only [List.length_append, List.length_cons, List.length_nil]; omega))) (fun v262 w263 R264 L265 hp266 hle267 hst268 => ?_)
      have hm269 := OwnL.mono hRs hle267
      obtain ⟨vN270, cN271, rfl, rfl, hN272⟩ := hp266
      refine ⟨(fun _ => (Le.trans hle267 hst268.rle')), ?_⟩
      refine LP (int (s.nodes.length : Int)) 18 rfl rfl rfl (fun u274 => rfl) (Le.trans hle267 hst268.rle') ?_
      refine LA_done (by decide +kernel) ?_
      exact ⟨_, _, vN270, cN271, (upd_of (upd_of (upd_of rfl rfl) rfl) rfl), rfl, ((((hst268.front 3 rfl rfl).front 3 rfl rfl).front 3 rfl rfl).front 3 rfl rfl), hle267, (by have h_ := hN272; rw [hx222] at h_; rw [TS.nodeAt_eq (by omega)]; exact h_), hm269⟩
     ·
      refine One_val (i := 12) (v := (.slice (some ⟨b208, 0, none⟩) s.nodes.length cap7)) rfl rfl rfl (Want.plain rfl) (x_load rfl rfl (run_loadVar_one ti_61 (hst160.b 0) rfl)) (fun _ => hst160.rle') ?_
      obtain ⟨cl281, cs282, hr283, hcb284, hsg285⟩ := Row.at hrow213 (cn s.nodes an) (by omega)
      rw [← hx222] at hr283
      obtain ⟨vn286, rfl, hvn287⟩ := tyNd_open hr283
      refine LP (ptr b208 (0 + (cn s.nodes an) * 3)) 14 rfl rfl rfl (fun u279 => (x_indexAddr' rfl sl_61 ti_85 rfl rfl (by omega))) hst160.rle' ?_
      refine LP (ptr b208 (0 + (cn s.nodes an) * 3 + 2)) 15 rfl rfl rfl (fun u291 => (by kernel_rfl)) hst160.rle' ?_
      refine LA_all [8, 16] (by decide +kernel) (by simp) ?_
      intro i_ hi_
      simp only [List.mem_cons, List.not_mem_nil, or_false] at hi_
      rcases hi_ with rfl | rfl
      ·
       refine One_val (i := 8) (v := (int x221.cls)) rfl rfl rfl (Want.plain rfl) (x_load rfl rfl (run_loadVar_one ti_3 ((hst160.g 1) _ _ hcb219) (seg_get (j := 0) hsg220 rfl))) (fun _ => hst160.rle') ?_
       refine LA_all [16] (by decide +kernel) (by simp) ?_
       intro i_ hi_
       simp only [List.mem_cons, List.not_mem_nil, or_false] at hi_
       subst hi_
       refine One_val (i := 16) (v := vn286) rfl rfl rfl (Want.plain rfl) (x_load rfl rfl (run_loadVar_one ti_42 ((hst160.g 1) _ _ hcb284) (seg_get (j := 2) hsg285 rfl))) (fun _ => hst160.rle') ?_
       refine LA_all [17] (by decide +kernel) (by simp) ?_
       intro i_ hi_
       simp only [List.mem_cons, List.not_mem_nil, or_false] at hi_
       subst hi_
       obtain ⟨a304, cap305, e306, hc307⟩ := hvn287.shape
       subst e306
       have hst308 := ((hst160.front 1 rfl rfl).front 1 rfl rfl)
       refine One_callS (i := 17) [one p (.cells #[(.slice (some ⟨b208, 0, none⟩) s.nodes.length cap7), vR, (.map (some bm0))] 65 (0, 0)), cN] [cR, cM] hst308 rfl rfl rfl (Want.plain rfl) (x_call (vs := #[(ptr p 0), (int x221.cls), (.slice a304 x221.names.length cap305)]) rfl rfl (by kernel_rfl) ent_39) (add_spec (names := x221.names) x221.cls (hst308.sats.take 2 rfl) (hback214 R s.nodes cN (by first | rfl | (simp only [List.length_set]; done) | (simp only [List.length_set]; omega) | omega) hrow213) (RdS.mono hvn287 (Le.refl _)) (by first | omega | assumption | (simp only [List.length_append, List.length_cons, List.length_nil]; omega)) (by first | omega | (simp only [List.length_append, List.length_cons, List.length_nil]; omega))) (fun v309 w310 R311 L312 hp313 hle314 hst315 => ?_)
       have hm316 := OwnL.mono hRs hle314
       obtain ⟨vN317, cN318, rfl, rfl, hN319⟩ := hp313
       refine ⟨(fun _ => (Le.trans hle314 hst315.rle')), ?_⟩
       refine LP (int (s.nodes.length : Int)) 18 rfl rfl rfl (fun u321 => rfl) (Le.trans hle314 hst315.rle') ?_
       refine LA_done (by decide +kernel) ?_
       exact ⟨_, _, vN317, cN318, (upd_of (upd_of (upd_of rfl rfl) rfl) rfl), rfl, ((((hst315.front 3 rfl rfl).front 3 rfl rfl).front 3 rfl rfl).front 3 rfl rfl), hle314, (by have h_ := hN319; rw [hx222] at h_; rw [TS.nodeAt_eq (by omega)]; exact h_), hm316⟩
      ·
       refine One_val (i := 16) (v := vn286) rfl rfl rfl (Want.plain rfl) (x_load rfl rfl (run_loadVar_one ti_42 ((hst160.g 1) _ _ hcb284) (seg_get (j := 2) hsg285 rfl))) (fun _ => hst160.rle') ?_
       refine LA_all [8] (by decide +kernel) (by simp) ?_
       intro i_ hi_
       simp only [List.mem_cons, List.not_mem_nil, or_false] at hi_
       subst hi_
       refine One_val (i := 8) (v := (int x221.cls)) rfl rfl rfl (Want.plain rfl) (x_load rfl rfl (run_loadVar_one ti_3 ((hst160.g 1) _ _ hcb219) (seg_get (j := 0) hsg220 rfl))) (fun _ => hst160.rle') ?_
       refine LA_all [17] (by decide +kernel) (by simp) ?_
       intro i_ hi_
       simp only [List.mem_cons, List.not_mem_nil, or_false] at hi_
       subst hi_
       obtain ⟨a329, cap330, e331, hc332⟩ := hvn287.shape
       subst e331
       have hst333 := ((hst160.front 1 rfl rfl).front 1 rfl rfl)
       refine One_callS (i := 17) [one p (.cells #[(.slice (some ⟨b208, 0, none⟩) s.nodes.length cap7), vR, (.map (some bm0))] 65 (0, 0)), cN] [cR, cM] hst333 rfl rfl rfl (Want.plain rfl) (x_call (vs := #[(ptr p 0), (int x221.cls), (.slice a329 x221.names.length cap330)]) rfl rfl (by kernel_rfl) ent_39) (add_spec (names := x221.names) x221.cls (hst333.sats.take 2 rfl) (hback214 R s.nodes cN (by first | rfl | (simp only [List.length_set]; done) | (simp only [List.length_set]; omega) | omega) hrow213) (RdS.mono hvn287 (Le.refl _)) (by first | omega | assumption | (simp only [List.length_append, List.length_cons, List.length_nil]; omega)) (by first | omega | (simp only [List.length_append, List.length_cons, List.length_nil]; omega))) (fun v334 w335 R336 L337 hp338 hle339 hst340 => ?_)
       have hm341 := OwnL.mono hRs hle339
       obtain ⟨vN342, cN343, rfl, rfl, hN344⟩ := hp338
       refine ⟨(fun _ => (Le.trans hle339 hst340.rle')), ?_⟩
       refine LP (int (s.nodes.length : Int)) 18 rfl rfl rfl (fun u346 => rfl) (Le.trans hle339 hst340.rle') ?_
       refine LA_done (by decide +kernel) ?_
       exact ⟨_, _, vN342, cN343, (upd_of (upd_of (upd_of rfl rfl) rfl) rfl), rfl, ((((hst340.front 3 rfl rfl).front 3 rfl rfl).front 3 rfl rfl).front 3 rfl rfl), hle339, (by have h_ := hN344; rw [hx222] at h_; rw [TS.nodeAt_eq (by omega)]; exact h_), hm341⟩
    ·
     refine One_val (i := 12) (v := (.slice a6 s.nodes.length cap7)) rfl rfl rfl (Want.plain rfl) (x_load rfl rfl (run_loadVar_one ti_61 (hst160.b 0) rfl)) (fun _ => hst160.rle') ?_
     obtain ⟨b353, cap354, N355, e356, hc357, hrow358, hback359⟩ := OwnL.row hN (by omega)
     obtain ⟨rfl, hl360, rfl⟩ := Value.slice.inj e356
     try rw [← hl360] at hback359
     obtain ⟨cl361, cs362, hr363, hcb364, hsg365⟩ := Row.at hrow358 (cn s.nodes an) (by omega)
     obtain ⟨x366, hx367⟩ : ∃ x_, x_ = (s.nodes[(cn s.nodes an)]'(by omega)) := ⟨_, rfl⟩
     rw [← hx367] at hr363
     have hb368 : x366.names.length ≤ 1000000 := by rw [hx367]; exact hS.names _ (by omega)
     have hb369 : x366.ali = -1 ∨ 0 ≤ x366.ali := by rw [hx367]; exact hS.ali _ (by omega)
     obtain ⟨vn370, rfl, hvn371⟩ := tyNd_open hr363
     refine LP (ptr b353 (0 + (cn s.nodes an) * 3)) 14 rfl rfl rfl (fun u351 => (x_indexAddr' rfl sl_61 ti_85 rfl rfl (by omega))) hst160.rle' ?_
     refine LP (ptr b353 (0 + (cn s.nodes an) * 3 + 2)) 15 rfl rfl rfl (fun u375 => (by kernel_rfl)) hst160.rle' ?_
     refine LA_all [4, 16] (by decide +kernel) (by simp) ?_
     intro i_ hi_
     simp only [List.mem_cons, List.not_mem_nil, or_false] at hi_
     rcases hi_ with rfl | rfl
     ·
      refine One_val (i := 4) (v := (.slice (some ⟨b353, 0, none⟩) s.nodes.length cap7)) rfl rfl rfl (Want.plain rfl) (x_load rfl rfl (run_loadVar_one ti_61 (hst160.b 0) rfl)) (fun _ => hst160.rle') ?_
      obtain ⟨cl385, cs386, hr387, hcb388, hsg389⟩ := Row.at hrow358 (cn s.nodes an) (by omega)
      rw [← hx367] at hr387
      obtain ⟨vn390, rfl, hvn391⟩ := tyNd_open hr387
      refine LP (ptr b353 (0 + (cn s.nodes an) * 3)) 6 rfl rfl rfl (fun u383 => (x_indexAddr' rfl sl_61 ti_85 rfl rfl (by omega))) hst160.rle' ?_
      refine LP (ptr b353 (0 + (cn s.nodes an) * 3)) 7 rfl rfl rfl (fun u393 => (by kernel_rfl)) hst160.rle' ?_
      refine LA_all [8, 16] (by decide +kernel) (by simp) ?_
      intro i_ hi_
      simp only [List.mem_cons, List.not_mem_nil, or_false] at hi_
      rcases hi_ with rfl | rfl
      ·
       refine One_val (i := 8) (v := (int x366.cls)) rfl rfl rfl (Want.plain rfl) (x_load rfl rfl (run_loadVar_one ti_3 ((hst160.g 1) _ _ hcb388) (seg_get (j := 0) hsg389 rfl))) (fun _ => hst160.rle') ?_
       refine LA_all [16] (by decide +kernel) (by simp) ?_
       intro i_ hi_
       simp only [List.mem_cons, List.not_mem_nil, or_false] at hi_
       subst hi_
       refine One_val (i := 16) (v := vn370) rfl rfl rfl (Want.plain rfl) (x_load rfl rfl (run_loadVar_one ti_42 ((hst160.g 1) _ _ hcb364) (seg_get (j := 2) hsg365 rfl))) (fun _ => hst160.rle') ?_
       refine LA_all [17] (by decide +kernel) (by simp) ?_
       intro i_ hi_
       simp only [List.mem_cons, List.not_mem_nil, or_false] at hi_
       subst hi_
       obtain ⟨a406, cap407, e408, hc409⟩ := hvn371.shape
       subst e408
       have hst410 := ((hst160.front 1 rfl rfl).front 1 rfl rfl)
       refine One_callS (i := 17) [one p (.cells #[(.slice (some ⟨b353, 0, none⟩) s.nodes.length cap7), vR, (.map (some bm0))] 65 (0, 0)), cN] [cR, cM] hst410 rfl rfl rfl (Want.plain rfl) (x_call (vs := #[(ptr p 0), (int x366.cls), (.slice a406 x366.names.length cap407)]) rfl rfl (by kernel_rfl) ent_39) (add_spec (names := x366.names) x366.cls (hst410.sats.take 2 rfl) (hback359 R s.nodes cN (by first | rfl | (simp only [List.length_set]; done) | (simp only [List.length_set]; omega) | omega) hrow358) (RdS.mono hvn371 (Le.refl _)) (by first | omega | assumption | (simp only [List.length_append, List.length_cons, List.length_nil]; omega)) (by first | omega | (simp only [List.length_append, List.length_cons, List.length_nil]; omega))) (fun v411 w412 R413 L414 hp415 hle416 hst417 => ?_)
       have hm418 := OwnL.mono hRs hle416
       obtain ⟨vN419, cN420, rfl, rfl, hN421⟩ := hp415
       refine ⟨(fun _ => (Le.trans hle416 hst417.rle')), ?_⟩
       refine LP (int (s.nodes.length : Int)) 18 rfl rfl rfl (fun u423 => rfl) (Le.trans hle416 hst417.rle') ?_
       refine LA_done (by decide +kernel) ?_
       exact ⟨_, _, vN419, cN420, (upd_of (upd_of (upd_of rfl rfl) rfl) rfl), rfl, ((((hst417.front 3 rfl rfl).front 3 rfl rfl).front 3 rfl rfl).front 3 rfl rfl), hle416, (by have h_ := hN421; rw [hx367] at h_; rw [TS.nodeAt_eq (by omega)]; exact h_), hm418⟩
      ·
       refine One_val (i := 16) (v := vn370) rfl rfl rfl (Want.plain rfl) (x_load rfl rfl (run_loadVar_one ti_42 ((hst160.g 1) _ _ hcb364) (seg_get (j := 2) hsg365 rfl))) (fun _ => hst160.rle') ?_
       refine LA_all [8] (by decide +kernel) (by simp) ?_
       intro i_ hi_
       simp only [List.mem_cons, List.not_mem_nil, or_false] at hi_
       subst hi_
       refine One_val (i := 8) (v := (int x366.cls)) rfl rfl rfl (Want.plain rfl) (x_load rfl rfl (run_loadVar_one ti_3 ((hst160.g 1) _ _ hcb388) (seg_get (j := 0) hsg389 rfl))) (fun _ => hst160.rle') ?_
       refine LA_all [17] (by decide +kernel) (by simp) ?_
       intro i_ hi_
       simp only [List.mem_cons, List.not_mem_nil, or_false] at hi_
       subst hi_
       obtain ⟨a431, cap432, e433, hc434⟩ := hvn371.shape
       subst e433
       have hst435 := ((hst160.front 1 rfl rfl).front 1 rfl rfl)
       refine One_callS (i := 17) [one p (.cells #[(.slice (some ⟨b353, 0, none⟩) s.nodes.length cap7), vR, (.map (some bm0))] 65 (0, 0)), cN] [cR, cM] hst435 rfl rfl rfl (Want.plain rfl) (x_call (vs := #[(ptr p 0), (int x366.cls), (.slice a431 x366.names.length cap432)]) rfl rfl (by kernel_rfl) ent_39) (add_spec (names := x366.names) x366.cls (hst435.sats.take 2 rfl) (hback359 R s.nodes cN (by first | rfl | (simp only [List.length_set]; done) | (simp only [List.length_set]; omega) | omega) hrow358) (RdS.mono hvn371 (Le.refl _)) (by first | omega | assumption | (simp only [List.length_append, List.length_cons, List.length_nil]; omega)) (by first | omega | (simp only [List.length_append, List.length_cons, List.length_nil]; omega))) (fun v436 w437 R438 L439 hp440 hle441 hst442 => ?_)
       have hm443 := OwnL.mono hRs hle441
       obtain ⟨vN444, cN445, rfl, rfl, hN446⟩ := hp440
       refine ⟨(fun _ => (Le.trans hle441 hst442.rle')), ?_⟩
       refine LP (int (s.nodes.length : Int)) 18 rfl rfl rfl (fun u448 => rfl) (Le.trans hle441 hst442.rle') ?_
       refine LA_done (by decide +kernel) ?_
       exact ⟨_, _, vN444, cN445, (upd_of (upd_of (upd_of rfl rfl) rfl) rfl), rfl, ((((hst442.front 3 rfl rfl).front 3 rfl rfl).front 3 rfl rfl).front 3 rfl rfl), hle441, (by have h_ := hN446; rw [hx367] at h_; rw [TS.nodeAt_eq (by omega)]; exact h_), hm443⟩
     ·
      refine One_val (i := 16) (v := vn370) rfl rfl rfl (Want.plain rfl) (x_load rfl rfl (run_loadVar_one ti_42 ((hst160.g 1) _ _ hcb364) (seg_get (j := 2) hsg365 rfl))) (fun _ => hst160.rle') ?_
      refine LA_all [4] (by decide +kernel) (by simp) ?_
      intro i_ hi_
      simp only [List.mem_cons, List.not_mem_nil, or_false] at hi_
      subst hi_
      refine One_val (i := 4) (v := (.slice (some ⟨b353, 0, none⟩) s.nodes.length cap7)) rfl rfl rfl (Want.plain rfl) (x_load rfl rfl (run_loadVar_one ti_61 (hst160.b 0) rfl)) (fun _ => hst160.rle') ?_
      obtain ⟨cl456, cs457, hr458, hcb459, hsg460⟩ := Row.at hrow358 (cn s.nodes an) (by omega)
      rw [← hx367] at hr458
      obtain ⟨vn461, rfl, hvn462⟩ := tyNd_open hr458
      refine LP (ptr b353 (0 + (cn s.nodes an) * 3)) 6 rfl rfl rfl (fun u454 => (x_indexAddr' rfl sl_61 ti_85 rfl rfl (by omega))) hst160.rle' ?_
      refine LP (ptr b353 (0 + (cn s.nodes an) * 3)) 7 rfl rfl rfl (fun u464 => (by kernel_rfl)) hst160.rle' ?_
      refine LA_all [8] (by decide +kernel) (by simp) ?_
      intro i_ hi_
      simp only [List.mem_cons, List.not_mem_nil, or_false] at hi_
      subst hi_
      refine One_val (i := 8) (v := (int x366.cls)) rfl rfl rfl (Want.plain rfl) (x_load rfl rfl (run_loadVar_one ti_3 ((hst160.g 1) _ _ hcb459) (seg_get (j := 0) hsg460 rfl))) (fun _ => hst160.rle') ?_
      refine LA_all [17] (by decide +kernel) (by simp) ?_
      intro i_ hi_
      simp only [List.mem_cons, List.not_mem_nil, or_false] at hi_
      subst hi_
      obtain ⟨a472, cap473, e474, hc475⟩ := hvn371.shape
      subst e474
      have hst476 := ((hst160.front 1 rfl rfl).front 1 rfl rfl)
      refine One_callS (i := 17) [one p (.cells #[(.slice (some ⟨b353, 0, none⟩) s.nodes.length cap7), vR, (.map (some bm0))] 65 (0, 0)), cN] [cR, cM] hst476 rfl rfl rfl (Want.plain rfl) (x_call (vs := #[(ptr p 0), (int x366.cls), (.slice a472 x366.names.length cap473)]) rfl rfl (by kernel_rfl) ent_39) (add_spec (names := x366.names) x366.cls (hst476.sats.take 2 rfl) (hback359 R s.nodes cN (by first | rfl | (simp only [List.length_set]; done) | (simp only [List.length_set]; omega) | omega) hrow358) (RdS.mono hvn371 (Le.refl _)) (by first | omega | assumption | (simp only [List.length_append, List.length_cons, List.length_nil]; omega)) (by first | omega | (simp only [List.length_append, List.length_cons, List.length_nil]; omega))) (fun v477 w478 R479 L480 hp481 hle482 hst483 => ?_)
      have hm484 := OwnL.mono hRs hle482
      obtain ⟨vN485, cN486, rfl, rfl, hN487⟩ := hp481
      refine ⟨(fun _ => (Le.trans hle482 hst483.rle')), ?_⟩
      refine LP (int (s.nodes.length : Int)) 18 rfl rfl rfl (fun u489 => rfl) (Le.trans hle482 hst483.rle') ?_
      refine LA_done (by decide +kernel) ?_
      exact ⟨_, _, vN485, cN486, (upd_of (upd_of (upd_of rfl rfl) rfl) rfl), rfl, ((((hst483.front 3 rfl rfl).front 3 rfl rfl).front 3 rfl rfl).front 3 rfl rfl), hle482, (by have h_ := hN487; rw [hx367] at h_; rw [TS.nodeAt_eq (by omega)]; exact h_), hm484⟩
 ·
  have q491 := thereL_not.1 c1
  refine W_region_lit ?_
  refine Lq (ptr p 0) rfl rfl rfl rfl ?_
  refine Lq (int a) rfl rfl rfl rfl ?_
  have hv492 : TreeR (hp w) p s.nodes s.roots := ⟨_, _, _, (hst.g 0), OwnL.freeze (v := vN) hN hst.rle' (hst.g 1), OwnL.freeze (v := vR) hRs hst.rle' (hst.g 2), hS, hrv, hrl⟩
  refine L_callG hst (v := (.bool (thereL s.nodes a))) rfl rfl rfl (x_call (vs := #[(ptr p 0), (int a)]) rfl rfl (by kernel_rfl) ent_51) (there_spec a hv492 (Le.refl _)) (fun w493 hst494 => ?_)
  refine Lq (.bool (!(thereL s.nodes a))) rfl rfl rfl rfl ?_
  refine Lq (.bool (!(thereL s.nodes a))) rfl rfl rfl rfl ?_
  refine L_nil ?_
  refine W_cond_true (by show Value.bool _ = _; exact congrArg Value.bool (by rw [c1]; rfl)) ?_
  refine W_seq ?_
  refine W_region_lit ?_
  refine Lq (int 0) rfl rfl rfl rfl ?_
  refine Lq (int 1) rfl rfl rfl rfl ?_
  refine L_nil ?_
  refine W_ret ?_
  refine ⟨_, _, res_run (rs := [.tmp 4, .tmp 5]) (vs := [(int 0), (int 1)]) Tryz.results38 (.cons (.tmp rfl) (.cons (.tmp rfl) .nil)) rfl, ?_⟩
  have he := split_out (s := s) (a := a) c1
  rw [he]
  obtain ⟨c', hst', htree'⟩ := Tree.close (s := s) ((((hst494.front 3 rfl rfl).front 3 rfl rfl).front 3 rfl rfl).front 3 rfl rfl) hN hRs hM hwf hS hrl hbm
  exact ⟨_, _, _, rfl, hst'.keepN 1 rfl, c', rfl, rfl, htree'⟩
end Go.Fx.YtjpdhfhiimbpgaaGreatDoor
namespace Go.Proofs
open Go.Shelf
def Tryz.sortStep_ren : Go.Shelf.Ren := ⟨fun | 6 => 77 | 15 => 83 | 14 => 89 | 28 => 101 | 29 => 102 | 20 => 107 | 21 => 108 | 22 => 109 | 23 => 110 | 24 => 111 | 25 => 112 | 26 => 113 | 27 => 114 | 46 => 123 | 47 => 116 | 48 => 117 | 49 => 124 | 50 => 125 | 57 => 127 | n => n, fun | 22 => 105 | 24 => 98 | 25 => 111 | 3 => 3 | 39 => 125 | 0 => 0 | 53 => 144 | 55 => 127 | 4 => 4 | 46 => 137 | 45 => 136 | 50 => 44 | 5 => 5 | 9 => 9 | 66 => 153 | 70 => 157 | 76 => 161 | 77 => 162 | n => n, fun | n => n⟩
theorem Tryz.sortStep : Go.Proofs.SlLaysF0.n6 Tryz.prog Tryz.sortStep_ren := {
  mixed := by kernel_rfl
  f6 := ⟨Tryz.f77.name, by decide, Tryz.func77.trans (congrArg some (by kernel_rfl))⟩
  f14 := ⟨Tryz.f89.name, by decide, Tryz.func89.trans (congrArg some (by kernel_rfl))⟩
  f15 := Tryz.func83.trans (congrArg some (by kernel_rfl))
  f20 := ⟨Tryz.f107.name, by decide, Tryz.func107.trans (congrArg some (by kernel_rfl))⟩
  f21 := ⟨Tryz.f108.name, by decide, Tryz.func108.trans (congrArg some (by kernel_rfl))⟩
  f22 := ⟨Tryz.f109.name, by decide, Tryz.func109.trans (congrArg some (by kernel_rfl))⟩
  f23 := ⟨Tryz.f110.name, by decide, Tryz.func110.trans (congrArg some (by kernel_rfl))⟩
  f24 := ⟨Tryz.f111.name, by decide, Tryz.func111.trans (congrArg some (by kernel_rfl))⟩
  f25 := ⟨Tryz.f112.name, by decide, Tryz.func112.trans (congrArg some (by kernel_rfl))⟩
  f26 := ⟨Tryz.f113.name, by decide, Tryz.func113.trans (congrArg some (by kernel_rfl))⟩
  f27 := ⟨Tryz.f114.name, by decide, Tryz.func114.trans (congrArg some (by kernel_rfl))⟩
  f28 := Tryz.func101.trans (congrArg some (by kernel_rfl))
  f29 := Tryz.func102.trans (congrArg some (by kernel_rfl))
  f46 := ⟨Tryz.f123.name, by decide, Tryz.func123.trans (congrArg some (by kernel_rfl))⟩
  f47 := Tryz.func116.trans (congrArg some (by kernel_rfl))
  f48 := Tryz.func117.trans (congrArg some (by kernel_rfl))
  f49 := ⟨Tryz.f124.name, by decide, Tryz.func124.trans (congrArg some (by kernel_rfl))⟩
  f50 := ⟨Tryz.f125.name, by decide, Tryz.func125.trans (congrArg some (by kernel_rfl))⟩
  f57 := ⟨Tryz.f127.name, by decide, Tryz.func127.trans (congrArg some (by kernel_rfl))⟩
  t0 := Tryz.underlying0
  a0 := Tryz.isAgg0
  z0 := Tryz.sizeOf0
  v0 := Tryz.zeroValue0
  t3 := Tryz.underlying3
  a3 := Tryz.isAgg3
  z3 := Tryz.sizeOf3
  v3 := Tryz.zeroValue3
  t4 := Tryz.underlying4
  a4 := Tryz.isAgg4
  z4 := Tryz.sizeOf4
  v4 := Tryz.zeroValue4
  t5 := Tryz.underlying5
  a5 := Tryz.isAgg5
  z5 := Tryz.sizeOf5
  v5 := Tryz.zeroValue5
  t9 := Tryz.underlying9
  a9 := Tryz.isAgg9
  z9 := Tryz.sizeOf9
  v9 := Tryz.zeroValue9
  t22 := Tryz.underlying105
  a22 := Tryz.isAgg105
  z22 := Tryz.sizeOf105
  v22 := Tryz.zeroValue105
  t25 := Tryz.underlying111
  a25 := Tryz.isAgg111
  z25 := Tryz.sizeOf111
  v25 := Tryz.zeroValue111
  t39 := Tryz.underlying125
  a39 := Tryz.isAgg125
  z39 := Tryz.sizeOf125
  v39 := Tryz.zeroValue125
  t45 := Tryz.underlying136
  a45 := Tryz.isAgg136
  z45 := Tryz.sizeOf136
  v45 := Tryz.zeroValue136
  t46 := Tryz.underlying137
  a46 := Tryz.isAgg137
  z46 := Tryz.sizeOf137
  v46 := Tryz.zeroValue137
  t50 := Tryz.underlying44
  a50 := Tryz.isAgg44
  z50 := Tryz.sizeOf44
  v50 := Tryz.zeroValue44
  t53 := Tryz.underlying144
  a53 := Tryz.isAgg144
  z53 := Tryz.sizeOf144
  v53 := Tryz.zeroValue144
  t55 := Tryz.underlying127
  a55 := Tryz.isAgg127
  z55 := Tryz.sizeOf127
  v55 := Tryz.zeroValue127
  t66 := Tryz.underlying153
  a66 := Tryz.isAgg153
  z66 := Tryz.sizeOf153
  v66 := Tryz.zeroValue153
  t70 := Tryz.underlying157
  a70 := Tryz.isAgg157
  z70 := Tryz.sizeOf157
  v70 := Tryz.zeroValue157
  t76 := Tryz.underlying161
  a76 := Tryz.isAgg161
  z76 := Tryz.sizeOf161
  v76 := Tryz.zeroValue161
  t77 := Tryz.underlying162
  a77 := Tryz.isAgg162
  z77 := Tryz.sizeOf162
  v77 := Tryz.zeroValue162 }
end Go.Proofs
namespace Go.Proofs
open Go.Shelf
def Tryz.lays156_ren : Go.Shelf.Ren := ⟨fun | 156 => 43 | 165 => 70 | 166 => 40 | 169 => 44 | 240 => 63 | 241 => 80 | 276 => 74 | 277 => 91 | n => n, fun | 31 => 42 | 9 => 9 | 3 => 3 | 4 => 4 | 0 => 0 | 20 => 20 | 72 => 79 | 76 => 82 | 70 => 76 | 37 => 77 | 75 => 81 | 127 => 113 | 164 => 116 | 5 => 5 | 80 => 30 | n => n, fun | n => n⟩
theorem Tryz.lays156 : Go.Proofs.Lays.n156 Tryz.prog Tryz.lays156_ren := {
  mixed := by kernel_rfl
  f156 := Tryz.func43.trans (congrArg some (by kernel_rfl))
  f165 := Tryz.func70.trans (congrArg some (by kernel_rfl))
  f166 := Tryz.func40.trans (congrArg some (by kernel_rfl))
  f169 := Tryz.func44.trans (congrArg some (by kernel_rfl))
  f240 := Tryz.func63.trans (congrArg some (by kernel_rfl))
  f241 := Tryz.func80.trans (congrArg some (by kernel_rfl))
  f276 := Tryz.func74.trans (congrArg some (by kernel_rfl))
  f277 := Tryz.func91.trans (congrArg some (by kernel_rfl))
  t0 := Tryz.underlying0
  a0 := Tryz.isAgg0
  z0 := Tryz.sizeOf0
  v0 := Tryz.zeroValue0
  t3 := Tryz.underlying3
  a3 := Tryz.isAgg3
  z3 := Tryz.sizeOf3
  v3 := Tryz.zeroValue3
  t4 := Tryz.underlying4
  a4 := Tryz.isAgg4
  z4 := Tryz.sizeOf4
  v4 := Tryz.zeroValue4
  t9 := Tryz.underlying9
  a9 := Tryz.isAgg9
  z9 := Tryz.sizeOf9
  v9 := Tryz.zeroValue9
  t20 := Tryz.underlying20
  a20 := Tryz.isAgg20
  z20 := Tryz.sizeOf20
  v20 := Tryz.zeroValue20
  t31 := Tryz.underlying42
  a31 := Tryz.isAgg42
  z31 := Tryz.sizeOf42
  v31 := Tryz.zeroValue42
  t37 := Tryz.underlying77
  a37 := Tryz.isAgg77
  z37 := Tryz.sizeOf77
  v37 := Tryz.zeroValue77
  t70 := Tryz.underlying76
  a70 := Tryz.isAgg76
  z70 := Tryz.sizeOf76
  v70 := Tryz.zeroValue76
  t72 := Tryz.underlying79
  a72 := Tryz.isAgg79
  z72 := Tryz.sizeOf79
  v72 := Tryz.zeroValue79
  t75 := Tryz.underlying81
  a75 := Tryz.isAgg81
  z75 := Tryz.sizeOf81
  v75 := Tryz.zeroValue81
  t76 := Tryz.underlying82
  a76 := Tryz.isAgg82
  z76 := Tryz.sizeOf82
  v76 := Tryz.zeroValue82
  t127 := Tryz.underlying113
  a127 := Tryz.isAgg113
  z127 := Tryz.sizeOf113
  v127 := Tryz.zeroValue113
  t164 := Tryz.underlying116
  a164 := Tryz.isAgg116
  z164 := Tryz.sizeOf116
  v164 := Tryz.zeroValue116 }
theorem Tryz.Builder_Extra_156 : Builder.Extra Tryz.prog Tryz.lays156_ren := {
  sizeBuilder := by kernel_rfl
  liesBuilder := by kernel_rfl
  t5 := Tryz.underlying5
  a5 := Tryz.isAgg5
  z5 := Tryz.sizeOf5
  v5 := Tryz.zeroValue5
  infoByte := by kernel_rfl
  cellsByte := by kernel_rfl
  sizeByte := by kernel_rfl
  neB5 := by decide }
open Go.RowKit in
/-- No element: the empty string; the world is as it was. (Whatever the slice's address and capacity: a nil slice too.) (LAID: no walk: one application.) -/
theorem Tryz.strings_Join_none (a : Option Addr) (c : Nat) (sep : ByteArray) (w : World) :
    Calls Tryz.prog 43 #[.slice a 0 c, .string sep] w fun e w' => e = .returned (.string ⟨#[]⟩) ∧ w' = w := Any.strings_Join_none Tryz.lays156 Tryz.Builder_Extra_156 a c sep w
open Go.RowKit in
/-- strings.Join: "Join concatenates the elements of its first argument to create a single string. The separator string sep is placed between elements in the resulting string.": HOWEVER MANY ELEMENTS. Below the heap's end the world is as it was. (LAID: no walk: one application.) -/
theorem Tryz.strings_Join (bk o c : Nat) (xs : List ByteArray) (sep : ByteArray) (w : World) (hcells : ∀ (j : Nat) x, xs[j]? = some x → w.cell? ⟨bk, o + j, none⟩ = some (.string x)) (hbk : bk < w.heap.size) (hN : xs.length ≤ 140737488355328) (hcap : xs.length ≤ c) (hlen : (Lib.join (xs.map (·.data.toList)) sep.data.toList).length ≤ 140737488355328) :
    Calls Tryz.prog 43 #[.slice (some ⟨bk, o, none⟩) xs.length c, .string sep] w fun e w' => e = .returned (.string ⟨(Lib.join (xs.map (·.data.toList)) sep.data.toList).toArray⟩) ∧ Below w.heap.size w w' := Any.strings_Join Tryz.lays156 Tryz.Builder_Extra_156 bk o c xs sep w hcells hbk hN hcap hlen
def Tryz.lays106_ren : Go.Shelf.Ren := ⟨fun | 106 => 69 | 213 => 79 | 265 => 90 | n => n, fun | 9 => 9 | 3 => 3 | n => n, fun | n => n⟩
theorem Tryz.lays106 : Go.Proofs.Lays.n106 Tryz.prog Tryz.lays106_ren := {
  mixed := by kernel_rfl
  f106 := Tryz.func69.trans (congrArg some (by kernel_rfl))
  f213 := Tryz.func79.trans (congrArg some (by kernel_rfl))
  f265 := Tryz.func90.trans (congrArg some (by kernel_rfl))
  t3 := Tryz.underlying3
  a3 := Tryz.isAgg3
  z3 := Tryz.sizeOf3
  v3 := Tryz.zeroValue3
  t9 := Tryz.underlying9
  a9 := Tryz.isAgg9
  z9 := Tryz.sizeOf9
  v9 := Tryz.zeroValue9 }
open Go.RowKit in
/-- strings.Compare: "Compare returns an integer comparing two strings lexicographically. The result will be 0 if a == b, -1 if a < b, and +1 if a > b.": IT RETURNS 'Lib.compareBytes a b'; the world is as it was. (LAID: no walk: one application.) -/
theorem Tryz.strings_Compare (a b : ByteArray) (w : World) :
    Calls Tryz.prog 69 #[.string a, .string b] w fun e w' => e = .returned (.int .i64 (Lib.compareBytes a.data.toList b.data.toList)) ∧ w' = w := Any.strings_Compare Tryz.lays106 a b w
def Tryz.lays171_ren : Go.Shelf.Ren := ⟨fun | 171 => 41 | 243 => 64 | 246 => 75 | 283 => 84 | 284 => 85 | 285 => 86 | 286 => 87 | 129 => 102 | 317 => 103 | 318 => 104 | 319 => 105 | 320 => 106 | 337 => 121 | 338 => 122 | n => n, fun | 3 => 3 | 9 => 9 | 2 => 2 | 4 => 4 | 171 => 126 | 0 => 0 | 53 => 127 | 37 => 77 | 5 => 5 | 173 => 130 | 212 => 146 | 51 => 144 | 20 => 20 | 213 => 147 | 46 => 125 | 232 => 164 | 233 => 165 | n => n, fun | 17 => 1 | 18 => 2 | 19 => 3 | n => n⟩
theorem Tryz.lays171 : Go.Proofs.Lays.n171 Tryz.prog Tryz.lays171_ren := {
  mixed := by kernel_rfl
  f129 := Tryz.func102.trans (congrArg some (by kernel_rfl))
  f171 := Tryz.func41.trans (congrArg some (by kernel_rfl))
  f243 := Tryz.func64.trans (congrArg some (by kernel_rfl))
  f246 := Tryz.func75.trans (congrArg some (by kernel_rfl))
  f283 := Tryz.func84.trans (congrArg some (by kernel_rfl))
  f284 := Tryz.func85.trans (congrArg some (by kernel_rfl))
  f285 := Tryz.func86.trans (congrArg some (by kernel_rfl))
  f286 := Tryz.func87.trans (congrArg some (by kernel_rfl))
  f317 := Tryz.func103.trans (congrArg some (by kernel_rfl))
  f318 := Tryz.func104.trans (congrArg some (by kernel_rfl))
  f319 := Tryz.func105.trans (congrArg some (by kernel_rfl))
  f320 := Tryz.func106.trans (congrArg some (by kernel_rfl))
  f337 := Tryz.func121.trans (congrArg some (by kernel_rfl))
  f338 := Tryz.func122.trans (congrArg some (by kernel_rfl))
  t0 := Tryz.underlying0
  a0 := Tryz.isAgg0
  z0 := Tryz.sizeOf0
  v0 := Tryz.zeroValue0
  t2 := Tryz.underlying2
  a2 := Tryz.isAgg2
  z2 := Tryz.sizeOf2
  v2 := Tryz.zeroValue2
  t3 := Tryz.underlying3
  a3 := Tryz.isAgg3
  z3 := Tryz.sizeOf3
  v3 := Tryz.zeroValue3
  t4 := Tryz.underlying4
  a4 := Tryz.isAgg4
  z4 := Tryz.sizeOf4
  v4 := Tryz.zeroValue4
  t5 := Tryz.underlying5
  a5 := Tryz.isAgg5
  z5 := Tryz.sizeOf5
  v5 := Tryz.zeroValue5
  t9 := Tryz.underlying9
  a9 := Tryz.isAgg9
  z9 := Tryz.sizeOf9
  v9 := Tryz.zeroValue9
  t20 := Tryz.underlying20
  a20 := Tryz.isAgg20
  z20 := Tryz.sizeOf20
  v20 := Tryz.zeroValue20
  t37 := Tryz.underlying77
  a37 := Tryz.isAgg77
  z37 := Tryz.sizeOf77
  v37 := Tryz.zeroValue77
  t46 := Tryz.underlying125
  a46 := Tryz.isAgg125
  z46 := Tryz.sizeOf125
  v46 := Tryz.zeroValue125
  t51 := Tryz.underlying144
  a51 := Tryz.isAgg144
  z51 := Tryz.sizeOf144
  v51 := Tryz.zeroValue144
  t53 := Tryz.underlying127
  a53 := Tryz.isAgg127
  z53 := Tryz.sizeOf127
  v53 := Tryz.zeroValue127
  t171 := Tryz.underlying126
  a171 := Tryz.isAgg126
  z171 := Tryz.sizeOf126
  v171 := Tryz.zeroValue126
  t173 := Tryz.underlying130
  a173 := Tryz.isAgg130
  z173 := Tryz.sizeOf130
  v173 := Tryz.zeroValue130
  t212 := Tryz.underlying146
  a212 := Tryz.isAgg146
  z212 := Tryz.sizeOf146
  v212 := Tryz.zeroValue146
  t213 := Tryz.underlying147
  a213 := Tryz.isAgg147
  z213 := Tryz.sizeOf147
  t232 := Tryz.underlying164
  a232 := Tryz.isAgg164
  z232 := Tryz.sizeOf164
  v232 := Tryz.zeroValue164
  t233 := Tryz.underlying165
  a233 := Tryz.isAgg165
  z233 := Tryz.sizeOf165
  v233 := Tryz.zeroValue165
  g17 := by kernel_rfl
  g18 := by kernel_rfl
  g19 := by kernel_rfl }
open Go.RowKit Go.Sort Go.Lib in
/-- THE ROAD WITHOUT THE TABLE: 0 <= i < 100: NO PREMISE ON THE WORLD, AND THE WORLD IS AS IT WAS: a row that keeps its argument in that range need list no table ('laid = []'). (LAID: no walk: one application.) -/
theorem Tryz.strconv_Itoa_small (i : Nat) (hi : i < 100) (w : World) :
    Calls Tryz.prog 41 #[.int .i64 i] w fun e w' => e = .returned (.string ⟨(Lib.decDigits i).toArray⟩) ∧ w' = w := Any.strconv_Itoa_small Tryz.lays171 i hi w
def Tryz.lays190_ren : Go.Shelf.Ren := ⟨fun | 190 => 72 | 125 => 83 | 258 => 82 | 128 => 101 | 129 => 102 | 302 => 92 | 303 => 93 | 304 => 94 | 305 => 95 | 306 => 96 | 307 => 97 | 308 => 98 | 309 => 99 | 310 => 100 | 333 => 115 | 329 => 116 | 330 => 117 | 334 => 118 | 335 => 119 | 336 => 120 | 344 => 126 | n => n, fun | 31 => 42 | 9 => 9 | 3 => 3 | 46 => 125 | 0 => 0 | 51 => 144 | 53 => 127 | 4 => 4 | 183 => 137 | 182 => 136 | 131 => 44 | 5 => 5 | 218 => 153 | 222 => 157 | 228 => 161 | 229 => 162 | n => n, fun | n => n⟩
theorem Tryz.lays190 : Go.Proofs.Lays.n190 Tryz.prog Tryz.lays190_ren := {
  mixed := by kernel_rfl
  f125 := Tryz.func83.trans (congrArg some (by kernel_rfl))
  f128 := Tryz.func101.trans (congrArg some (by kernel_rfl))
  f129 := Tryz.func102.trans (congrArg some (by kernel_rfl))
  f190 := Tryz.func72.trans (congrArg some (by kernel_rfl))
  f258 := Tryz.func82.trans (congrArg some (by kernel_rfl))
  f302 := Tryz.func92.trans (congrArg some (by kernel_rfl))
  f303 := Tryz.func93.trans (congrArg some (by kernel_rfl))
  f304 := Tryz.func94.trans (congrArg some (by kernel_rfl))
  f305 := Tryz.func95.trans (congrArg some (by kernel_rfl))
  f306 := Tryz.func96.trans (congrArg some (by kernel_rfl))
  f307 := Tryz.func97.trans (congrArg some (by kernel_rfl))
  f308 := Tryz.func98.trans (congrArg some (by kernel_rfl))
  f309 := Tryz.func99.trans (congrArg some (by kernel_rfl))
  f310 := Tryz.func100.trans (congrArg some (by kernel_rfl))
  f329 := Tryz.func116.trans (congrArg some (by kernel_rfl))
  f330 := Tryz.func117.trans (congrArg some (by kernel_rfl))
  f333 := Tryz.func115.trans (congrArg some (by kernel_rfl))
  f334 := Tryz.func118.trans (congrArg some (by kernel_rfl))
  f335 := Tryz.func119.trans (congrArg some (by kernel_rfl))
  f336 := Tryz.func120.trans (congrArg some (by kernel_rfl))
  f344 := Tryz.func126.trans (congrArg some (by kernel_rfl))
  t0 := Tryz.underlying0
  a0 := Tryz.isAgg0
  z0 := Tryz.sizeOf0
  v0 := Tryz.zeroValue0
  t3 := Tryz.underlying3
  a3 := Tryz.isAgg3
  z3 := Tryz.sizeOf3
  v3 := Tryz.zeroValue3
  t4 := Tryz.underlying4
  a4 := Tryz.isAgg4
  z4 := Tryz.sizeOf4
  v4 := Tryz.zeroValue4
  t5 := Tryz.underlying5
  a5 := Tryz.isAgg5
  z5 := Tryz.sizeOf5
  v5 := Tryz.zeroValue5
  t9 := Tryz.underlying9
  a9 := Tryz.isAgg9
  z9 := Tryz.sizeOf9
  v9 := Tryz.zeroValue9
  t31 := Tryz.underlying42
  a31 := Tryz.isAgg42
  z31 := Tryz.sizeOf42
  v31 := Tryz.zeroValue42
  t46 := Tryz.underlying125
  a46 := Tryz.isAgg125
  z46 := Tryz.sizeOf125
  v46 := Tryz.zeroValue125
  t51 := Tryz.underlying144
  a51 := Tryz.isAgg144
  z51 := Tryz.sizeOf144
  v51 := Tryz.zeroValue144
  t53 := Tryz.underlying127
  a53 := Tryz.isAgg127
  z53 := Tryz.sizeOf127
  v53 := Tryz.zeroValue127
  t131 := Tryz.underlying44
  a131 := Tryz.isAgg44
  z131 := Tryz.sizeOf44
  v131 := Tryz.zeroValue44
  t182 := Tryz.underlying136
  a182 := Tryz.isAgg136
  z182 := Tryz.sizeOf136
  v182 := Tryz.zeroValue136
  t183 := Tryz.underlying137
  a183 := Tryz.isAgg137
  z183 := Tryz.sizeOf137
  v183 := Tryz.zeroValue137
  t218 := Tryz.underlying153
  a218 := Tryz.isAgg153
  z218 := Tryz.sizeOf153
  v218 := Tryz.zeroValue153
  t222 := Tryz.underlying157
  a222 := Tryz.isAgg157
  z222 := Tryz.sizeOf157
  v222 := Tryz.zeroValue157
  t228 := Tryz.underlying161
  a228 := Tryz.isAgg161
  z228 := Tryz.sizeOf161
  v228 := Tryz.zeroValue161
  t229 := Tryz.underlying162
  a229 := Tryz.isAgg162
  z229 := Tryz.sizeOf162
  v229 := Tryz.zeroValue162 }
open Go.Sort Go.RowKit in
theorem Tryz.slices_Sort_string (blk off cap : Nat) (ss : List (List UInt8)) (w : World) (hH : Holds encStr w blk off ss.toArray) (hblk : blk < w.heap.size) (hsz : ss.length < 4611686018427387904) :
    Calls Tryz.prog 72 #[.slice (some ⟨blk, off, none⟩) ss.length cap] w fun e w' =>
      e = .returned (.tuple #[]) ∧ ∃ n os, w' = grow (putRow encStr (Sort.ahead w n) blk off (ss.mergeSort fun x y => decide (x ≤ y)).toArray) os := Any.slices_Sort_string Tryz.lays190 blk off cap ss w hH hblk hsz
def Tryz.lays194_ren : Go.Shelf.Ren := ⟨fun | 194 => 59 | n => n, fun | 31 => 42 | 9 => 9 | 3 => 3 | 4 => 4 | 0 => 0 | n => n, fun | n => n⟩
theorem Tryz.lays194 : Go.Proofs.Lays.n194 Tryz.prog Tryz.lays194_ren := {
  mixed := by kernel_rfl
  f194 := Tryz.func59.trans (congrArg some (by kernel_rfl))
  t0 := Tryz.underlying0
  a0 := Tryz.isAgg0
  z0 := Tryz.sizeOf0
  v0 := Tryz.zeroValue0
  t3 := Tryz.underlying3
  a3 := Tryz.isAgg3
  z3 := Tryz.sizeOf3
  v3 := Tryz.zeroValue3
  t4 := Tryz.underlying4
  a4 := Tryz.isAgg4
  z4 := Tryz.sizeOf4
  v4 := Tryz.zeroValue4
  t9 := Tryz.underlying9
  a9 := Tryz.isAgg9
  z9 := Tryz.sizeOf9
  v9 := Tryz.zeroValue9
  t31 := Tryz.underlying42
  a31 := Tryz.isAgg42
  z31 := Tryz.sizeOf42
  v31 := Tryz.zeroValue42 }
open Go.RowKit Go.Lib Go.Sort in
/-- slices.Compact at []string: "Compact replaces consecutive runs of equal elements with a single copy. This is like the uniq command found on Unix. Compact modifies the contents of the slice s and returns the modified slice, which may have a smaller length. Compact zeroes the elements between the new length and the original length. The result preserves the nilness of s.": IT RETURNS THE SLICE CUT TO 'Lib.compact zs'; ITS CELLS HOLD 'Lib.compact zs', THEN ZERO VALUES up to the old length; all else is as it was, but for the count of draws. IN THE WORDS OF slices.Sort's CONTRACT ('Holds', 'putRow'): so the everyday 'slices.Sort(xs); xs = slices.Compact(xs)' goes from the one contract to the other. It asks 'zs.length ≤ cap' (every slice's: the reslicing 's[:k]' looks at it). Length 0, nil: '.._empty'. (LAID: no walk: one application.) -/
theorem Tryz.slices_Compact_string (blk off cap : Nat) (zs : List (List UInt8)) (w : World) (hH : Holds encStr w blk off zs.toArray) (hsz : zs.length ≤ 9223372036854775807) (hcap : zs.length ≤ cap) :
    Calls Tryz.prog 59 #[.slice (some ⟨blk, off, none⟩) zs.length cap] w fun e w' => e = .returned (.slice (some ⟨blk, off, none⟩) (Lib.compact zs).length cap) ∧ ∃ q, w' = putRow encStr (Sort.ahead w q) blk off (Lib.compact zs ++ List.replicate (zs.length - (Lib.compact zs).length) []).toArray := Any.slices_Compact_string Tryz.lays194 blk off cap zs w hH hsz hcap
open Go.RowKit Go.Lib Go.Sort in
/-- The same at a slice of length 0, a nil one too: it comes back as it is. (LAID: no walk: one application.) -/
theorem Tryz.slices_Compact_string_empty (a : Option Addr) (cap : Nat) (w : World) :
    Calls Tryz.prog 59 #[.slice a 0 cap] w fun e w' => e = .returned (.slice a 0 cap) ∧ w' = w := Any.slices_Compact_string_empty Tryz.lays194 a cap w
open Go.RowKit Go.Sort in
/-- .. and plain. (LAID: no walk: one application.) -/
theorem Tryz.slices_Sort_string_none (p : Option Addr) (cap : Nat) (w : World) :
    Calls Tryz.prog 72 #[.slice p 0 cap] w fun e w' => e = .returned (.tuple #[]) ∧ w' = w := Any.slices_Sort_string_none Tryz.lays190 p cap w
end Go.Proofs
