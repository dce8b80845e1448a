/-
  Sp9, Sp10, Sq8, Sp11, Sq9, Sp12, Sp13, Sp14, put together.
-/
import Derived.Test.YtjpdhfhiimbpgaaGreatDoorM2
set_option linter.unusedSimpArgs false
set_option linter.unusedVariables false
set_option linter.unusedSectionVars false
namespace Go.Fx.YtjpdhfhiimbpgaaGreatDoor
open Go Go.Fx Go.Proofs
set_option maxRecDepth 20000

def and1 (a : Int) : Int := IntKind.i64.wrap ((BitVec.ofInt 64 a &&& BitVec.ofInt 64 1).toNat : Int)
theorem and1_bd (a : Int) : 0 ≤ and1 a ∧ and1 a ≤ 1 := by
  have h : (BitVec.ofInt 64 a &&& BitVec.ofInt 64 1).toNat < 2 := by
    rw [BitVec.toNat_and, show (BitVec.ofInt 64 1).toNat = 1 by decide, Nat.and_one_is_mod]
    exact Nat.mod_lt _ (by decide)
  unfold and1
  generalize (BitVec.ofInt 64 a &&& BitVec.ofInt 64 1).toNat = k at h ⊢
  have hk : k = 0 ∨ k = 1 := by omega
  rcases hk with rfl | rfl <;> decide
theorem x_and1 {P : Program} {w : World} {ρ : Operand → Value} {o : Oper} {t yt : TypeId} {p q : Operand} {a : Int} (ho : o.op = .binOp .and t p q yt) (hx : ρ p = int a) (hy : ρ q = int 1) : (execOp ρ o).run P w = .ok (.value (int (and1 a))) w := by
  unfold execOp
  simp only [ho, hx, hy, eqGuard, binOp, Sem.run_bind, Sem.run_pure, Result.andThen_ok]
  rfl
theorem tmod_bd (a : Int) {m : Int} (hm : 0 < m) : -m < Int.tmod a m ∧ Int.tmod a m < m := ⟨by have := Int.lt_tmod_of_pos a hm; omega, Int.tmod_lt_of_pos a hm⟩
def kN (m n : Int) : Nat := (Int.tmod (Int.tmod n m + m) m).toNat
theorem kN_eq {m : Int} (n : Int) (hm : 0 < m) : Int.tmod (Int.tmod n m + m) m = (kN m n : Int) := by
  unfold kN
  obtain ⟨h1, h2⟩ := tmod_bd n hm
  have h3 : 0 ≤ Int.tmod (Int.tmod n m + m) m := Int.tmod_nonneg _ (by omega)
  omega
theorem kN_lt {m : Int} (n : Int) (hm : 0 < m) : (kN m n : Int) < m := by
  rw [← kN_eq n hm]
  exact (tmod_bd _ hm).2
def names6 : List Str := [⟨#[120]⟩, ⟨#[121]⟩, ⟨#[122]⟩, ⟨#[119]⟩, ⟨#[118]⟩, ⟨#[]⟩]
def nameOf (n : Int) : Str := names6.getD (kN 6 n) eStr
theorem nameOf_eq {n : Int} (h : kN 6 n < names6.length) : nameOf n = names6[kN 6 n] := by
  unfold nameOf; rw [List.getD_eq_getElem?_getD, List.getElem?_eq_getElem h]; rfl
theorem nameOf_size (n : Int) : (nameOf n).size ≤ 1 := by
  have h := kN_lt n (m := 6) (by decide)
  rw [nameOf_eq (by have : names6.length = 6 := rfl; omega)]
  have key : ∀ x ∈ names6, x.size ≤ 1 := by decide
  exact key _ (List.getElem_mem _)
def someN (n : Nat) : List Str := if h : n = 0 then [] else nameOf (n : Int) :: someN (n / 6)
termination_by n
decreasing_by omega
theorem someN_zero : someN 0 = [] := by rw [someN]; rfl
theorem someN_pos {n : Nat} (h : 0 < n) : someN n = nameOf (n : Int) :: someN (n / 6) := by rw [someN, dif_neg (by omega)]
theorem someN_len : ∀ (k n : Nat), n < 6 ^ k → (someN n).length ≤ k
  | 0, n, h => by obtain rfl : n = 0 := by simpa using h
                  rw [someN_zero]; exact Nat.le_refl _
  | k + 1, n, h => by
    by_cases h0 : n = 0
    · subst h0; rw [someN_zero]; exact Nat.zero_le _
    · rw [someN_pos (by omega), List.length_cons]
      have := someN_len k (n / 6) (by rw [Nat.pow_succ] at h; omega)
      omega
theorem someN_size : ∀ n : Nat, ∀ t ∈ someN n, t.size ≤ 1 := by
  intro n
  induction n using Nat.strongRecOn with
  | ind n ih =>
    intro t ht
    by_cases h0 : n = 0
    · subst h0; rw [someN_zero] at ht; cases ht
    · rw [someN_pos (by omega)] at ht
      rcases List.mem_cons.1 ht with rfl | ht
      · exact nameOf_size _
      · exact ih (n / 6) (by omega) t ht
def someL (x : Int) : List Str := someN (kN 216 x)
theorem someL_len (x : Int) : (someL x).length ≤ 3 := someN_len 3 _ (by have := kN_lt x (m := 216) (by decide); omega)
theorem someN_app {n : Nat} {out xs : List Str} (h : 0 < n) (e : out ++ someN n = xs) : (out ++ [nameOf (n : Int)]) ++ someN (n / 6) = xs := by
  rw [someN_pos h] at e
  rw [← e, List.append_assoc]
  rfl
def cls3 : List Cls := [⟨⟨#[80]⟩, [⟨#[120]⟩]⟩, ⟨⟨#[81]⟩, []⟩, ⟨⟨#[82]⟩, [⟨#[120]⟩]⟩]
def clsOf (n : Int) : List Cls := cls3.take (1 + kN 3 n)
theorem kN3 (n : Int) : kN 3 n ≤ 2 := by have := kN_lt n (m := 3) (by decide); omega
theorem clsOf_len (n : Int) : (clsOf n).length = 1 + kN 3 n := by
  have h := kN3 n
  unfold clsOf
  rw [List.length_take]
  have : cls3.length = 3 := rfl
  omega
theorem clsOf_mem {n : Int} {x : Cls} (h : x ∈ clsOf n) : x.fields.length ≤ 1 ∧ ∀ t ∈ x.fields, t.size ≤ 1 := by
  have h2 : x ∈ cls3 := List.mem_of_mem_take h
  have key : ∀ x ∈ cls3, x.fields.length ≤ 1 ∧ ∀ t ∈ x.fields, t.size ≤ 1 := by decide
  exact key x h2
theorem strsE (R : Hp) : ∀ xs : List Str, Encs Ty.str R xs (xs.map Value.string)
  | [] => .nil
  | x :: xs => Encs.cons (t := Ty.str) (c := [.string x]) rfl (strsE R xs)
/-! ### Acts -/
structure Ac where
  what : Int
  x : Int
  y : Int
  nm : Int
def tyAc : Ty Ac := (Ty.int.pair (Ty.int.pair (Ty.int.pair Ty.int))).via (fun a => (a.what, a.x, a.y, a.nm))
theorem tyAc_open {R : Hp} {a : Ac} {c : List Value} (h : tyAc.rel R a c) : c = [.int .i64 a.what, .int .i64 a.x, .int .i64 a.y, .int .i64 a.nm] := by
  obtain ⟨c1, c2, rfl, e1, c3, c4, rfl, e3, c5, c6, rfl, e5, e6⟩ := h
  have h1 : c1 = [_] := e1
  have h3 : c3 = [_] := e3
  have h5 : c5 = [_] := e5
  have h6 : c6 = [_] := e6
  subst h1; subst h3; subst h5; subst h6
  rfl
def Ac.ix (a : Ac) (n : Nat) : Int := (kN ((n + 1 : Nat) : Int) a.x : Int) - 1 + and1 a.y
def Ac.iy (a : Ac) (n : Nat) : Int := (kN ((n + 1 : Nat) : Int) a.y : Int) - 1 + and1 a.x
/-- What an act does at a tree that stands beside n shapes. -/
def TS.act (s : TS) (a : Ac) (n : Nat) : Int × Int × TS :=
  if kN 7 a.what = 4 then (0, (s.merge (a.ix n) (a.iy n)).1, (s.merge (a.ix n) (a.iy n)).2)
  else if kN 7 a.what = 5 then s.split (a.ix n)
  else if kN 7 a.what = 6 then s.make (Int.tmod a.y 3) (someL a.x)
  else s.add (a.ix n) (nameOf a.nm)
def playK (n : Int) (acts : List Ac) : Nat → TS
  | 0 => newTS (clsOf n)
  | k + 1 => ((playK n acts k).act (acts.getD k ⟨0, 0, 0, 0⟩) (playK n acts k).nodes.length).2.2
def played (n : Int) (acts : List Ac) : TS := playK n acts (min acts.length 60)
theorem playK_succ {n : Int} {acts : List Ac} {k : Nat} (h : k < acts.length) : playK n acts (k + 1) = ((playK n acts k).act acts[k] (playK n acts k).nodes.length).2.2 := by
  rw [playK, List.getD_eq_getElem?_getD, List.getElem?_eq_getElem h]
  rfl
theorem add_len (s : TS) (k : Int) (t : Str) : (s.add k t).2.2.nodes.length ≤ s.nodes.length + 1 := by
  unfold TS.add
  split
  · simp
  · split
    · simp
    · split
      · simp
      · split <;> simp [TS.addN]
theorem merge_len (s : TS) (a b : Int) : (s.merge a b).2.nodes.length = s.nodes.length := by
  unfold TS.merge
  split
  · simp only
    split
    · rfl
    · exact setAli_len
  · rfl
theorem split_len (s : TS) (a : Int) : (s.split a).2.2.nodes.length ≤ s.nodes.length + 1 := by
  unfold TS.split
  split
  · simp
  · split <;> simp [TS.splitC]
theorem make_len (s : TS) (c : Int) (xs : List Str) : (s.make c xs).2.2.nodes.length ≤ s.nodes.length + 1 := by
  unfold TS.make
  split
  · simp
  · split
    · simp
    · split
      · simp
      · split <;> simp [TS.addN]
theorem act_len (s : TS) (a : Ac) (n : Nat) : (s.act a n).2.2.nodes.length ≤ s.nodes.length + 1 := by
  unfold TS.act
  split
  · simp only [merge_len]; omega
  · split
    · exact split_len _ _
    · split
      · exact make_len _ _ _
      · exact add_len _ _ _
theorem newTS_len (n : Int) : (newTS (clsOf n)).nodes.length = 1 + kN 3 n := by simp only [newTS, nodesOf_len, clsOf_len]
theorem playK_len (n : Int) (acts : List Ac) : ∀ k, (playK n acts k).nodes.length ≤ 3 + k
  | 0 => by have := kN3 n; rw [playK, newTS_len]; omega
  | k + 1 => by
    have h1 := playK_len n acts k
    have h2 := act_len (playK n acts k) (acts.getD k ⟨0, 0, 0, 0⟩) (playK n acts k).nodes.length
    rw [playK]
    omega
end Go.Fx.YtjpdhfhiimbpgaaGreatDoor

set_option linter.unusedSimpArgs false
set_option linter.unusedVariables false
set_option linter.unusedSectionVars false
namespace Go.Fx.YtjpdhfhiimbpgaaGreatDoor
open Go Go.Fx Go.Proofs
set_option maxRecDepth 20000
theorem x_kN {P : Program} {w : World} {ρ : Operand → Value} {o : Oper} {t yt : TypeId} {x y : Operand} {n m : Int} (ho : o.op = .binOp .rem t x y yt) (hx : ρ x = int (Int.tmod n m + m)) (hy : ρ y = int m) (h : 0 < m) : (execOp ρ o).run P w = .ok (.value (int (kN m n : Int))) w := by
  have e := x_rem (P := P) (w := w) ho hx hy (by omega)
  rwa [kN_eq n h] at e
theorem x_quo6 {P : Program} {w : World} {ρ : Operand → Value} {o : Oper} {t yt : TypeId} {x y : Operand} {a : Nat} (ho : o.op = .binOp .quo t x y yt) (hx : ρ x = int (a : Int)) (hy : ρ y = int 6) (h : a ≤ 1000000) : (execOp ρ o).run P w = .ok (.value (int ((a / 6 : Nat) : Int))) w := by
  have e := x_quo (P := P) (w := w) ho hx hy (by decide) (by rw [Int.tdiv_eq_ediv_of_nonneg (by omega)]; constructor <;> omega)
  rwa [show Int.tdiv (a : Int) 6 = ((a / 6 : Nat) : Int) by rw [Int.tdiv_eq_ediv_of_nonneg (by omega)]; omega] at e
theorem ret_str {a b : Str} (h : a = b) : Ending.returned (retV [.string a]) = .returned (.string b) := by subst h; rfl
theorem RdS.nilv {α : Type} (ty : Ty α) (R : Hp) : RdS ty R (.slice none 0 0) [] := ⟨Option.none, 0, rfl, Nat.le_refl _, fun h => absurd rfl h⟩
variable {s : TS} {a : Ac} {n : Nat}
theorem act_merge (h : (kN 7 a.what : Int) = 4) : s.act a n = (0, (s.merge (a.ix n) (a.iy n)).1, (s.merge (a.ix n) (a.iy n)).2) := by
  unfold TS.act; rw [if_pos (by omega)]
theorem act_split (h4 : (kN 7 a.what : Int) ≠ 4) (h : (kN 7 a.what : Int) = 5) : s.act a n = s.split (a.ix n) := by
  unfold TS.act; rw [if_neg (by omega), if_pos (by omega)]
theorem act_make (h4 : (kN 7 a.what : Int) ≠ 4) (h5 : (kN 7 a.what : Int) ≠ 5) (h : (kN 7 a.what : Int) = 6) : s.act a n = s.make (Int.tmod a.y 3) (someL a.x) := by
  unfold TS.act; rw [if_neg (by omega), if_neg (by omega), if_pos (by omega)]
theorem act_add (h4 : (kN 7 a.what : Int) ≠ 4) (h5 : (kN 7 a.what : Int) ≠ 5) (h6 : (kN 7 a.what : Int) ≠ 6) : s.act a n = s.add (a.ix n) (nameOf a.nm) := by
  unfold TS.act; rw [if_neg (by omega), if_neg (by omega), if_neg (by omega)]
end Go.Fx.YtjpdhfhiimbpgaaGreatDoor

set_option linter.unusedSimpArgs false
set_option linter.unusedVariables false
namespace Go.Fx.YtjpdhfhiimbpgaaGreatDoor
open Go Go.Fx Go.Proofs
set_option maxRecDepth 20000

theorem ent_11 : Ent Tryz.prog 11 := fun _ _ => by kernel_rfl
theorem ent_12 : Ent Tryz.prog 12 := fun _ _ => by kernel_rfl
theorem ent_16 : Ent Tryz.prog 16 := fun _ _ => by kernel_rfl
theorem ent_19 : Ent Tryz.prog 19 := fun _ _ => by kernel_rfl
theorem ent_27 : Ent Tryz.prog 27 := fun _ _ => by kernel_rfl
theorem ent_28 : Ent Tryz.prog 28 := fun _ _ => by kernel_rfl
theorem ent_29 : Ent Tryz.prog 29 := fun _ _ => by kernel_rfl
theorem ent_31 : Ent Tryz.prog 31 := fun _ _ => by kernel_rfl
theorem ent_38 : Ent Tryz.prog 38 := fun _ _ => by kernel_rfl
theorem ent_46 : Ent Tryz.prog 46 := fun _ _ => by kernel_rfl
theorem sl_22 : SL Tryz.prog 22 35 := Tryz.underlying22
theorem ti_35 : TI Tryz.prog 35 true 4 32 (.agg #[(.int .i64 0), (.int .i64 0), (.int .i64 0), (.int .i64 0)]) := ⟨by kernel_rfl, by kernel_rfl⟩

theorem EqualR_spec {w : World} {R : Hp} {v u : Value} {xs ys : List Str} (hR : Le R (hp w)) (hv : RdS Ty.str R v xs) (hu : RdS Ty.str R u ys) (hmax : xs.length ≤ 1000000) (hmay : ys.length ≤ 1000000) :
    Calls Tryz.prog 23 #[v, u] w fun e w' => e = .returned (.bool (decide (xs = ys))) ∧ Grow w w' := by
 have hst := Step.ro hR
 refine calls_of_W (n := 26) Tryz.func23 rfl Tryz.ntmps23 (Nat.le_of_ble_eq_true rfl) ?_
 refine W_seq ?_
 refine W_region_lit ?_
 refine Lq (.bool false) rfl rfl rfl rfl ?_
 refine L_nil ?_
 refine W_seq ?_
 refine W_seq ?_
 refine W_region_lit ?_
 refine Lq v rfl rfl rfl rfl ?_
 obtain ⟨a1, cap2, e3, hc4⟩ := hv.shape
 subst e3
 refine Lq (int (xs.length : Int)) rfl rfl rfl (x_len_slice rfl sl_42 rfl) ?_
 refine Lq u rfl rfl rfl rfl ?_
 obtain ⟨a5, cap6, e7, hc8⟩ := hu.shape
 subst e7
 refine Lq (int (ys.length : Int)) rfl rfl rfl (x_len_slice rfl sl_42 rfl) ?_
 refine Lq (.bool ((xs.length : Int) != (ys.length : Int))) rfl rfl rfl (by kernel_rfl) ?_
 refine L_nil ?_
 rcases Bool.eq_false_or_eq_true ((xs.length : Int) != (ys.length : Int)) with c9 | c9
 ·
  have q10 : ¬ (xs.length : Int) = (ys.length : Int) := by simpa using c9
  refine W_cond_true (by show Value.bool _ = _; exact congrArg Value.bool c9) ?_
  refine W_seq ?_
  refine W_region_lit ?_
  refine Lq (.bool false) rfl rfl rfl rfl ?_
  refine L_nil ?_
  refine W_ret ?_
  refine ⟨_, _, res_run (rs := [.tmp 4]) (vs := [(.bool false)]) Tryz.results23 (.cons (.tmp rfl) .nil) rfl, ?_⟩
  exact ⟨ret_bool (decide_eq_false (fun h => by have := congrArg List.length h; omega)).symm, hst.grow⟩
 ·
  have q11 : (xs.length : Int) = (ys.length : Int) := by simpa using c9
  refine W_cond_false (by show Value.bool _ = _; exact congrArg Value.bool c9) ?_
  refine W_skip ?_
  refine W_seq ?_
  refine W_seq ?_
  refine W_region_lit ?_
  refine Lq (int 0) rfl rfl rfl rfl ?_
  refine L_nil ?_
  refine W_block ?_
  refine W_loop (I := fun σ w_ m_ => ∃ (σ0 : Fr) (k : Nat), σ = upd (upd (upd (upd (upd (upd (upd (upd σ0 0 (.slice a1 xs.length cap2)) 1 (.slice a5 ys.length cap6)) 5 (int (k : Int))) 6 (.slice a1 xs.length cap2)) 7 (int (xs.length : Int))) 8 (.slice a5 ys.length cap6)) 9 (int (ys.length : Int))) 10 (.bool ((xs.length : Int) != (ys.length : Int))) ∧ mks (σ0 0) = [] ∧ Step w R [] w_ R [] ∧ k ≤ xs.length ∧ (∀ j, j < k → xs[j]? = ys[j]?) ∧ m_ = xs.length - k) (m := xs.length - 0) ?_ ?_
  ·
   exact ⟨_, 0, (upd_of (upd_of (upd_of (upd_of (upd_of (upd_of (upd_of (upd_of rfl rfl) rfl) rfl) rfl) rfl) rfl) rfl) rfl), rfl, hst, (by omega), (fun j h => absurd h (by omega)), rfl⟩
  ·
   rintro m20 σ_ w14 ⟨s18, k19, rfl, hmk12, hst13, hf16, hf17, rfl⟩
   refine W_seq ?_
   refine W_seq ?_
   refine W_region_lit ?_
   refine Lq (int (k19 : Int)) rfl rfl rfl rfl ?_
   refine Lq (.slice a1 xs.length cap2) rfl rfl rfl rfl ?_
   refine Lq (int (xs.length : Int)) rfl rfl rfl (x_len_slice rfl sl_42 rfl) ?_
   refine Lq (.bool (decide ((k19 : Int) < (xs.length : Int)))) rfl rfl rfl (by kernel_rfl) ?_
   refine L_nil ?_
   rcases Bool.eq_false_or_eq_true (decide ((k19 : Int) < (xs.length : Int))) with c21 | c21
   ·
    have q22 := of_decide_eq_true c21
    refine W_cond_true (by show Value.bool _ = _; exact congrArg Value.bool c21) ?_
    refine W_skip ?_
    refine W_seq ?_
    refine W_block ?_
    refine W_seq ?_
    refine W_region_draw [] (fun w => Le R (hp w)) hmix (by decide +kernel) (fun _ _ h => h) ?_
    have hst24 := hst13.draws (w14.drawn + 1)
    generalize draws w14 (w14.drawn + 1) = w23 at hst24 ⊢
    refine LP (.slice a1 xs.length cap2) 0 rfl rfl rfl (fun u26 => rfl) hst24.rle' ?_
    refine LP (int (k19 : Int)) 1 rfl rfl rfl (fun u29 => rfl) hst24.rle' ?_
    obtain ⟨b34, off35, cap36, cs37, T38, fz39, e40, hc41, hb42, he43⟩ := hv.open (by omega)
    cases e40
    obtain ⟨cl44, hs45, hr46⟩ := he43.at k19 (by omega)
    have hx47 : cl44 = [.string (xs[k19]'(by omega))] := hr46
    subst hx47
    refine LP (ptr b34 (off35 + k19 * 1)) 2 rfl rfl rfl (fun u32 => (x_indexAddr' rfl sl_42 ti_9 rfl rfl (by omega))) hst24.rle' ?_
    refine LT (.string (xs[k19]'(by omega))) 3 rfl rfl rfl (fun u49 hF50 => (x_load rfl rfl (run_loadVar_one ti_9 (hF50 _ _ hb42) (seg_get (j := 0) hs45 rfl)))) hst24.rle' ?_
    refine LP (.slice a5 ys.length cap6) 4 rfl rfl rfl (fun u52 => rfl) hst24.rle' ?_
    refine LP (int (k19 : Int)) 5 rfl rfl rfl (fun u55 => rfl) hst24.rle' ?_
    obtain ⟨b60, off61, cap62, cs63, T64, fz65, e66, hc67, hb68, he69⟩ := hu.open (by omega)
    cases e66
    obtain ⟨cl70, hs71, hr72⟩ := he69.at k19 (by omega)
    have hx73 : cl70 = [.string (ys[k19]'(by omega))] := hr72
    subst hx73
    refine LP (ptr b60 (off61 + k19 * 1)) 6 rfl rfl rfl (fun u58 => (x_indexAddr' rfl sl_42 ti_9 rfl rfl (by omega))) hst24.rle' ?_
    refine LT (.string (ys[k19]'(by omega))) 7 rfl rfl rfl (fun u75 hF76 => (x_load rfl rfl (run_loadVar_one ti_9 (hF76 _ _ hb68) (seg_get (j := 0) hs71 rfl)))) hst24.rle' ?_
    refine LP (.bool (!(decide ((xs[k19]'(by omega)) = (ys[k19]'(by omega)))))) 8 rfl rfl rfl (fun u78 => (x_neqD rfl rfl rfl)) hst24.rle' ?_
    refine LA_done (by decide +kernel) ?_
    rcases Bool.eq_false_or_eq_true (decide ((xs[k19]'(by omega)) = (ys[k19]'(by omega)))) with c80 | c80
    ·
     have q81 := of_decide_eq_true c80
     refine W_cond_false (by show Value.bool _ = _; exact congrArg Value.bool (by rw [c80]; rfl)) ?_
     refine W_skip ?_
     refine W_region_lit ?_
     refine Lq (int (k19 : Int)) rfl rfl rfl rfl ?_
     refine Lq (int ((k19 + 1 : Nat) : Int)) rfl rfl rfl (x_add_nat rfl rfl rfl (by omega)) ?_
     refine Lq (int ((k19 + 1 : Nat) : Int)) rfl rfl rfl rfl ?_
     refine L_nil ?_
     refine ⟨xs.length - (k19 + 1), by first | omega | (simp only [List.length_append, List.length_cons, List.length_nil]; omega), ?_⟩
     exact ⟨_, (k19 + 1), (upd_of (upd_of (upd_of (upd_of (upd_of (upd_of (upd_of (upd_of rfl rfl) rfl) rfl) rfl) rfl) rfl) rfl) rfl), hmk12, hst24, (by omega), (eqS_step hf17 (by omega) (by omega) (of_decide_eq_true c80)), rfl⟩
    ·
     have q82 := of_decide_eq_false c80
     refine W_cond_true (by show Value.bool _ = _; exact congrArg Value.bool (by rw [c80]; rfl)) ?_
     refine W_seq ?_
     refine W_region_lit ?_
     refine Lq (.bool false) rfl rfl rfl rfl ?_
     refine L_nil ?_
     refine W_ret ?_
     refine ⟨_, _, res_run (rs := [.tmp 4]) (vs := [(.bool false)]) Tryz.results23 (.cons (.tmp rfl) .nil) hmk12, ?_⟩
     exact ⟨ret_bool (decide_eq_false (eqS_not (by omega) (by omega) (of_decide_eq_false c80))).symm, hst24.grow⟩
   ·
    have q83 := of_decide_eq_false c21
    refine W_cond_false (by show Value.bool _ = _; exact congrArg Value.bool c21) ?_
    refine W_exit ?_
    refine W_seq ?_
    refine W_region_lit ?_
    refine Lq (.bool true) rfl rfl rfl rfl ?_
    refine L_nil ?_
    refine W_ret ?_
    refine ⟨_, _, res_run (rs := [.tmp 4]) (vs := [(.bool true)]) Tryz.results23 (.cons (.tmp rfl) .nil) hmk12, ?_⟩
    exact ⟨ret_bool (decide_eq_true (eqS_all (by omega) (by omega) hf17)).symm, hst13.grow⟩

theorem Name_spec {w : World} (n : Int) :
    Calls Tryz.prog 31 #[int n] w fun e w' => e = .returned (.string (nameOf n)) ∧ Grow w w' := by
 have hst := Step.ro (Le.refl (hp w))
 refine calls_of_W (n := 10) Tryz.func31 rfl Tryz.ntmps31 (Nat.le_of_ble_eq_true rfl) ?_
 refine W_seq ?_
 refine W_region_lit ?_
 refine Lq (.string ⟨#[]⟩) rfl rfl rfl rfl ?_
 refine L_nil ?_
 refine W_seq ?_
 refine W_region_lit ?_
 refine L_new hst (v := fun b => .slice (some ⟨b, 0, none⟩) 6 6) (ob := .cells #[(.string ⟨#[120]⟩), (.string ⟨#[121]⟩), (.string ⟨#[122]⟩), (.string ⟨#[119]⟩), (.string ⟨#[118]⟩), (.string ⟨#[]⟩)] 9 (0, 0)) rfl rfl rfl (by kernel_rfl) (fun b1 w2 hst3 => ?_)
 refine Lq (int n) rfl rfl rfl rfl ?_
 have hb4 := tmod_bd n (m := 6) (by omega)
 refine Lq (int (Int.tmod n 6)) rfl rfl rfl (x_rem rfl rfl rfl (by omega)) ?_
 refine Lq (int (Int.tmod n 6 + 6)) rfl rfl rfl (x_add rfl rfl rfl (by constructor <;> omega)) ?_
 have hb5 := kN_lt n (m := 6) (by omega)
 refine Lq (int (((kN 6 n) : Nat) : Int)) rfl rfl rfl (x_kN rfl rfl rfl (by omega)) ?_
 have hk6_ := kN_lt n (m := 6) (by omega)
 obtain ⟨k6, hk6⟩ : ∃ k_, k_ = kN 6 n := ⟨_, rfl⟩
 rw [← hk6] at hk6_ ⊢
 have h6 : k6 = 0 ∨ k6 = 1 ∨ k6 = 2 ∨ k6 = 3 ∨ k6 = 4 ∨ k6 = 5 := by omega
 rcases h6 with rfl | rfl | rfl | rfl | rfl | rfl
 ·
  refine Lq (ptr b1 0) rfl rfl rfl (x_indexAddr' (k := 0) (len := 6) rfl sl_42 ti_9 rfl rfl (by decide)) ?_
  refine Lq (.string ⟨#[120]⟩) rfl rfl rfl (x_load rfl rfl (run_loadVar_one ti_9 (hst3.b 0) rfl)) ?_
  refine Lq (.string ⟨#[120]⟩) rfl rfl rfl rfl ?_
  refine L_nil ?_
  refine W_ret ?_
  refine ⟨_, _, res_run (rs := [.tmp 2]) (vs := [(.string ⟨#[120]⟩)]) Tryz.results31 (.cons (.tmp rfl) .nil) rfl, ?_⟩
  exact ⟨ret_str (by unfold nameOf; rw [← hk6]; rfl), hst3.grow⟩
 ·
  refine Lq (ptr b1 1) rfl rfl rfl (x_indexAddr' (k := 1) (len := 6) rfl sl_42 ti_9 rfl rfl (by decide)) ?_
  refine Lq (.string ⟨#[121]⟩) rfl rfl rfl (x_load rfl rfl (run_loadVar_one ti_9 (hst3.b 0) rfl)) ?_
  refine Lq (.string ⟨#[121]⟩) rfl rfl rfl rfl ?_
  refine L_nil ?_
  refine W_ret ?_
  refine ⟨_, _, res_run (rs := [.tmp 2]) (vs := [(.string ⟨#[121]⟩)]) Tryz.results31 (.cons (.tmp rfl) .nil) rfl, ?_⟩
  exact ⟨ret_str (by unfold nameOf; rw [← hk6]; rfl), hst3.grow⟩
 ·
  refine Lq (ptr b1 2) rfl rfl rfl (x_indexAddr' (k := 2) (len := 6) rfl sl_42 ti_9 rfl rfl (by decide)) ?_
  refine Lq (.string ⟨#[122]⟩) rfl rfl rfl (x_load rfl rfl (run_loadVar_one ti_9 (hst3.b 0) rfl)) ?_
  refine Lq (.string ⟨#[122]⟩) rfl rfl rfl rfl ?_
  refine L_nil ?_
  refine W_ret ?_
  refine ⟨_, _, res_run (rs := [.tmp 2]) (vs := [(.string ⟨#[122]⟩)]) Tryz.results31 (.cons (.tmp rfl) .nil) rfl, ?_⟩
  exact ⟨ret_str (by unfold nameOf; rw [← hk6]; rfl), hst3.grow⟩
 ·
  refine Lq (ptr b1 3) rfl rfl rfl (x_indexAddr' (k := 3) (len := 6) rfl sl_42 ti_9 rfl rfl (by decide)) ?_
  refine Lq (.string ⟨#[119]⟩) rfl rfl rfl (x_load rfl rfl (run_loadVar_one ti_9 (hst3.b 0) rfl)) ?_
  refine Lq (.string ⟨#[119]⟩) rfl rfl rfl rfl ?_
  refine L_nil ?_
  refine W_ret ?_
  refine ⟨_, _, res_run (rs := [.tmp 2]) (vs := [(.string ⟨#[119]⟩)]) Tryz.results31 (.cons (.tmp rfl) .nil) rfl, ?_⟩
  exact ⟨ret_str (by unfold nameOf; rw [← hk6]; rfl), hst3.grow⟩
 ·
  refine Lq (ptr b1 4) rfl rfl rfl (x_indexAddr' (k := 4) (len := 6) rfl sl_42 ti_9 rfl rfl (by decide)) ?_
  refine Lq (.string ⟨#[118]⟩) rfl rfl rfl (x_load rfl rfl (run_loadVar_one ti_9 (hst3.b 0) rfl)) ?_
  refine Lq (.string ⟨#[118]⟩) rfl rfl rfl rfl ?_
  refine L_nil ?_
  refine W_ret ?_
  refine ⟨_, _, res_run (rs := [.tmp 2]) (vs := [(.string ⟨#[118]⟩)]) Tryz.results31 (.cons (.tmp rfl) .nil) rfl, ?_⟩
  exact ⟨ret_str (by unfold nameOf; rw [← hk6]; rfl), hst3.grow⟩
 ·
  refine Lq (ptr b1 5) rfl rfl rfl (x_indexAddr' (k := 5) (len := 6) rfl sl_42 ti_9 rfl rfl (by decide)) ?_
  refine Lq (.string ⟨#[]⟩) rfl rfl rfl (x_load rfl rfl (run_loadVar_one ti_9 (hst3.b 0) rfl)) ?_
  refine Lq (.string ⟨#[]⟩) rfl rfl rfl rfl ?_
  refine L_nil ?_
  refine W_ret ?_
  refine ⟨_, _, res_run (rs := [.tmp 2]) (vs := [(.string ⟨#[]⟩)]) Tryz.results31 (.cons (.tmp rfl) .nil) rfl, ?_⟩
  exact ⟨ret_str (by unfold nameOf; rw [← hk6]; rfl), hst3.grow⟩

theorem Classes_spec {w : World} {R : Hp} (n : Int) (hs : Sats w R []) :
    Calls Tryz.prog 12 #[int n] w (Comes' w R [] fun v' R' L' => L' = [] ∧ RdS tyCls R' v' (clsOf n)) := by
 have hst := Step.refl hs
 refine calls_of_W (n := 17) Tryz.func12 rfl Tryz.ntmps12 (Nat.le_of_ble_eq_true rfl) ?_
 refine W_seq ?_
 refine W_region_lit ?_
 refine Lq (.slice none 0 0) rfl rfl rfl rfl ?_
 refine L_nil ?_
 refine W_seq ?_
 refine W_region_lit ?_
 refine L_new hst (v := fun b => .slice (some ⟨b, 0, none⟩) 1 1) (ob := .cells #[(.string ⟨#[120]⟩)] 9 (0, 0)) rfl rfl rfl (by kernel_rfl) (fun b1 w2 hst3 => ?_)
 refine Lq (.agg #[(.string ⟨#[80]⟩), (.slice (some ⟨b1, 0, none⟩) 1 1), (.slice none 0 0)]) rfl rfl rfl (by kernel_rfl) ?_
 refine Lq (.agg #[(.string ⟨#[81]⟩), (.slice none 0 0), (.slice none 0 0)]) rfl rfl rfl (by kernel_rfl) ?_
 refine L_new hst3 (v := fun b => .slice (some ⟨b, 0, none⟩) 1 1) (ob := .cells #[(.string ⟨#[120]⟩)] 9 (0, 0)) rfl rfl rfl (by kernel_rfl) (fun b4 w5 hst6 => ?_)
 refine Lq (.agg #[(.string ⟨#[82]⟩), (.slice (some ⟨b4, 0, none⟩) 1 1), (.slice none 0 0)]) rfl rfl rfl (by kernel_rfl) ?_
 refine L_new hst6 (v := fun b => .slice (some ⟨b, 0, none⟩) 3 3) (ob := .cells #[(.string ⟨#[80]⟩), (.slice (some ⟨b1, 0, none⟩) 1 1), (.slice none 0 0), (.string ⟨#[81]⟩), (.slice none 0 0), (.slice none 0 0), (.string ⟨#[82]⟩), (.slice (some ⟨b4, 0, none⟩) 1 1), (.slice none 0 0)] 48 (0, 0)) rfl rfl rfl (by kernel_rfl) (fun b7 w8 hst9 => ?_)
 refine Lq (.slice (some ⟨b7, 0, none⟩) 3 3) rfl rfl rfl rfl ?_
 refine L_nil ?_
 refine W_seq ?_
 refine W_region_lit ?_
 refine Lq (.slice (some ⟨b7, 0, none⟩) 3 3) rfl rfl rfl rfl ?_
 refine Lq (int n) rfl rfl rfl rfl ?_
 have hb10 := tmod_bd n (m := 3) (by omega)
 refine Lq (int (Int.tmod n 3)) rfl rfl rfl (x_rem rfl rfl rfl (by omega)) ?_
 refine Lq (int (Int.tmod n 3 + 3)) rfl rfl rfl (x_add rfl rfl rfl (by constructor <;> omega)) ?_
 have hb11 := kN_lt n (m := 3) (by omega)
 refine Lq (int (((kN 3 n) : Nat) : Int)) rfl rfl rfl (x_kN rfl rfl rfl (by omega)) ?_
 refine Lq (int ((1 + (kN 3 n) : Nat) : Int)) rfl rfl rfl (x_add_nat rfl rfl rfl (by omega)) ?_
 obtain ⟨R12, hst13, hle14, hc15⟩ := Step.frz (hst9.front 2 rfl rfl)
 have hrd16 : RdS Ty.str R12 (.slice (some ⟨b1, 0, none⟩) 1 1) [(⟨#[120]⟩ : Str)] := OwnL.freeze (R := _) (T := 9) (OwnL.lit (cs := [(.string ⟨#[120]⟩)]) (str_mk _ _) rfl (by decide)) (Le.refl _) hc15
 obtain ⟨R17, hst18, hle19, hc20⟩ := Step.frz (hst13.front 1 rfl rfl)
 have hrd21 : RdS Ty.str R17 (.slice (some ⟨b4, 0, none⟩) 1 1) [(⟨#[120]⟩ : Str)] := OwnL.freeze (R := _) (T := 9) (OwnL.lit (cs := [(.string ⟨#[120]⟩)]) (str_mk _ _) rfl (by decide)) (Le.refl _) hc20
 obtain ⟨R22, hst23, hle24, hc25⟩ := Step.frz hst18
 have hrd26 : RdS tyCls R22 (.slice (some ⟨b7, 0, none⟩) 3 3) cls3 := OwnL.freeze (R := R22) (T := 48) (OwnL.lit (cs := [(.string ⟨#[80]⟩), (.slice (some ⟨b1, 0, none⟩) 1 1), (.slice none 0 0), (.string ⟨#[81]⟩), (.slice none 0 0), (.slice none 0 0), (.string ⟨#[82]⟩), (.slice (some ⟨b4, 0, none⟩) 1 1), (.slice none 0 0)]) (Encs.cons (tyCls_mk (RdS.mono hrd16 (Le.trans hle19 hle24))) (Encs.cons (tyCls_mk (fs := []) (RdS.nilv _ _)) (Encs.one (tyCls_mk (RdS.mono hrd21 hle24))))) rfl (by decide)) (Le.refl _) hc25
 have hrd27 := RdS.takeK (k := (1 + (kN 3 n))) (xs := cls3) hrd26 (by have h_ := kN3 n; have : cls3.length = 3 := rfl; omega)
 have hk3 := kN3 n
 refine Lq (.slice (some ⟨b7, 0, none⟩) (1 + (kN 3 n)) 3) rfl rfl rfl (x_slice sl_26 rfl rfl (run_sliceHi sl_26 ti_48 (by omega))) ?_
 refine Lq (.slice (some ⟨b7, 0, none⟩) (1 + (kN 3 n)) 3) rfl rfl rfl rfl ?_
 refine L_nil ?_
 refine W_ret ?_
 refine ⟨_, _, res_run (rs := [.tmp 2]) (vs := [(.slice (some ⟨b7, 0, none⟩) (1 + (kN 3 n)) 3)]) Tryz.results12 (.cons (.tmp rfl) .nil) rfl, ?_⟩
 exact ⟨_, _, _, rfl, hst23, rfl, hrd27⟩

theorem Some_spec {w : World} {R : Hp} (x : Int) (hs : Sats w R []) :
    Calls Tryz.prog 46 #[int x] w (Comes' w R [] fun v' R' L' => ∃ c', L' = [c'] ∧ OwnL Ty.str 9 R' v' (someL x) c') := by
 have hst := Step.refl hs
 refine calls_of_W (n := 18) Tryz.func46 rfl Tryz.ntmps46 (Nat.le_of_ble_eq_true rfl) ?_
 refine W_seq ?_
 refine W_region_lit ?_
 refine Lq (.slice none 0 0) rfl rfl rfl rfl ?_
 refine L_nil ?_
 refine W_seq ?_
 refine W_region_lit ?_
 refine Lq (.slice none 0 0) rfl rfl rfl rfl ?_
 refine L_nil ?_
 refine W_seq ?_
 refine W_seq ?_
 have ho1 : OwnL Ty.str 9 R (.slice none 0 0) ([] : List Str) non := OwnL.empty _ _ _
 have hst2 := hst.nothing
 refine W_region_lit ?_
 refine Lq (int x) rfl rfl rfl rfl ?_
 have hb3 := tmod_bd x (m := 216) (by omega)
 refine Lq (int (Int.tmod x 216)) rfl rfl rfl (x_rem rfl rfl rfl (by omega)) ?_
 refine Lq (int (Int.tmod x 216 + 216)) rfl rfl rfl (x_add rfl rfl rfl (by constructor <;> omega)) ?_
 have hb4 := kN_lt x (m := 216) (by omega)
 refine Lq (int (((kN 216 x) : Nat) : Int)) rfl rfl rfl (x_kN rfl rfl rfl (by omega)) ?_
 refine Lq (int (((kN 216 x) : Nat) : Int)) rfl rfl rfl rfl ?_
 refine L_nil ?_
 refine W_block ?_
 refine W_loop (I := fun σ w_ m_ => ∃ (σ0 : Fr) (R_ : Hp) (k_ : Nat) (v_ : Value) (o_ : List Str) (cO : Hp), σ = upd (upd (upd (upd (upd (upd (upd σ0 0 (int (k_ : Int))) 2 (.slice none 0 0)) 3 v_) 4 (int x)) 5 (int (Int.tmod x 216))) 6 (int (Int.tmod x 216 + 216))) 7 (int (((kN 216 x) : Nat) : Int)) ∧ mks (σ0 0) = [] ∧ Step w R [] w_ R_ [cO] ∧ Le R R_ ∧ OwnL Ty.str 9 R_ v_ o_ cO ∧ o_ ++ someN k_ = someL x ∧ k_ ≤ 216 ∧ m_ = (k_ + 1)) (m := ((kN 216 x) + 1)) ?_ ?_
 ·
  exact ⟨_, _, (kN 216 x), (.slice none 0 0), [], non, (upd_of (upd_of (upd_of (upd_of (upd_of (upd_of (upd_of rfl rfl) rfl) rfl) rfl) rfl) rfl) rfl), rfl, hst2, Le.refl _, ho1, rfl, (by omega), rfl⟩
 ·
  rintro m18 σ_ w7 ⟨s12, R13, k_14, v_15, o_16, cO17, rfl, hmk5, hst6, hle8, hi9, hf10, hf11, rfl⟩
  have hol := someL_len x
  rw [← hf10, List.length_append] at hol
  refine W_seq ?_
  refine W_seq ?_
  refine W_region_lit ?_
  refine Lq (int (k_14 : Int)) rfl rfl rfl rfl ?_
  refine Lq (.bool (decide ((k_14 : Int) > 0))) rfl rfl rfl (by kernel_rfl) ?_
  refine L_nil ?_
  rcases Bool.eq_false_or_eq_true (decide ((k_14 : Int) > 0)) with c19 | c19
  ·
   have q20 := of_decide_eq_true c19
   refine W_cond_true (by show Value.bool _ = _; exact congrArg Value.bool c19) ?_
   refine W_skip ?_
   refine W_seq ?_
   refine W_block ?_
   refine W_region_lit ?_
   refine Lq v_15 rfl rfl rfl rfl ?_
   refine Lq (int (k_14 : Int)) rfl rfl rfl rfl ?_
   refine L_callG hst6 (v := (.string (nameOf (k_14 : Int)))) rfl rfl rfl (x_call (vs := #[(int (k_14 : Int))]) rfl rfl (by kernel_rfl) ent_31) (Name_spec (k_14 : Int)) (fun w21 hst22 => ?_)
   refine L_new hst22 (v := fun b => .slice (some ⟨b, 0, none⟩) 1 1) (ob := .cells #[(.string (nameOf (k_14 : Int)))] 9 (0, 0)) rfl rfl rfl (by kernel_rfl) (fun b23 w24 hst25 => ?_)
   refine L_append hst25 (t := 42) (e := 9) (ys := [(nameOf (k_14 : Int))]) (src := [(.string (nameOf (k_14 : Int)))]) 1 rfl rfl rfl rfl rfl rfl sl_42 ti_9 rfl rfl rfl hi9 (src_own (hst25.b 0)) (str_mk _ _) rfl (by first | omega | (simp only [List.length_append, List.length_cons, List.length_nil]; omega)) (by first | (simp only [maxLen]; omega) | (simp only [List.length_append, List.length_cons, List.length_nil, maxLen]; omega)) (fun v26 c27 w28 ho29 hst30 => ?_)
   refine Lq v26 rfl rfl rfl rfl ?_
   refine L_nil ?_
   refine W_region_lit ?_
   refine Lq (int (k_14 : Int)) rfl rfl rfl rfl ?_
   refine Lq (int (((k_14 / 6) : Nat) : Int)) rfl rfl rfl (x_quo6 rfl rfl rfl (by omega)) ?_
   refine Lq (int (((k_14 / 6) : Nat) : Int)) rfl rfl rfl rfl ?_
   refine L_nil ?_
   refine ⟨((k_14 / 6) + 1), by first | omega | (simp only [List.length_append, List.length_cons, List.length_nil]; omega), ?_⟩
   exact ⟨_, _, (k_14 / 6), v26, (o_16 ++ [(nameOf (k_14 : Int))]), c27, (upd_of (upd_of (upd_of (upd_of (upd_of (upd_of (upd_of rfl rfl) rfl) rfl) rfl) rfl) rfl) rfl), hmk5, (hst30.keepN 1 rfl), hle8, ho29, (someN_app (by omega) hf10), (by omega), rfl⟩
  ·
   have q31 := of_decide_eq_false c19
   refine W_cond_false (by show Value.bool _ = _; exact congrArg Value.bool c19) ?_
   refine W_exit ?_
   refine W_seq ?_
   refine W_region_lit ?_
   refine Lq v_15 rfl rfl rfl rfl ?_
   refine Lq v_15 rfl rfl rfl rfl ?_
   refine L_nil ?_
   refine W_ret ?_
   refine ⟨_, _, res_run (rs := [.tmp 2]) (vs := [v_15]) Tryz.results46 (.cons (.tmp rfl) .nil) hmk5, ?_⟩
   have hk0_ : k_14 = 0 := by omega
   have he_ := hf10
   rw [hk0_, someN_zero, List.append_nil] at he_
   exact ⟨_, _, _, rfl, (hst6).keepN 1 rfl, _, rfl, by rw [← he_]; exact hi9⟩

set_option maxHeartbeats 1000000 in
theorem do_spec {w : World} {R c : Hp} {p : Nat} {s : TS} (a : Ac) (n : Nat) (hs : Sats w R [c]) (htree : Tree R p s c) (hmx : s.nodes.length ≤ 900000) (hn : n ≤ 1000000) :
    Calls Tryz.prog 16 #[ptr p 0, .agg #[int a.what, int a.x, int a.y, int a.nm], int (n : Int)] w (Comes' w R [c] fun v' R' L' => ∃ c', v' = .tuple #[int (s.act a n).1, int (s.act a n).2.1] ∧ L' = [c'] ∧ Tree R' p (s.act a n).2.2 c') := by
 have hst := Step.refl hs
 refine calls_of_W (n := 77) Tryz.func16 rfl Tryz.ntmps16 (Nat.le_of_ble_eq_true rfl) ?_
 refine W_seq ?_
 refine W_region_lit ?_
 refine L_new hst (v := fun b => ptr b 0) (ob := .cells #[(int a.what), (int a.x), (int a.y), (int a.nm)] 35 (0, 0)) rfl rfl rfl (by kernel_rfl) (fun b1 w2 hst3 => ?_)
 refine Lq (int 0) rfl rfl rfl rfl ?_
 refine Lq (int 0) rfl rfl rfl rfl ?_
 refine L_nil ?_
 refine W_seq ?_
 refine W_region_lit ?_
 refine Lq (int (n : Int)) rfl rfl rfl rfl ?_
 refine Lq (int ((n + 1 : Nat) : Int)) rfl rfl rfl (x_add_nat rfl rfl rfl (by omega)) ?_
 refine Lq (int ((n + 1 : Nat) : Int)) rfl rfl rfl rfl ?_
 refine L_nil ?_
 refine W_seq ?_
 refine W_region_draw [] (fun w => Le R (hp w) ∧ Le (one b1 (.cells #[(int a.what), (int a.x), (int a.y), (int a.nm)] 35 (0, 0))) (hp w) ∧ Le c (hp w)) hmix (by decide +kernel) (fun _ _ h => h) ?_
 have hst5 := hst3.draws (w2.drawn + 1)
 generalize draws w2 (w2.drawn + 1) = w4 at hst5 ⊢
 refine LP (ptr b1 1) 0 rfl rfl rfl (fun u7 => (by kernel_rfl)) hst5.a2 ?_
 refine LT (int a.x) 1 rfl rfl rfl (fun u10 hF11 => (x_load rfl rfl (run_loadVar_one ti_3 (hF11.2.1 _ _ (one_self _ _)) rfl))) hst5.a2 ?_
 refine LP (int ((n + 1 : Nat) : Int)) 2 rfl rfl rfl (fun u13 => rfl) hst5.a2 ?_
 have hb18 := tmod_bd a.x (m := ((n + 1 : Nat) : Int)) (by omega)
 refine LP (int (Int.tmod a.x ((n + 1 : Nat) : Int))) 3 rfl rfl rfl (fun u16 => (x_rem rfl rfl rfl (by omega))) hst5.a2 ?_
 refine LP (int ((n + 1 : Nat) : Int)) 4 rfl rfl rfl (fun u20 => rfl) hst5.a2 ?_
 refine LP (int (Int.tmod a.x ((n + 1 : Nat) : Int) + ((n + 1 : Nat) : Int))) 5 rfl rfl rfl (fun u23 => (x_add rfl rfl rfl (by constructor <;> omega))) hst5.a2 ?_
 refine LP (int ((n + 1 : Nat) : Int)) 6 rfl rfl rfl (fun u26 => rfl) hst5.a2 ?_
 have hb31 := kN_lt a.x (m := ((n + 1 : Nat) : Int)) (by omega)
 refine LP (int (((kN ((n + 1 : Nat) : Int) a.x) : Nat) : Int)) 7 rfl rfl rfl (fun u29 => (x_kN rfl rfl rfl (by omega))) hst5.a2 ?_
 refine LP (int ((((kN ((n + 1 : Nat) : Int) a.x) : Nat) : Int) - 1)) 8 rfl rfl rfl (fun u33 => (x_sub rfl rfl rfl (by constructor <;> omega))) hst5.a2 ?_
 refine LP (ptr b1 2) 9 rfl rfl rfl (fun u36 => (by kernel_rfl)) hst5.a2 ?_
 refine LT (int a.y) 10 rfl rfl rfl (fun u39 hF40 => (x_load rfl rfl (run_loadVar_one ti_3 (hF40.2.1 _ _ (one_self _ _)) rfl))) hst5.a2 ?_
 have hb44 := and1_bd a.y
 refine LP (int (and1 a.y)) 11 rfl rfl rfl (fun u42 => (x_and1 rfl rfl rfl)) hst5.a2 ?_
 refine LP (int ((((kN ((n + 1 : Nat) : Int) a.x) : Nat) : Int) - 1 + and1 a.y)) 12 rfl rfl rfl (fun u46 => (x_add rfl rfl rfl (by constructor <;> omega))) hst5.a2 ?_
 refine LP (int ((((kN ((n + 1 : Nat) : Int) a.x) : Nat) : Int) - 1 + and1 a.y)) 13 rfl rfl rfl (fun u49 => rfl) hst5.a2 ?_
 refine LA_done (by decide +kernel) ?_
 refine W_seq ?_
 refine W_region_draw [] (fun w => Le R (hp w) ∧ Le (one b1 (.cells #[(int a.what), (int a.x), (int a.y), (int a.nm)] 35 (0, 0))) (hp w) ∧ Le c (hp w)) hmix (by decide +kernel) (fun _ _ h => h) ?_
 have hst52 := hst5.draws (w4.drawn + 1)
 generalize draws w4 (w4.drawn + 1) = w51 at hst52 ⊢
 refine LP (ptr b1 2) 0 rfl rfl rfl (fun u54 => (by kernel_rfl)) hst52.a2 ?_
 refine LT (int a.y) 1 rfl rfl rfl (fun u57 hF58 => (x_load rfl rfl (run_loadVar_one ti_3 (hF58.2.1 _ _ (one_self _ _)) rfl))) hst52.a2 ?_
 refine LP (int ((n + 1 : Nat) : Int)) 2 rfl rfl rfl (fun u60 => rfl) hst52.a2 ?_
 have hb65 := tmod_bd a.y (m := ((n + 1 : Nat) : Int)) (by omega)
 refine LP (int (Int.tmod a.y ((n + 1 : Nat) : Int))) 3 rfl rfl rfl (fun u63 => (x_rem rfl rfl rfl (by omega))) hst52.a2 ?_
 refine LP (int ((n + 1 : Nat) : Int)) 4 rfl rfl rfl (fun u67 => rfl) hst52.a2 ?_
 refine LP (int (Int.tmod a.y ((n + 1 : Nat) : Int) + ((n + 1 : Nat) : Int))) 5 rfl rfl rfl (fun u70 => (x_add rfl rfl rfl (by constructor <;> omega))) hst52.a2 ?_
 refine LP (int ((n + 1 : Nat) : Int)) 6 rfl rfl rfl (fun u73 => rfl) hst52.a2 ?_
 have hb78 := kN_lt a.y (m := ((n + 1 : Nat) : Int)) (by omega)
 refine LP (int (((kN ((n + 1 : Nat) : Int) a.y) : Nat) : Int)) 7 rfl rfl rfl (fun u76 => (x_kN rfl rfl rfl (by omega))) hst52.a2 ?_
 refine LP (int ((((kN ((n + 1 : Nat) : Int) a.y) : Nat) : Int) - 1)) 8 rfl rfl rfl (fun u80 => (x_sub rfl rfl rfl (by constructor <;> omega))) hst52.a2 ?_
 refine LP (ptr b1 1) 9 rfl rfl rfl (fun u83 => (by kernel_rfl)) hst52.a2 ?_
 refine LT (int a.x) 10 rfl rfl rfl (fun u86 hF87 => (x_load rfl rfl (run_loadVar_one ti_3 (hF87.2.1 _ _ (one_self _ _)) rfl))) hst52.a2 ?_
 have hb91 := and1_bd a.x
 refine LP (int (and1 a.x)) 11 rfl rfl rfl (fun u89 => (x_and1 rfl rfl rfl)) hst52.a2 ?_
 refine LP (int ((((kN ((n + 1 : Nat) : Int) a.y) : Nat) : Int) - 1 + and1 a.x)) 12 rfl rfl rfl (fun u93 => (x_add rfl rfl rfl (by constructor <;> omega))) hst52.a2 ?_
 refine LP (int ((((kN ((n + 1 : Nat) : Int) a.y) : Nat) : Int) - 1 + and1 a.x)) 13 rfl rfl rfl (fun u96 => rfl) hst52.a2 ?_
 refine LA_done (by decide +kernel) ?_
 refine W_seq ?_
 refine W_seq ?_
 refine W_region_lit ?_
 refine Lq (ptr b1 0) rfl rfl rfl (by kernel_rfl) ?_
 refine Lq (int a.what) rfl rfl rfl (x_load rfl rfl (run_loadVar_one ti_3 (hst52.b 0) rfl)) ?_
 have hb98 := tmod_bd a.what (m := 7) (by omega)
 refine Lq (int (Int.tmod a.what 7)) rfl rfl rfl (x_rem rfl rfl rfl (by omega)) ?_
 refine Lq (int (Int.tmod a.what 7 + 7)) rfl rfl rfl (x_add rfl rfl rfl (by constructor <;> omega)) ?_
 have hb99 := kN_lt a.what (m := 7) (by omega)
 refine Lq (int (((kN 7 a.what) : Nat) : Int)) rfl rfl rfl (x_kN rfl rfl rfl (by omega)) ?_
 refine L_nil ?_
 refine W_block ?_
 refine W_seq ?_
 refine W_region_lit ?_
 refine Lq (.bool ((((kN 7 a.what) : Nat) : Int) == 4)) rfl rfl rfl (by kernel_rfl) ?_
 refine Lq (.bool ((((kN 7 a.what) : Nat) : Int) == 4)) rfl rfl rfl rfl ?_
 refine L_nil ?_
 rcases Bool.eq_false_or_eq_true ((((kN 7 a.what) : Nat) : Int) == 4) with c100 | c100
 ·
  have q101 := eq_of_beq c100
  refine W_cond_true (by show Value.bool _ = _; exact congrArg Value.bool c100) ?_
  refine W_seq ?_
  refine W_region_lit ?_
  refine Lq (ptr p 0) rfl rfl rfl rfl ?_
  refine Lq (int ((((kN ((n + 1 : Nat) : Int) a.x) : Nat) : Int) - 1 + and1 a.y)) rfl rfl rfl rfl ?_
  refine Lq (int ((((kN ((n + 1 : Nat) : Int) a.y) : Nat) : Int) - 1 + and1 a.x)) rfl rfl rfl rfl ?_
  have hst102 := (hst52.front 1 rfl rfl)
  refine L_callS [c] [one b1 (.cells #[(int a.what), (int a.x), (int a.y), (int a.nm)] 35 (0, 0))] hst102 rfl rfl rfl (x_call (vs := #[(ptr p 0), (int ((((kN ((n + 1 : Nat) : Int) a.x) : Nat) : Int) - 1 + and1 a.y)), (int ((((kN ((n + 1 : Nat) : Int) a.y) : Nat) : Int) - 1 + and1 a.x))]) rfl rfl (by kernel_rfl) ent_27) (Merge_spec ((((kN ((n + 1 : Nat) : Int) a.x) : Nat) : Int) - 1 + and1 a.y) ((((kN ((n + 1 : Nat) : Int) a.y) : Nat) : Int) - 1 + and1 a.x) (hst102.sats.take 1 rfl) htree) (fun v103 w104 R105 L106 hp107 hle108 hst109 => ?_)
  obtain ⟨c110, rfl, rfl, htr111⟩ := hp107
  refine Lq (int 0) rfl rfl rfl rfl ?_
  refine Lq (int ((s.merge ((((kN ((n + 1 : Nat) : Int) a.x) : Nat) : Int) - 1 + and1 a.y) ((((kN ((n + 1 : Nat) : Int) a.y) : Nat) : Int) - 1 + and1 a.x)).1)) rfl rfl rfl rfl ?_
  refine L_nil ?_
  refine W_ret ?_
  refine ⟨_, _, res_run (rs := [.tmp 6, .tmp 7]) (vs := [(int 0), (int ((s.merge ((((kN ((n + 1 : Nat) : Int) a.x) : Nat) : Int) - 1 + and1 a.y) ((((kN ((n + 1 : Nat) : Int) a.y) : Nat) : Int) - 1 + and1 a.x)).1))]) Tryz.results16 (.cons (.tmp rfl) (.cons (.tmp rfl) .nil)) rfl, ?_⟩
  have he := act_merge (s := s) (a := a) (n := n) (eq_of_beq c100)
  rw [he]
  exact ⟨_, _, _, rfl, (hst109).keepN 1 rfl, _, rfl, rfl, htr111⟩
 ·
  have q112 := ne_of_beq_false c100
  refine W_cond_false (by show Value.bool _ = _; exact congrArg Value.bool c100) ?_
  refine W_seq ?_
  refine W_region_lit ?_
  refine Lq (.bool ((((kN 7 a.what) : Nat) : Int) == 5)) rfl rfl rfl (by kernel_rfl) ?_
  refine Lq (.bool ((((kN 7 a.what) : Nat) : Int) == 5)) rfl rfl rfl rfl ?_
  refine L_nil ?_
  rcases Bool.eq_false_or_eq_true ((((kN 7 a.what) : Nat) : Int) == 5) with c113 | c113
  ·
   have q114 := eq_of_beq c113
   refine W_cond_true (by show Value.bool _ = _; exact congrArg Value.bool c113) ?_
   refine W_seq ?_
   refine W_region_lit ?_
   refine Lq (ptr p 0) rfl rfl rfl rfl ?_
   refine Lq (int ((((kN ((n + 1 : Nat) : Int) a.x) : Nat) : Int) - 1 + and1 a.y)) rfl rfl rfl rfl ?_
   have hst115 := (hst52.front 1 rfl rfl)
   refine L_callS [c] [one b1 (.cells #[(int a.what), (int a.x), (int a.y), (int a.nm)] 35 (0, 0))] hst115 rfl rfl rfl (x_call (vs := #[(ptr p 0), (int ((((kN ((n + 1 : Nat) : Int) a.x) : Nat) : Int) - 1 + and1 a.y))]) rfl rfl (by kernel_rfl) ent_38) (Split_spec ((((kN ((n + 1 : Nat) : Int) a.x) : Nat) : Int) - 1 + and1 a.y) (hst115.sats.take 1 rfl) htree (by omega)) (fun v116 w117 R118 L119 hp120 hle121 hst122 => ?_)
   obtain ⟨c123, rfl, rfl, htr124⟩ := hp120
   refine Lq (int ((s.split ((((kN ((n + 1 : Nat) : Int) a.x) : Nat) : Int) - 1 + and1 a.y)).1)) rfl rfl rfl (by kernel_rfl) ?_
   refine Lq (int ((s.split ((((kN ((n + 1 : Nat) : Int) a.x) : Nat) : Int) - 1 + and1 a.y)).2.1)) rfl rfl rfl (by kernel_rfl) ?_
   refine Lq (int ((s.split ((((kN ((n + 1 : Nat) : Int) a.x) : Nat) : Int) - 1 + and1 a.y)).1)) rfl rfl rfl rfl ?_
   refine Lq (int ((s.split ((((kN ((n + 1 : Nat) : Int) a.x) : Nat) : Int) - 1 + and1 a.y)).2.1)) rfl rfl rfl rfl ?_
   refine L_nil ?_
   refine W_ret ?_
   refine ⟨_, _, res_run (rs := [.tmp 6, .tmp 7]) (vs := [(int ((s.split ((((kN ((n + 1 : Nat) : Int) a.x) : Nat) : Int) - 1 + and1 a.y)).1)), (int ((s.split ((((kN ((n + 1 : Nat) : Int) a.x) : Nat) : Int) - 1 + and1 a.y)).2.1))]) Tryz.results16 (.cons (.tmp rfl) (.cons (.tmp rfl) .nil)) rfl, ?_⟩
   have he := act_split (s := s) (a := a) (n := n) (ne_of_beq_false c100) (eq_of_beq c113)
   rw [he]
   exact ⟨_, _, _, rfl, (hst122).keepN 1 rfl, _, rfl, rfl, htr124⟩
  ·
   have q125 := ne_of_beq_false c113
   refine W_cond_false (by show Value.bool _ = _; exact congrArg Value.bool c113) ?_
   refine W_seq ?_
   refine W_region_lit ?_
   refine Lq (.bool ((((kN 7 a.what) : Nat) : Int) == 6)) rfl rfl rfl (by kernel_rfl) ?_
   refine Lq (.bool ((((kN 7 a.what) : Nat) : Int) == 6)) rfl rfl rfl rfl ?_
   refine L_nil ?_
   rcases Bool.eq_false_or_eq_true ((((kN 7 a.what) : Nat) : Int) == 6) with c126 | c126
   ·
    have q127 := eq_of_beq c126
    refine W_cond_true (by show Value.bool _ = _; exact congrArg Value.bool c126) ?_
    refine W_seq ?_
    refine W_region_draw [] (fun w => Le R (hp w) ∧ Le (one b1 (.cells #[(int a.what), (int a.x), (int a.y), (int a.nm)] 35 (0, 0))) (hp w)) hmix (by decide +kernel) (fun _ _ h => h) ?_
    have hst129 := hst52.draws (w51.drawn + 1)
    generalize draws w51 (w51.drawn + 1) = w128 at hst129 ⊢
    refine LP (ptr p 0) 0 rfl rfl rfl (fun u131 => rfl) ⟨hst129.rle', hst129.g 0⟩ ?_
    refine LP (ptr b1 2) 1 rfl rfl rfl (fun u134 => (by kernel_rfl)) ⟨hst129.rle', hst129.g 0⟩ ?_
    refine LT (int a.y) 2 rfl rfl rfl (fun u137 hF138 => (x_load rfl rfl (run_loadVar_one ti_3 (hF138.2 _ _ (one_self _ _)) rfl))) ⟨hst129.rle', hst129.g 0⟩ ?_
    have hb142 := tmod_bd a.y (m := 3) (by omega)
    refine LP (int (Int.tmod a.y 3)) 3 rfl rfl rfl (fun u140 => (x_rem rfl rfl rfl (by omega))) ⟨hst129.rle', hst129.g 0⟩ ?_
    refine LP (ptr b1 1) 4 rfl rfl rfl (fun u144 => (by kernel_rfl)) ⟨hst129.rle', hst129.g 0⟩ ?_
    refine LT (int a.x) 5 rfl rfl rfl (fun u147 hF148 => (x_load rfl rfl (run_loadVar_one ti_3 (hF148.2 _ _ (one_self _ _)) rfl))) ⟨hst129.rle', hst129.g 0⟩ ?_
    refine LA_all [6] (by decide +kernel) (by simp) ?_
    intro i_ hi_
    simp only [List.mem_cons, List.not_mem_nil, or_false] at hi_
    subst hi_
    have hst152 := hst129
    refine One_callS (i := 6) [] [one b1 (.cells #[(int a.what), (int a.x), (int a.y), (int a.nm)] 35 (0, 0)), c] hst152 rfl rfl rfl (Want.plain rfl) (x_call (vs := #[(int a.x)]) rfl rfl (by kernel_rfl) ent_46) (Some_spec a.x (hst152.sats.take 0 rfl)) (fun v153 w154 R155 L156 hp157 hle158 hst159 => ?_)
    have hm160 := Tree.lift htree hle158
    obtain ⟨c161, rfl, ho162⟩ := hp157
    refine ⟨(fun _ => ⟨(Le.trans hle158 hst159.rle'), hst159.g 1⟩), ?_⟩
    refine LA_all [7] (by decide +kernel) (by simp) ?_
    intro i_ hi_
    simp only [List.mem_cons, List.not_mem_nil, or_false] at hi_
    subst hi_
    obtain ⟨R166, hst167, hle168, hc169⟩ := Step.frz hst159
    have hm170 := Tree.lift hm160 hle168
    have hrd171 := OwnL.freeze ho162 hle168 hc169
    have hst172 := (hst167.front 1 rfl rfl)
    refine One_callS (i := 7) [c] [one b1 (.cells #[(int a.what), (int a.x), (int a.y), (int a.nm)] 35 (0, 0))] hst172 rfl rfl rfl (Want.plain rfl) (x_call (vs := #[(ptr p 0), (int (Int.tmod a.y 3)), v153]) rfl rfl (by kernel_rfl) ent_29) (Make_spec (v := v153) (Int.tmod a.y 3) (someL a.x) (hst172.sats.take 1 rfl) hm170 hrd171 (by have h_ := someL_len a.x; omega) (by omega)) (fun v173 w174 R175 L176 hp177 hle178 hst179 => ?_)
    obtain ⟨c180, rfl, rfl, htr181⟩ := hp177
    refine ⟨(fun _ => ⟨(Le.trans hle158 (Le.trans hle168 (Le.trans hle178 hst179.rle'))), hst179.g 1⟩), ?_⟩
    refine LP (int ((s.make (Int.tmod a.y 3) (someL a.x)).1)) 8 rfl rfl rfl (fun u183 => (by kernel_rfl)) ⟨(Le.trans hle158 (Le.trans hle168 (Le.trans hle178 hst179.rle'))), hst179.g 1⟩ ?_
    refine LP (int ((s.make (Int.tmod a.y 3) (someL a.x)).2.1)) 9 rfl rfl rfl (fun u186 => (by kernel_rfl)) ⟨(Le.trans hle158 (Le.trans hle168 (Le.trans hle178 hst179.rle'))), hst179.g 1⟩ ?_
    refine LP (int ((s.make (Int.tmod a.y 3) (someL a.x)).1)) 10 rfl rfl rfl (fun u189 => rfl) ⟨(Le.trans hle158 (Le.trans hle168 (Le.trans hle178 hst179.rle'))), hst179.g 1⟩ ?_
    refine LP (int ((s.make (Int.tmod a.y 3) (someL a.x)).2.1)) 11 rfl rfl rfl (fun u192 => rfl) ⟨(Le.trans hle158 (Le.trans hle168 (Le.trans hle178 hst179.rle'))), hst179.g 1⟩ ?_
    refine LA_done (by decide +kernel) ?_
    refine W_ret ?_
    refine ⟨_, _, res_run (rs := [.tmp 6, .tmp 7]) (vs := [(int ((s.make (Int.tmod a.y 3) (someL a.x)).1)), (int ((s.make (Int.tmod a.y 3) (someL a.x)).2.1))]) Tryz.results16 (.cons (.tmp rfl) (.cons (.tmp rfl) .nil)) rfl, ?_⟩
    have he := act_make (s := s) (a := a) (n := n) (ne_of_beq_false c100) (ne_of_beq_false c113) (eq_of_beq c126)
    rw [he]
    exact ⟨_, _, _, rfl, (hst179).keepN 1 rfl, _, rfl, rfl, htr181⟩
   ·
    have q194 := ne_of_beq_false c126
    refine W_cond_false (by show Value.bool _ = _; exact congrArg Value.bool c126) ?_
    refine W_skip ?_
    refine W_seq ?_
    refine W_region_lit ?_
    refine Lq (ptr p 0) rfl rfl rfl rfl ?_
    refine Lq (int ((((kN ((n + 1 : Nat) : Int) a.x) : Nat) : Int) - 1 + and1 a.y)) rfl rfl rfl rfl ?_
    refine Lq (ptr b1 3) rfl rfl rfl (by kernel_rfl) ?_
    refine Lq (int a.nm) rfl rfl rfl (x_load rfl rfl (run_loadVar_one ti_3 (hst52.b 0) rfl)) ?_
    refine L_callG hst52 (v := (.string (nameOf a.nm))) rfl rfl rfl (x_call (vs := #[(int a.nm)]) rfl rfl (by kernel_rfl) ent_31) (Name_spec a.nm) (fun w195 hst196 => ?_)
    have hst197 := (hst196.front 1 rfl rfl)
    refine L_callS [c] [one b1 (.cells #[(int a.what), (int a.x), (int a.y), (int a.nm)] 35 (0, 0))] hst197 rfl rfl rfl (x_call (vs := #[(ptr p 0), (int ((((kN ((n + 1 : Nat) : Int) a.x) : Nat) : Int) - 1 + and1 a.y)), (.string (nameOf a.nm))]) rfl rfl (by kernel_rfl) ent_28) (Add_spec ((((kN ((n + 1 : Nat) : Int) a.x) : Nat) : Int) - 1 + and1 a.y) (nameOf a.nm) (hst197.sats.take 1 rfl) htree (by omega)) (fun v198 w199 R200 L201 hp202 hle203 hst204 => ?_)
    obtain ⟨c205, rfl, rfl, htr206⟩ := hp202
    refine Lq (int ((s.add ((((kN ((n + 1 : Nat) : Int) a.x) : Nat) : Int) - 1 + and1 a.y) (nameOf a.nm)).1)) rfl rfl rfl (by kernel_rfl) ?_
    refine Lq (int ((s.add ((((kN ((n + 1 : Nat) : Int) a.x) : Nat) : Int) - 1 + and1 a.y) (nameOf a.nm)).2.1)) rfl rfl rfl (by kernel_rfl) ?_
    refine Lq (int ((s.add ((((kN ((n + 1 : Nat) : Int) a.x) : Nat) : Int) - 1 + and1 a.y) (nameOf a.nm)).1)) rfl rfl rfl rfl ?_
    refine Lq (int ((s.add ((((kN ((n + 1 : Nat) : Int) a.x) : Nat) : Int) - 1 + and1 a.y) (nameOf a.nm)).2.1)) rfl rfl rfl rfl ?_
    refine L_nil ?_
    refine W_ret ?_
    refine ⟨_, _, res_run (rs := [.tmp 6, .tmp 7]) (vs := [(int ((s.add ((((kN ((n + 1 : Nat) : Int) a.x) : Nat) : Int) - 1 + and1 a.y) (nameOf a.nm)).1)), (int ((s.add ((((kN ((n + 1 : Nat) : Int) a.x) : Nat) : Int) - 1 + and1 a.y) (nameOf a.nm)).2.1))]) Tryz.results16 (.cons (.tmp rfl) (.cons (.tmp rfl) .nil)) rfl, ?_⟩
    have he := act_add (s := s) (a := a) (n := n) (ne_of_beq_false c100) (ne_of_beq_false c113) (ne_of_beq_false c126)
    rw [he]
    exact ⟨_, _, _, rfl, (hst204).keepN 1 rfl, _, rfl, rfl, htr206⟩

set_option maxHeartbeats 1000000 in
theorem played_spec {w : World} {R : Hp} {v : Value} (n : Int) (acts : List Ac) (hs : Sats w R []) (hv : RdS tyAc R v acts) :
    Calls Tryz.prog 20 #[int n, v] w (Comes' w R [] fun v' R' L' => ∃ p c, v' = ptr p 0 ∧ L' = [c] ∧ Tree R' p (played n acts) c) := by
 have hst := Step.refl hs
 refine calls_of_W (n := 33) Tryz.func20 rfl Tryz.ntmps20 (Nat.le_of_ble_eq_true rfl) ?_
 refine W_seq ?_
 refine W_region_lit ?_
 refine Lq (.pointer none) rfl rfl rfl rfl ?_
 refine L_nil ?_
 refine W_seq ?_
 refine W_region_lit ?_
 refine Lq (int n) rfl rfl rfl rfl ?_
 have hst1 := hst
 refine L_callS [] [] hst1 rfl rfl rfl (x_call (vs := #[(int n)]) rfl rfl (by kernel_rfl) ent_12) (Classes_spec n (hst1.sats.take 0 rfl)) (fun v2 w3 R4 L5 hp6 hle7 hst8 => ?_)
 obtain ⟨rfl, hrd9⟩ := hp6
 have hcl10 : (clsOf n).length = 1 + kN 3 n := clsOf_len _
 have hcl11 := kN3 n
 have hfs : ∀ x ∈ clsOf n, x.fields.length ≤ 64 := fun x hx => Nat.le_trans (clsOf_mem hx).1 (by decide)
 obtain ⟨a12, cap13, e14, hc15⟩ := hrd9.shape
 subst e14
 have hst16 := hst8
 refine L_callS [] [] hst16 rfl rfl rfl (x_call (vs := #[(.slice a12 ((clsOf n).length) cap13)]) rfl rfl (by kernel_rfl) ent_11) (New_spec (v := (.slice a12 ((clsOf n).length) cap13)) (hst16.sats.take 0 rfl) (RdS.mono hrd9 (Le.refl _)) (by omega) (fun x_ hx_ => Nat.le_trans (clsOf_mem hx_).1 (by decide))) (fun v17 w18 R19 L20 hp21 hle22 hst23 => ?_)
 obtain ⟨p24, c25, rfl, rfl, htr26⟩ := hp21
 refine Lq (ptr p24 0) rfl rfl rfl rfl ?_
 refine L_nil ?_
 refine W_seq ?_
 refine W_seq ?_
 refine W_region_lit ?_
 refine Lq (int 0) rfl rfl rfl rfl ?_
 refine L_nil ?_
 refine W_block ?_
 refine W_loop (I := fun σ w_ m_ => ∃ (σ0 : Fr) (R_ : Hp) (k_ : Nat) (cT : Hp), σ = upd (upd (upd (upd (upd (upd (upd (upd σ0 0 (int n)) 1 v) 4 (.pointer none)) 5 (ptr p24 0)) 6 (int (k_ : Int))) 7 (int n)) 8 (.slice a12 ((clsOf n).length) cap13)) 9 (ptr p24 0) ∧ mks (σ0 0) = [] ∧ Step w R [] w_ R_ [cT] ∧ Le R19 R_ ∧ Tree R_ p24 (playK n acts k_) cT ∧ k_ ≤ acts.length ∧ k_ ≤ 60 ∧ m_ = 60 - k_) (m := 60 - 0) ?_ ?_
 ·
  exact ⟨_, _, 0, c25, (upd_of (upd_of (upd_of (upd_of (upd_of (upd_of (upd_of (upd_of rfl rfl) rfl) rfl) rfl) rfl) rfl) rfl) rfl), rfl, hst23, Le.refl _, htr26, (by omega), (by omega), rfl⟩
 ·
  rintro m38 σ_ w29 ⟨s34, R35, k_36, cT37, rfl, hmk27, hst28, hle30, hi31, hf32, hf33, rfl⟩
  have hpl := playK_len n acts k_36
  refine W_seq ?_
  refine W_seq ?_
  refine W_region_lit ?_
  refine Lq (int (k_36 : Int)) rfl rfl rfl rfl ?_
  refine Lq v rfl rfl rfl rfl ?_
  obtain ⟨a39, cap40, e41, hc42⟩ := hv.shape
  subst e41
  refine Lq (int (acts.length : Int)) rfl rfl rfl (x_len_slice rfl sl_22 rfl) ?_
  refine Lq (.bool (decide ((k_36 : Int) < (acts.length : Int)))) rfl rfl rfl (by kernel_rfl) ?_
  refine Lq (.bool (decide ((k_36 : Int) < (acts.length : Int)))) rfl rfl rfl rfl ?_
  rcases Bool.eq_false_or_eq_true (decide ((k_36 : Int) < (acts.length : Int))) with c43 | c43
  ·
   have q44 := of_decide_eq_true c43
   refine L_guard rfl rfl rfl rfl c43 ?_
   refine Lq (int (k_36 : Int)) rfl rfl rfl rfl ?_
   refine L_guard rfl rfl rfl rfl c43 ?_
   refine Lq (.bool (decide ((k_36 : Int) < 60))) rfl rfl rfl (by kernel_rfl) ?_
   refine Lq (.bool (decide ((k_36 : Int) < 60))) rfl rfl rfl (x_pick rfl rfl (by rw [c43]; rfl)) ?_
   refine Lq (.bool (decide ((k_36 : Int) < 60))) rfl rfl rfl rfl ?_
   rcases Bool.eq_false_or_eq_true (decide ((k_36 : Int) < 60)) with c45 | c45
   ·
    have q46 := of_decide_eq_true c45
    refine L_guard rfl rfl rfl rfl c45 ?_
    refine Lq (ptr p24 0) rfl rfl rfl rfl ?_
    refine L_guard rfl rfl rfl rfl c45 ?_
    refine Lq (.bool true) rfl rfl rfl (by kernel_rfl) ?_
    refine Lq (.bool true) rfl rfl rfl (x_pick rfl rfl (by rw [c45]; rfl)) ?_
    refine L_nil ?_
    refine W_cond_true (by show Value.bool _ = _; exact congrArg Value.bool rfl) ?_
    refine W_skip ?_
    refine W_seq ?_
    refine W_block ?_
    refine W_region_draw [] (fun w => Le R35 (hp w)) hmix (by decide +kernel) (fun _ _ h => h) ?_
    have hst48 := hst28.draws (w29.drawn + 1)
    generalize draws w29 (w29.drawn + 1) = w47 at hst48 ⊢
    refine LP (ptr p24 0) 0 rfl rfl rfl (fun u50 => rfl) hst48.rle' ?_
    refine LP (.slice a39 acts.length cap40) 1 rfl rfl rfl (fun u53 => rfl) hst48.rle' ?_
    refine LP (int (k_36 : Int)) 2 rfl rfl rfl (fun u56 => rfl) hst48.rle' ?_
    obtain ⟨b61, off62, cap63, cs64, T65, fz66, e67, hc68, hb69, he70⟩ := hv.open (by omega)
    cases e67
    obtain ⟨cl71, hs72, hr73⟩ := he70.at k_36 (by omega)
    have hx74 := tyAc_open hr73
    subst hx74
    refine LP (ptr b61 (off62 + k_36 * 4)) 3 rfl rfl rfl (fun u59 => (x_indexAddr' rfl sl_22 ti_35 rfl rfl (by omega))) hst48.rle' ?_
    refine LT (.agg #[(int ((acts[k_36]'(by omega)).what)), (int ((acts[k_36]'(by omega)).x)), (int ((acts[k_36]'(by omega)).y)), (int ((acts[k_36]'(by omega)).nm))]) 4 rfl rfl rfl (fun u76 hF77 => (x_load rfl rfl (run_loadVar_agg ti_35 ((Le.trans hle7 (Le.trans hle22 (Le.trans hle30 hF77))) _ _ hb69) hs72 rfl))) hst48.rle' ?_
    refine LP (ptr p24 0) 5 rfl rfl rfl (fun u79 => rfl) hst48.rle' ?_
    refine LA_all [6] (by decide +kernel) (by simp) ?_
    intro i_ hi_
    simp only [List.mem_cons, List.not_mem_nil, or_false] at hi_
    subst hi_
    refine One_call (i := 6) rfl rfl rfl (Want.plain rfl) (x_call (vs := #[(ptr p24 0)]) rfl rfl (by kernel_rfl) ent_19) (Count_spec (Tree.view hi31 (hst48.g 0) hst48.rle') (Le.refl _)) ?_
    rintro e86 w84 ⟨rfl, hw87⟩
    have hst85 := hst48.grown hw87
    refine ⟨_, rfl, (fun _ => hst85.rle'), ?_⟩
    refine LA_all [7] (by decide +kernel) (by simp) ?_
    intro i_ hi_
    simp only [List.mem_cons, List.not_mem_nil, or_false] at hi_
    subst hi_
    have hst91 := hst85
    refine One_callS (i := 7) [cT37] [] hst91 rfl rfl rfl (Want.plain rfl) (x_call (vs := #[(ptr p24 0), (.agg #[(int ((acts[k_36]'(by omega)).what)), (int ((acts[k_36]'(by omega)).x)), (int ((acts[k_36]'(by omega)).y)), (int ((acts[k_36]'(by omega)).nm))]), (int ((((playK n acts k_36).nodes).length : Nat) : Int))]) rfl rfl (by kernel_rfl) ent_16) (do_spec (acts[k_36]'(by omega)) (((playK n acts k_36).nodes).length) (hst91.sats.take 1 rfl) hi31 (by omega) (by omega)) (fun v92 w93 R94 L95 hp96 hle97 hst98 => ?_)
    obtain ⟨c99, rfl, rfl, htr100⟩ := hp96
    refine ⟨(fun _ => (Le.trans hle97 hst98.rle')), ?_⟩
    refine LA_done (by decide +kernel) ?_
    refine W_region_lit ?_
    refine Lq (int (k_36 : Int)) rfl rfl rfl rfl ?_
    refine Lq (int ((k_36 + 1 : Nat) : Int)) rfl rfl rfl (x_add_nat rfl rfl rfl (by omega)) ?_
    refine Lq (int ((k_36 + 1 : Nat) : Int)) rfl rfl rfl rfl ?_
    refine L_nil ?_
    refine ⟨60 - (k_36 + 1), by first | omega | (simp only [List.length_append, List.length_cons, List.length_nil]; omega), ?_⟩
    exact ⟨_, _, (k_36 + 1), c99, (upd_of (upd_of (upd_of (upd_of (upd_of (upd_of (upd_of (upd_of rfl rfl) rfl) rfl) rfl) rfl) rfl) rfl) rfl), hmk27, hst98, (Le.trans hle30 hle97), (by rw [playK_succ (by omega)]; exact htr100), (by omega), (by omega), rfl⟩
   ·
    have q101 := of_decide_eq_false c45
    refine L_unwanted rfl rfl rfl rfl (by rw [c45]; try rfl) rfl rfl ?_
    refine L_unwanted rfl rfl rfl rfl (by rw [c45]; try rfl) rfl rfl ?_
    refine Lq (.bool false) rfl rfl rfl (x_pick rfl rfl (by rw [c45]; rfl)) ?_
    refine L_nil ?_
    refine W_cond_false (by show Value.bool _ = _; exact congrArg Value.bool rfl) ?_
    refine W_exit ?_
    refine W_seq ?_
    refine W_region_lit ?_
    refine Lq (ptr p24 0) rfl rfl rfl rfl ?_
    refine Lq (ptr p24 0) rfl rfl rfl rfl ?_
    refine L_nil ?_
    refine W_ret ?_
    refine ⟨_, _, res_run (rs := [.tmp 4]) (vs := [(ptr p24 0)]) Tryz.results20 (.cons (.tmp rfl) .nil) hmk27, ?_⟩
    obtain rfl : k_36 = min acts.length 60 := by omega
    exact ⟨_, _, _, rfl, (hst28).keepN 1 rfl, _, _, rfl, rfl, hi31⟩
  ·
   have q102 := of_decide_eq_false c43
   refine L_unwanted rfl rfl rfl rfl (by rw [c43]; try rfl) rfl rfl ?_
   refine L_unwanted rfl rfl rfl rfl (by rw [c43]; try rfl) rfl rfl ?_
   refine Lq (.bool false) rfl rfl rfl (x_pick rfl rfl (by rw [c43]; rfl)) ?_
   refine Lq (.bool false) rfl rfl rfl rfl ?_
   refine L_unwanted rfl rfl rfl rfl rfl rfl rfl ?_
   refine L_unwanted rfl rfl rfl rfl rfl rfl rfl ?_
   refine Lq (.bool false) rfl rfl rfl rfl ?_
   refine L_nil ?_
   refine W_cond_false (by show Value.bool _ = _; exact congrArg Value.bool rfl) ?_
   refine W_exit ?_
   refine W_seq ?_
   refine W_region_lit ?_
   refine Lq (ptr p24 0) rfl rfl rfl rfl ?_
   refine Lq (ptr p24 0) rfl rfl rfl rfl ?_
   refine L_nil ?_
   refine W_ret ?_
   refine ⟨_, _, res_run (rs := [.tmp 4]) (vs := [(ptr p24 0)]) Tryz.results20 (.cons (.tmp rfl) .nil) hmk27, ?_⟩
   obtain rfl : k_36 = min acts.length 60 := by omega
   exact ⟨_, _, _, rfl, (hst28).keepN 1 rfl, _, _, rfl, rfl, hi31⟩

end Go.Fx.YtjpdhfhiimbpgaaGreatDoor

set_option linter.unusedSimpArgs false
set_option linter.unusedVariables false
set_option linter.unusedSectionVars false
namespace Go.Fx.YtjpdhfhiimbpgaaGreatDoor
open Go Go.Fx Go.Proofs
set_option maxRecDepth 20000
def T0 : TS := newTS (clsOf 0)
def T1 : TS := (T0.add 0 ⟨#[121]⟩).2.2
def T2 : TS := (T1.add 0 ⟨#[121]⟩).2.2
def T3 : TS := (T2.add 0 ⟨#[120]⟩).2.2
def T4 : TS := (T3.split 1).2.2
def T5 : TS := (T4.add 0 ⟨#[121]⟩).2.2
def T6 : TS := (T5.merge 2 1).2
def T7 : TS := (T6.split 0).2.2
def T8 : TS := (T7.add 0 ⟨#[121]⟩).2.2
def T9 : TS := (T8.make 0 [⟨#[120]⟩]).2.2
def T10 : TS := (T9.make 0 [⟨#[113]⟩]).2.2
def txt8 : Str := ⟨(textT T8).toArray⟩
theorem T8_ne : T8.nodes ≠ [] := by
  intro h
  have := congrArg List.length h
  revert this
  decide +kernel
theorem T8_nice : Nice T8 where
  nodes := by decide +kernel
  roots := by decide +kernel
  cls := by decide +kernel
  names := by decide +kernel
  sizes := by decide +kernel
  next := by decide +kernel
  keys := by decide +kernel
theorem T8_text : txt8 = ⟨#[114, 111, 111, 116, 115, 32, 51, 10, 48, 32, 48, 32, 120, 32, 62, 32, 121, 58, 50, 10, 49, 32, 48, 32, 120, 32, 121, 32, 61, 32, 50, 10, 50, 32, 48, 32, 120, 32, 121, 32, 62, 10, 51, 32, 48, 32, 120, 32, 62, 10]⟩ := by decide +kernel
theorem T8_size : txt8.size ≤ 100 := by decide +kernel
end Go.Fx.YtjpdhfhiimbpgaaGreatDoor

set_option linter.unusedSimpArgs false
set_option linter.unusedVariables false
namespace Go.Fx.YtjpdhfhiimbpgaaGreatDoor
open Go Go.Fx Go.Proofs
set_option maxRecDepth 20000

theorem ent_14 : Ent Tryz.prog 14 := fun _ _ => by kernel_rfl

set_option maxHeartbeats 2000000 in
theorem sanity_spec {w : World} :
    Calls Tryz.prog 10 #[] w fun e w' => e = .returned (.bool true) ∧ Grow w w' := by
 have hst := Step.ro (Le.refl (hp w))
 refine calls_of_W (n := 170) Tryz.func10 rfl Tryz.ntmps10 (Nat.le_of_ble_eq_true rfl) ?_
 refine W_seq ?_
 refine W_region_lit ?_
 refine Lq (.bool false) rfl rfl rfl rfl ?_
 refine L_nil ?_
 refine W_seq ?_
 refine W_region_lit ?_
 have hst1 := hst
 refine L_callS [] [] hst1 rfl rfl rfl (x_call (vs := #[(int 0)]) rfl rfl (by kernel_rfl) ent_12) (Classes_spec 0 (hst1.sats.take 0 rfl)) (fun v2 w3 R4 L5 hp6 hle7 hst8 => ?_)
 obtain ⟨rfl, hrd9⟩ := hp6
 have hcl10 : (clsOf 0).length = 1 + kN 3 0 := clsOf_len _
 have hcl11 := kN3 0
 have hfs : ∀ x ∈ clsOf 0, x.fields.length ≤ 64 := fun x hx => Nat.le_trans (clsOf_mem hx).1 (by decide)
 obtain ⟨a12, cap13, e14, hc15⟩ := hrd9.shape
 subst e14
 have hst16 := hst8
 refine L_callS [] [] hst16 rfl rfl rfl (x_call (vs := #[(.slice a12 ((clsOf 0).length) cap13)]) rfl rfl (by kernel_rfl) ent_11) (New_spec (v := (.slice a12 ((clsOf 0).length) cap13)) (hst16.sats.take 0 rfl) (RdS.mono hrd9 (Le.refl _)) (by omega) (fun x_ hx_ => Nat.le_trans (clsOf_mem hx_).1 (by decide))) (fun v17 w18 R19 L20 hp21 hle22 hst23 => ?_)
 obtain ⟨p24, c25, rfl, rfl, htr26⟩ := hp21
 change Tree _ _ T0 _ at htr26
 refine Lq (ptr p24 0) rfl rfl rfl rfl ?_
 refine L_nil ?_
 refine W_seq ?_
 refine W_seq ?_
 refine W_region_lit ?_
 refine Lq (ptr p24 0) rfl rfl rfl rfl ?_
 refine Lq (.bool false) rfl rfl rfl (by kernel_rfl) ?_
 refine Lq (.bool false) rfl rfl rfl rfl ?_
 refine L_guard rfl rfl rfl rfl rfl ?_
 refine Lq (ptr p24 0) rfl rfl rfl rfl ?_
 refine L_guard rfl rfl rfl rfl rfl ?_
 refine L_callG hst23 (v := (int (rootL T0.nodes T0.roots 0))) rfl rfl rfl (x_call (vs := #[(ptr p24 0), (int 0)]) rfl rfl (by kernel_rfl) ent_26) (Root_spec 0 (Tree.view htr26 (hst23.g 0) hst23.rle') (Le.refl _)) (fun w27 hst28 => ?_)
 refine L_guard rfl rfl rfl rfl rfl ?_
 refine Lq (.bool ((rootL T0.nodes T0.roots 0) != 0)) rfl rfl rfl (by kernel_rfl) ?_
 refine Lq (.bool ((rootL T0.nodes T0.roots 0) != 0)) rfl rfl rfl rfl ?_
 refine L_nil ?_
 have c29 : ((rootL T0.nodes T0.roots 0) != 0) = false := (by decide +kernel)
 have q30 : rootL T0.nodes T0.roots 0 = 0 := by simpa using c29
 refine W_cond_false (by show Value.bool _ = _; exact congrArg Value.bool c29) ?_
 refine W_skip ?_
 refine W_seq ?_
 refine W_region_lit ?_
 refine Lq (ptr p24 0) rfl rfl rfl rfl ?_
 have hst31 := hst28
 refine L_callS [c25] [] hst31 rfl rfl rfl (x_call (vs := #[(ptr p24 0), (int 0), (.string ⟨#[121]⟩)]) rfl rfl (by kernel_rfl) ent_28) (Add_spec 0 ⟨#[121]⟩ (hst31.sats.take 1 rfl) htr26 (by decide +kernel)) (fun v32 w33 R34 L35 hp36 hle37 hst38 => ?_)
 obtain ⟨c39, rfl, rfl, htr40⟩ := hp36
 change Tree _ _ T1 _ at htr40
 refine Lq (.tuple #[(int ((T0.add 0 ⟨#[121]⟩).1)), (int ((T0.add 0 ⟨#[121]⟩).2.1))]) rfl rfl rfl rfl ?_
 refine Lq (int ((T0.add 0 ⟨#[121]⟩).1)) rfl rfl rfl (by kernel_rfl) ?_
 refine Lq (int ((T0.add 0 ⟨#[121]⟩).2.1)) rfl rfl rfl (by kernel_rfl) ?_
 refine Lq (int ((T0.add 0 ⟨#[121]⟩).1)) rfl rfl rfl rfl ?_
 refine Lq (int ((T0.add 0 ⟨#[121]⟩).2.1)) rfl rfl rfl rfl ?_
 refine L_nil ?_
 refine W_seq ?_
 refine W_region_lit ?_
 refine Lq (ptr p24 0) rfl rfl rfl rfl ?_
 have hst41 := hst38
 refine L_callS [c39] [] hst41 rfl rfl rfl (x_call (vs := #[(ptr p24 0), (int 0), (.string ⟨#[121]⟩)]) rfl rfl (by kernel_rfl) ent_28) (Add_spec 0 ⟨#[121]⟩ (hst41.sats.take 1 rfl) htr40 (by decide +kernel)) (fun v42 w43 R44 L45 hp46 hle47 hst48 => ?_)
 obtain ⟨c49, rfl, rfl, htr50⟩ := hp46
 change Tree _ _ T2 _ at htr50
 refine Lq (.tuple #[(int ((T1.add 0 ⟨#[121]⟩).1)), (int ((T1.add 0 ⟨#[121]⟩).2.1))]) rfl rfl rfl rfl ?_
 refine Lq (int ((T1.add 0 ⟨#[121]⟩).1)) rfl rfl rfl (by kernel_rfl) ?_
 refine Lq (int ((T1.add 0 ⟨#[121]⟩).2.1)) rfl rfl rfl (by kernel_rfl) ?_
 refine Lq (int ((T1.add 0 ⟨#[121]⟩).1)) rfl rfl rfl rfl ?_
 refine Lq (int ((T1.add 0 ⟨#[121]⟩).2.1)) rfl rfl rfl rfl ?_
 refine L_nil ?_
 refine W_seq ?_
 refine W_region_lit ?_
 refine Lq (ptr p24 0) rfl rfl rfl rfl ?_
 have hst51 := hst48
 refine L_callS [c49] [] hst51 rfl rfl rfl (x_call (vs := #[(ptr p24 0), (int 0), (.string ⟨#[120]⟩)]) rfl rfl (by kernel_rfl) ent_28) (Add_spec 0 ⟨#[120]⟩ (hst51.sats.take 1 rfl) htr50 (by decide +kernel)) (fun v52 w53 R54 L55 hp56 hle57 hst58 => ?_)
 obtain ⟨c59, rfl, rfl, htr60⟩ := hp56
 change Tree _ _ T3 _ at htr60
 refine Lq (.tuple #[(int ((T2.add 0 ⟨#[120]⟩).1)), (int ((T2.add 0 ⟨#[120]⟩).2.1))]) rfl rfl rfl rfl ?_
 refine Lq (int ((T2.add 0 ⟨#[120]⟩).1)) rfl rfl rfl (by kernel_rfl) ?_
 refine Lq (int ((T2.add 0 ⟨#[120]⟩).2.1)) rfl rfl rfl (by kernel_rfl) ?_
 refine Lq (int ((T2.add 0 ⟨#[120]⟩).1)) rfl rfl rfl rfl ?_
 refine Lq (int ((T2.add 0 ⟨#[120]⟩).2.1)) rfl rfl rfl rfl ?_
 refine L_nil ?_
 refine W_seq ?_
 refine W_region_lit ?_
 refine Lq (ptr p24 0) rfl rfl rfl rfl ?_
 have hst61 := hst58
 refine L_callS [c59] [] hst61 rfl rfl rfl (x_call (vs := #[(ptr p24 0), (int 1)]) rfl rfl (by kernel_rfl) ent_38) (Split_spec 1 (hst61.sats.take 1 rfl) htr60 (by decide +kernel)) (fun v62 w63 R64 L65 hp66 hle67 hst68 => ?_)
 obtain ⟨c69, rfl, rfl, htr70⟩ := hp66
 change Tree _ _ T4 _ at htr70
 refine Lq (.tuple #[(int ((T3.split 1).1)), (int ((T3.split 1).2.1))]) rfl rfl rfl rfl ?_
 refine Lq (int ((T3.split 1).1)) rfl rfl rfl (by kernel_rfl) ?_
 refine Lq (int ((T3.split 1).2.1)) rfl rfl rfl (by kernel_rfl) ?_
 refine Lq (int ((T3.split 1).1)) rfl rfl rfl rfl ?_
 refine Lq (int ((T3.split 1).2.1)) rfl rfl rfl rfl ?_
 refine L_nil ?_
 refine W_seq ?_
 refine W_region_lit ?_
 refine Lq (ptr p24 0) rfl rfl rfl rfl ?_
 have hst71 := hst68
 refine L_callS [c69] [] hst71 rfl rfl rfl (x_call (vs := #[(ptr p24 0), (int 0), (.string ⟨#[121]⟩)]) rfl rfl (by kernel_rfl) ent_28) (Add_spec 0 ⟨#[121]⟩ (hst71.sats.take 1 rfl) htr70 (by decide +kernel)) (fun v72 w73 R74 L75 hp76 hle77 hst78 => ?_)
 obtain ⟨c79, rfl, rfl, htr80⟩ := hp76
 change Tree _ _ T5 _ at htr80
 refine Lq (.tuple #[(int ((T4.add 0 ⟨#[121]⟩).1)), (int ((T4.add 0 ⟨#[121]⟩).2.1))]) rfl rfl rfl rfl ?_
 refine Lq (int ((T4.add 0 ⟨#[121]⟩).1)) rfl rfl rfl (by kernel_rfl) ?_
 refine Lq (int ((T4.add 0 ⟨#[121]⟩).2.1)) rfl rfl rfl (by kernel_rfl) ?_
 refine Lq (int ((T4.add 0 ⟨#[121]⟩).1)) rfl rfl rfl rfl ?_
 refine Lq (int ((T4.add 0 ⟨#[121]⟩).2.1)) rfl rfl rfl rfl ?_
 refine L_nil ?_
 refine W_seq ?_
 refine W_seq ?_
 refine W_region_lit ?_
 refine Lq (int ((T0.add 0 ⟨#[121]⟩).1)) rfl rfl rfl rfl ?_
 refine Lq (.bool (((T0.add 0 ⟨#[121]⟩).1) != 1)) rfl rfl rfl (by kernel_rfl) ?_
 refine Lq (.bool (((T0.add 0 ⟨#[121]⟩).1) != 1)) rfl rfl rfl rfl ?_
 have c81 : (((T0.add 0 ⟨#[121]⟩).1) != 1) = false := (by decide +kernel)
 have q82 : (T0.add 0 ⟨#[121]⟩).1 = 1 := by simpa using c81
 refine L_guard rfl rfl rfl rfl c81 ?_
 refine Lq (int ((T1.add 0 ⟨#[121]⟩).1)) rfl rfl rfl rfl ?_
 refine L_guard rfl rfl rfl rfl c81 ?_
 refine Lq (.bool (((T1.add 0 ⟨#[121]⟩).1) != 1)) rfl rfl rfl (by kernel_rfl) ?_
 refine Lq (.bool (((T1.add 0 ⟨#[121]⟩).1) != 1)) rfl rfl rfl (x_pick rfl rfl (by rw [c81]; rfl)) ?_
 refine Lq (.bool (((T1.add 0 ⟨#[121]⟩).1) != 1)) rfl rfl rfl rfl ?_
 have c83 : (((T1.add 0 ⟨#[121]⟩).1) != 1) = false := (by decide +kernel)
 have q84 : (T1.add 0 ⟨#[121]⟩).1 = 1 := by simpa using c83
 refine L_guard rfl rfl rfl rfl c83 ?_
 refine Lq (int ((T0.add 0 ⟨#[121]⟩).2.1)) rfl rfl rfl rfl ?_
 refine L_guard rfl rfl rfl rfl c83 ?_
 refine Lq (.bool (((T0.add 0 ⟨#[121]⟩).2.1) != 0)) rfl rfl rfl (by kernel_rfl) ?_
 refine Lq (.bool (((T0.add 0 ⟨#[121]⟩).2.1) != 0)) rfl rfl rfl (x_pick rfl rfl (by rw [c83]; rfl)) ?_
 refine Lq (.bool (((T0.add 0 ⟨#[121]⟩).2.1) != 0)) rfl rfl rfl rfl ?_
 have c85 : (((T0.add 0 ⟨#[121]⟩).2.1) != 0) = false := (by decide +kernel)
 have q86 : (T0.add 0 ⟨#[121]⟩).2.1 = 0 := by simpa using c85
 refine L_guard rfl rfl rfl rfl c85 ?_
 refine Lq (int ((T1.add 0 ⟨#[121]⟩).2.1)) rfl rfl rfl rfl ?_
 refine L_guard rfl rfl rfl rfl c85 ?_
 refine Lq (.bool (((T1.add 0 ⟨#[121]⟩).2.1) != 0)) rfl rfl rfl (by kernel_rfl) ?_
 refine Lq (.bool (((T1.add 0 ⟨#[121]⟩).2.1) != 0)) rfl rfl rfl (x_pick rfl rfl (by rw [c85]; rfl)) ?_
 refine Lq (.bool (((T1.add 0 ⟨#[121]⟩).2.1) != 0)) rfl rfl rfl rfl ?_
 have c87 : (((T1.add 0 ⟨#[121]⟩).2.1) != 0) = false := (by decide +kernel)
 have q88 : (T1.add 0 ⟨#[121]⟩).2.1 = 0 := by simpa using c87
 refine L_guard rfl rfl rfl rfl c87 ?_
 refine Lq (int ((T2.add 0 ⟨#[120]⟩).2.1)) rfl rfl rfl rfl ?_
 refine L_guard rfl rfl rfl rfl c87 ?_
 refine Lq (.bool (((T2.add 0 ⟨#[120]⟩).2.1) != 13)) rfl rfl rfl (by kernel_rfl) ?_
 refine Lq (.bool (((T2.add 0 ⟨#[120]⟩).2.1) != 13)) rfl rfl rfl (x_pick rfl rfl (by rw [c87]; rfl)) ?_
 refine Lq (.bool (((T2.add 0 ⟨#[120]⟩).2.1) != 13)) rfl rfl rfl rfl ?_
 have c89 : (((T2.add 0 ⟨#[120]⟩).2.1) != 13) = false := (by decide +kernel)
 have q90 : (T2.add 0 ⟨#[120]⟩).2.1 = 13 := by simpa using c89
 refine L_guard rfl rfl rfl rfl c89 ?_
 refine Lq (int ((T3.split 1).1)) rfl rfl rfl rfl ?_
 refine L_guard rfl rfl rfl rfl c89 ?_
 refine Lq (.bool (((T3.split 1).1) != 2)) rfl rfl rfl (by kernel_rfl) ?_
 refine Lq (.bool (((T3.split 1).1) != 2)) rfl rfl rfl (x_pick rfl rfl (by rw [c89]; rfl)) ?_
 refine Lq (.bool (((T3.split 1).1) != 2)) rfl rfl rfl rfl ?_
 have c91 : (((T3.split 1).1) != 2) = false := (by decide +kernel)
 have q92 : (T3.split 1).1 = 2 := by simpa using c91
 refine L_guard rfl rfl rfl rfl c91 ?_
 refine Lq (int ((T3.split 1).2.1)) rfl rfl rfl rfl ?_
 refine L_guard rfl rfl rfl rfl c91 ?_
 refine Lq (.bool (((T3.split 1).2.1) != 0)) rfl rfl rfl (by kernel_rfl) ?_
 refine Lq (.bool (((T3.split 1).2.1) != 0)) rfl rfl rfl (x_pick rfl rfl (by rw [c91]; rfl)) ?_
 refine Lq (.bool (((T3.split 1).2.1) != 0)) rfl rfl rfl rfl ?_
 have c93 : (((T3.split 1).2.1) != 0) = false := (by decide +kernel)
 have q94 : (T3.split 1).2.1 = 0 := by simpa using c93
 refine L_guard rfl rfl rfl rfl c93 ?_
 refine Lq (int ((T4.add 0 ⟨#[121]⟩).1)) rfl rfl rfl rfl ?_
 refine L_guard rfl rfl rfl rfl c93 ?_
 refine Lq (.bool (((T4.add 0 ⟨#[121]⟩).1) != 2)) rfl rfl rfl (by kernel_rfl) ?_
 refine Lq (.bool (((T4.add 0 ⟨#[121]⟩).1) != 2)) rfl rfl rfl (x_pick rfl rfl (by rw [c93]; rfl)) ?_
 refine Lq (.bool (((T4.add 0 ⟨#[121]⟩).1) != 2)) rfl rfl rfl rfl ?_
 have c95 : (((T4.add 0 ⟨#[121]⟩).1) != 2) = false := (by decide +kernel)
 have q96 : (T4.add 0 ⟨#[121]⟩).1 = 2 := by simpa using c95
 refine L_guard rfl rfl rfl rfl c95 ?_
 refine Lq (ptr p24 0) rfl rfl rfl rfl ?_
 refine L_guard rfl rfl rfl rfl c95 ?_
 refine L_callG hst78 (v := (int (canon T5.nodes 1))) rfl rfl rfl (x_call (vs := #[(ptr p24 0), (int 1)]) rfl rfl (by kernel_rfl) ent_21) (Canon_spec 1 (Tree.view htr80 (hst78.g 0) hst78.rle') (Le.refl _)) (fun w97 hst98 => ?_)
 refine L_guard rfl rfl rfl rfl c95 ?_
 refine Lq (.bool ((canon T5.nodes 1) != 1)) rfl rfl rfl (by kernel_rfl) ?_
 refine Lq (.bool ((canon T5.nodes 1) != 1)) rfl rfl rfl (x_pick rfl rfl (by rw [c95]; rfl)) ?_
 refine Lq (.bool ((canon T5.nodes 1) != 1)) rfl rfl rfl rfl ?_
 have c99 : ((canon T5.nodes 1) != 1) = false := (by decide +kernel)
 have q100 : canon T5.nodes 1 = 1 := by simpa using c99
 refine L_guard rfl rfl rfl rfl c99 ?_
 refine Lq (ptr p24 0) rfl rfl rfl rfl ?_
 refine L_guard rfl rfl rfl rfl c99 ?_
 have hst101 := hst98
 refine L_callS [c79] [] hst101 rfl rfl rfl (x_call (vs := #[(ptr p24 0), (int 2), (int 1)]) rfl rfl (by kernel_rfl) ent_27) (Merge_spec 2 1 (hst101.sats.take 1 rfl) htr80) (fun v102 w103 R104 L105 hp106 hle107 hst108 => ?_)
 obtain ⟨c109, rfl, rfl, htr110⟩ := hp106
 change Tree _ _ T6 _ at htr110
 refine L_guard rfl rfl rfl rfl c99 ?_
 refine Lq (.bool (((T5.merge 2 1).1) != 0)) rfl rfl rfl (by kernel_rfl) ?_
 refine Lq (.bool (((T5.merge 2 1).1) != 0)) rfl rfl rfl (x_pick rfl rfl (by rw [c99]; rfl)) ?_
 refine Lq (.bool (((T5.merge 2 1).1) != 0)) rfl rfl rfl rfl ?_
 have c111 : (((T5.merge 2 1).1) != 0) = false := (by decide +kernel)
 have q112 : (T5.merge 2 1).1 = 0 := by simpa using c111
 refine L_guard rfl rfl rfl rfl c111 ?_
 refine Lq (ptr p24 0) rfl rfl rfl rfl ?_
 refine L_guard rfl rfl rfl rfl c111 ?_
 refine L_callG hst108 (v := (int (canon T6.nodes 1))) rfl rfl rfl (x_call (vs := #[(ptr p24 0), (int 1)]) rfl rfl (by kernel_rfl) ent_21) (Canon_spec 1 (Tree.view htr110 (hst108.g 0) hst108.rle') (Le.refl _)) (fun w113 hst114 => ?_)
 refine L_guard rfl rfl rfl rfl c111 ?_
 refine Lq (.bool ((canon T6.nodes 1) != 2)) rfl rfl rfl (by kernel_rfl) ?_
 refine Lq (.bool ((canon T6.nodes 1) != 2)) rfl rfl rfl (x_pick rfl rfl (by rw [c111]; rfl)) ?_
 refine L_nil ?_
 have c115 : ((canon T6.nodes 1) != 2) = false := (by decide +kernel)
 have q116 : canon T6.nodes 1 = 2 := by simpa using c115
 refine W_cond_false (by show Value.bool _ = _; exact congrArg Value.bool c115) ?_
 refine W_skip ?_
 refine W_seq ?_
 refine W_region_lit ?_
 refine Lq (ptr p24 0) rfl rfl rfl rfl ?_
 refine L_new hst114 (v := fun b => .slice (some ⟨b, 0, none⟩) 2 2) (ob := .cells #[(.string ⟨#[120]⟩), (.string ⟨#[121]⟩)] 9 (0, 0)) rfl rfl rfl (by kernel_rfl) (fun b117 w118 hst119 => ?_)
 obtain ⟨R120, hst121, hle122, hc123⟩ := Step.frz hst119
 have hm124 := Tree.lift htr110 hle122
 have hrd125 : RdS Ty.str R120 (.slice (some ⟨b117, 0, none⟩) 2 2) [(⟨#[120]⟩ : Str), (⟨#[121]⟩ : Str)] := OwnL.freeze (R := R120) (T := 9) (OwnL.lit (cs := [(.string ⟨#[120]⟩), (.string ⟨#[121]⟩)]) (strs_mk2 _ _ _) rfl (by decide)) (Le.refl _) hc123
 refine L_callG hst121 (v := (.tuple #[(int ((findL T6.nodes 0 [(⟨#[120]⟩ : Str), (⟨#[121]⟩ : Str)]).1)), (.bool ((findL T6.nodes 0 [(⟨#[120]⟩ : Str), (⟨#[121]⟩ : Str)]).2))])) rfl rfl rfl (x_call (vs := #[(ptr p24 0), (int 0), (.slice (some ⟨b117, 0, none⟩) 2 2)]) rfl rfl (by kernel_rfl) ent_25) (Find_spec 0 [(⟨#[120]⟩ : Str), (⟨#[121]⟩ : Str)] (RdS.mono hrd125 hst121.rle') (by first | omega | decide | assumption) (Tree.view hm124 (hst121.g 0) hst121.rle') (Le.refl _)) (fun w126 hst127 => ?_)
 refine Lq (.tuple #[(int ((findL T6.nodes 0 [(⟨#[120]⟩ : Str), (⟨#[121]⟩ : Str)]).1)), (.bool ((findL T6.nodes 0 [(⟨#[120]⟩ : Str), (⟨#[121]⟩ : Str)]).2))]) rfl rfl rfl rfl ?_
 refine Lq (int ((findL T6.nodes 0 [(⟨#[120]⟩ : Str), (⟨#[121]⟩ : Str)]).1)) rfl rfl rfl (by kernel_rfl) ?_
 refine Lq (.bool ((findL T6.nodes 0 [(⟨#[120]⟩ : Str), (⟨#[121]⟩ : Str)]).2)) rfl rfl rfl (by kernel_rfl) ?_
 refine Lq (int ((findL T6.nodes 0 [(⟨#[120]⟩ : Str), (⟨#[121]⟩ : Str)]).1)) rfl rfl rfl rfl ?_
 refine Lq (.bool ((findL T6.nodes 0 [(⟨#[120]⟩ : Str), (⟨#[121]⟩ : Str)]).2)) rfl rfl rfl rfl ?_
 refine L_nil ?_
 refine W_seq ?_
 refine W_region_lit ?_
 refine Lq (ptr p24 0) rfl rfl rfl rfl ?_
 have hst128 := hst127
 refine L_callS [c109] [] hst128 rfl rfl rfl (x_call (vs := #[(ptr p24 0), (int 0)]) rfl rfl (by kernel_rfl) ent_38) (Split_spec 0 (hst128.sats.take 1 rfl) hm124 (by decide +kernel)) (fun v129 w130 R131 L132 hp133 hle134 hst135 => ?_)
 obtain ⟨c136, rfl, rfl, htr137⟩ := hp133
 change Tree _ _ T7 _ at htr137
 refine Lq (.tuple #[(int ((T6.split 0).1)), (int ((T6.split 0).2.1))]) rfl rfl rfl rfl ?_
 refine Lq (int ((T6.split 0).1)) rfl rfl rfl (by kernel_rfl) ?_
 refine Lq (int ((T6.split 0).2.1)) rfl rfl rfl (by kernel_rfl) ?_
 refine Lq (int ((T6.split 0).1)) rfl rfl rfl rfl ?_
 refine Lq (int ((T6.split 0).2.1)) rfl rfl rfl rfl ?_
 refine L_nil ?_
 refine W_seq ?_
 refine W_region_lit ?_
 refine Lq (ptr p24 0) rfl rfl rfl rfl ?_
 have hst138 := hst135
 refine L_callS [c136] [] hst138 rfl rfl rfl (x_call (vs := #[(ptr p24 0), (int 0), (.string ⟨#[121]⟩)]) rfl rfl (by kernel_rfl) ent_28) (Add_spec 0 ⟨#[121]⟩ (hst138.sats.take 1 rfl) htr137 (by decide +kernel)) (fun v139 w140 R141 L142 hp143 hle144 hst145 => ?_)
 obtain ⟨c146, rfl, rfl, htr147⟩ := hp143
 change Tree _ _ T8 _ at htr147
 refine Lq (.tuple #[(int ((T7.add 0 ⟨#[121]⟩).1)), (int ((T7.add 0 ⟨#[121]⟩).2.1))]) rfl rfl rfl rfl ?_
 refine Lq (int ((T7.add 0 ⟨#[121]⟩).1)) rfl rfl rfl (by kernel_rfl) ?_
 refine Lq (int ((T7.add 0 ⟨#[121]⟩).2.1)) rfl rfl rfl (by kernel_rfl) ?_
 refine Lq (int ((T7.add 0 ⟨#[121]⟩).1)) rfl rfl rfl rfl ?_
 refine Lq (int ((T7.add 0 ⟨#[121]⟩).2.1)) rfl rfl rfl rfl ?_
 refine L_nil ?_
 refine W_seq ?_
 refine W_region_lit ?_
 refine Lq (ptr p24 0) rfl rfl rfl rfl ?_
 refine L_callG hst145 (v := (.string txt8)) rfl rfl rfl (x_call (vs := #[(ptr p24 0)]) rfl rfl (by kernel_rfl) ent_14) (Text_spec (Tree.viewM htr147 (hst145.g 0) hst145.rle' T8_ne T8_nice)) (fun w148 hst149 => ?_)
 refine Lq (.string txt8) rfl rfl rfl rfl ?_
 refine L_nil ?_
 refine W_seq ?_
 refine W_region_lit ?_
 refine Lq (ptr p24 0) rfl rfl rfl rfl ?_
 refine L_new hst149 (v := fun b => .slice (some ⟨b, 0, none⟩) 1 1) (ob := .cells #[(.string ⟨#[120]⟩)] 9 (0, 0)) rfl rfl rfl (by kernel_rfl) (fun b150 w151 hst152 => ?_)
 obtain ⟨R153, hst154, hle155, hc156⟩ := Step.frz hst152
 have hm157 := Tree.lift htr147 hle155
 have hrd158 : RdS Ty.str R153 (.slice (some ⟨b150, 0, none⟩) 1 1) [(⟨#[120]⟩ : Str)] := OwnL.freeze (R := R153) (T := 9) (OwnL.lit (cs := [(.string ⟨#[120]⟩)]) (str_mk _ _) rfl (by decide)) (Le.refl _) hc156
 have hst159 := hst154
 refine L_callS [c146] [] hst159 rfl rfl rfl (x_call (vs := #[(ptr p24 0), (int 0), (.slice (some ⟨b150, 0, none⟩) 1 1)]) rfl rfl (by kernel_rfl) ent_29) (Make_spec (v := (.slice (some ⟨b150, 0, none⟩) 1 1)) 0 [(⟨#[120]⟩ : Str)] (hst159.sats.take 1 rfl) hm157 (RdS.mono hrd158 (Le.refl _)) (by first | omega | decide) (by decide +kernel)) (fun v160 w161 R162 L163 hp164 hle165 hst166 => ?_)
 obtain ⟨c167, rfl, rfl, htr168⟩ := hp164
 change Tree _ _ T9 _ at htr168
 refine Lq (.tuple #[(int ((T8.make 0 [(⟨#[120]⟩ : Str)]).1)), (int ((T8.make 0 [(⟨#[120]⟩ : Str)]).2.1))]) rfl rfl rfl rfl ?_
 refine Lq (int ((T8.make 0 [(⟨#[120]⟩ : Str)]).1)) rfl rfl rfl (by kernel_rfl) ?_
 refine Lq (int ((T8.make 0 [(⟨#[120]⟩ : Str)]).2.1)) rfl rfl rfl (by kernel_rfl) ?_
 refine Lq (int ((T8.make 0 [(⟨#[120]⟩ : Str)]).1)) rfl rfl rfl rfl ?_
 refine Lq (int ((T8.make 0 [(⟨#[120]⟩ : Str)]).2.1)) rfl rfl rfl rfl ?_
 refine L_nil ?_
 refine W_seq ?_
 refine W_region_lit ?_
 refine Lq (ptr p24 0) rfl rfl rfl rfl ?_
 refine L_new hst166 (v := fun b => .slice (some ⟨b, 0, none⟩) 1 1) (ob := .cells #[(.string ⟨#[113]⟩)] 9 (0, 0)) rfl rfl rfl (by kernel_rfl) (fun b169 w170 hst171 => ?_)
 obtain ⟨R172, hst173, hle174, hc175⟩ := Step.frz hst171
 have hm176 := Tree.lift htr168 hle174
 have hrd177 : RdS Ty.str R172 (.slice (some ⟨b169, 0, none⟩) 1 1) [(⟨#[113]⟩ : Str)] := OwnL.freeze (R := R172) (T := 9) (OwnL.lit (cs := [(.string ⟨#[113]⟩)]) (str_mk _ _) rfl (by decide)) (Le.refl _) hc175
 have hst178 := hst173
 refine L_callS [c167] [] hst178 rfl rfl rfl (x_call (vs := #[(ptr p24 0), (int 0), (.slice (some ⟨b169, 0, none⟩) 1 1)]) rfl rfl (by kernel_rfl) ent_29) (Make_spec (v := (.slice (some ⟨b169, 0, none⟩) 1 1)) 0 [(⟨#[113]⟩ : Str)] (hst178.sats.take 1 rfl) hm176 (RdS.mono hrd177 (Le.refl _)) (by first | omega | decide) (by decide +kernel)) (fun v179 w180 R181 L182 hp183 hle184 hst185 => ?_)
 obtain ⟨c186, rfl, rfl, htr187⟩ := hp183
 change Tree _ _ T10 _ at htr187
 refine Lq (.tuple #[(int ((T9.make 0 [(⟨#[113]⟩ : Str)]).1)), (int ((T9.make 0 [(⟨#[113]⟩ : Str)]).2.1))]) rfl rfl rfl rfl ?_
 refine Lq (int ((T9.make 0 [(⟨#[113]⟩ : Str)]).1)) rfl rfl rfl (by kernel_rfl) ?_
 refine Lq (int ((T9.make 0 [(⟨#[113]⟩ : Str)]).2.1)) rfl rfl rfl (by kernel_rfl) ?_
 refine Lq (int ((T9.make 0 [(⟨#[113]⟩ : Str)]).1)) rfl rfl rfl rfl ?_
 refine Lq (int ((T9.make 0 [(⟨#[113]⟩ : Str)]).2.1)) rfl rfl rfl rfl ?_
 refine L_nil ?_
 refine W_seq ?_
 refine W_region_lit ?_
 refine Lq (int ((findL T6.nodes 0 [(⟨#[120]⟩ : Str), (⟨#[121]⟩ : Str)]).1)) rfl rfl rfl rfl ?_
 refine Lq (.bool (((findL T6.nodes 0 [(⟨#[120]⟩ : Str), (⟨#[121]⟩ : Str)]).1) == 2)) rfl rfl rfl (by kernel_rfl) ?_
 refine Lq (.bool (((findL T6.nodes 0 [(⟨#[120]⟩ : Str), (⟨#[121]⟩ : Str)]).1) == 2)) rfl rfl rfl rfl ?_
 have c188 : (((findL T6.nodes 0 [(⟨#[120]⟩ : Str), (⟨#[121]⟩ : Str)]).1) == 2) = true := (by decide +kernel)
 have q189 := eq_of_beq c188
 refine L_guard rfl rfl rfl rfl c188 ?_
 refine Lq (.bool ((findL T6.nodes 0 [(⟨#[120]⟩ : Str), (⟨#[121]⟩ : Str)]).2)) rfl rfl rfl rfl ?_
 refine Lq (.bool ((findL T6.nodes 0 [(⟨#[120]⟩ : Str), (⟨#[121]⟩ : Str)]).2)) rfl rfl rfl (x_pick rfl rfl (by rw [c188]; rfl)) ?_
 refine Lq (.bool ((findL T6.nodes 0 [(⟨#[120]⟩ : Str), (⟨#[121]⟩ : Str)]).2)) rfl rfl rfl rfl ?_
 have c190 : ((findL T6.nodes 0 [(⟨#[120]⟩ : Str), (⟨#[121]⟩ : Str)]).2) = true := (by decide +kernel)
 refine L_guard rfl rfl rfl rfl c190 ?_
 refine Lq (int ((T6.split 0).1)) rfl rfl rfl rfl ?_
 refine L_guard rfl rfl rfl rfl c190 ?_
 refine Lq (.bool (((T6.split 0).1) == 3)) rfl rfl rfl (by kernel_rfl) ?_
 refine Lq (.bool (((T6.split 0).1) == 3)) rfl rfl rfl (x_pick rfl rfl (by rw [c190]; rfl)) ?_
 refine Lq (.bool (((T6.split 0).1) == 3)) rfl rfl rfl rfl ?_
 have c191 : (((T6.split 0).1) == 3) = true := (by decide +kernel)
 have q192 := eq_of_beq c191
 refine L_guard rfl rfl rfl rfl c191 ?_
 refine Lq (ptr p24 0) rfl rfl rfl rfl ?_
 refine L_guard rfl rfl rfl rfl c191 ?_
 refine L_callG hst185 (v := (int (rootL T10.nodes T10.roots 0))) rfl rfl rfl (x_call (vs := #[(ptr p24 0), (int 0)]) rfl rfl (by kernel_rfl) ent_26) (Root_spec 0 (Tree.view htr187 (hst185.g 0) hst185.rle') (Le.refl _)) (fun w193 hst194 => ?_)
 refine L_guard rfl rfl rfl rfl c191 ?_
 refine Lq (.bool ((rootL T10.nodes T10.roots 0) == 3)) rfl rfl rfl (by kernel_rfl) ?_
 refine Lq (.bool ((rootL T10.nodes T10.roots 0) == 3)) rfl rfl rfl (x_pick rfl rfl (by rw [c191]; rfl)) ?_
 refine Lq (.bool ((rootL T10.nodes T10.roots 0) == 3)) rfl rfl rfl rfl ?_
 have c195 : ((rootL T10.nodes T10.roots 0) == 3) = true := (by decide +kernel)
 have q196 := eq_of_beq c195
 refine L_guard rfl rfl rfl rfl c195 ?_
 refine Lq (int ((T7.add 0 ⟨#[121]⟩).1)) rfl rfl rfl rfl ?_
 refine L_guard rfl rfl rfl rfl c195 ?_
 refine Lq (.bool (((T7.add 0 ⟨#[121]⟩).1) == 2)) rfl rfl rfl (by kernel_rfl) ?_
 refine Lq (.bool (((T7.add 0 ⟨#[121]⟩).1) == 2)) rfl rfl rfl (x_pick rfl rfl (by rw [c195]; rfl)) ?_
 refine Lq (.bool (((T7.add 0 ⟨#[121]⟩).1) == 2)) rfl rfl rfl rfl ?_
 have c197 : (((T7.add 0 ⟨#[121]⟩).1) == 2) = true := (by decide +kernel)
 have q198 := eq_of_beq c197
 refine L_guard rfl rfl rfl rfl c197 ?_
 refine Lq (.string txt8) rfl rfl rfl rfl ?_
 refine L_guard rfl rfl rfl rfl c197 ?_
 refine Lq (.bool (decide (txt8 = ⟨#[114, 111, 111, 116, 115, 32, 51, 10, 48, 32, 48, 32, 120, 32, 62, 32, 121, 58, 50, 10, 49, 32, 48, 32, 120, 32, 121, 32, 61, 32, 50, 10, 50, 32, 48, 32, 120, 32, 121, 32, 62, 10, 51, 32, 48, 32, 120, 32, 62, 10]⟩))) rfl rfl rfl (x_eqlD rfl rfl rfl) ?_
 refine Lq (.bool (decide (txt8 = ⟨#[114, 111, 111, 116, 115, 32, 51, 10, 48, 32, 48, 32, 120, 32, 62, 32, 121, 58, 50, 10, 49, 32, 48, 32, 120, 32, 121, 32, 61, 32, 50, 10, 50, 32, 48, 32, 120, 32, 121, 32, 62, 10, 51, 32, 48, 32, 120, 32, 62, 10]⟩))) rfl rfl rfl (x_pick rfl rfl (by rw [c197]; rfl)) ?_
 refine Lq (.bool (decide (txt8 = ⟨#[114, 111, 111, 116, 115, 32, 51, 10, 48, 32, 48, 32, 120, 32, 62, 32, 121, 58, 50, 10, 49, 32, 48, 32, 120, 32, 121, 32, 61, 32, 50, 10, 50, 32, 48, 32, 120, 32, 121, 32, 62, 10, 51, 32, 48, 32, 120, 32, 62, 10]⟩))) rfl rfl rfl rfl ?_
 have c199 : (decide (txt8 = ⟨#[114, 111, 111, 116, 115, 32, 51, 10, 48, 32, 48, 32, 120, 32, 62, 32, 121, 58, 50, 10, 49, 32, 48, 32, 120, 32, 121, 32, 61, 32, 50, 10, 50, 32, 48, 32, 120, 32, 121, 32, 62, 10, 51, 32, 48, 32, 120, 32, 62, 10]⟩)) = true := decide_eq_true T8_text
 have q200 := of_decide_eq_true c199
 refine L_guard rfl rfl rfl rfl c199 ?_
 refine Lq (int ((T8.make 0 [(⟨#[120]⟩ : Str)]).1)) rfl rfl rfl rfl ?_
 refine L_guard rfl rfl rfl rfl c199 ?_
 refine Lq (.bool (((T8.make 0 [(⟨#[120]⟩ : Str)]).1) == 3)) rfl rfl rfl (by kernel_rfl) ?_
 refine Lq (.bool (((T8.make 0 [(⟨#[120]⟩ : Str)]).1) == 3)) rfl rfl rfl (x_pick rfl rfl (by rw [c199]; rfl)) ?_
 refine Lq (.bool (((T8.make 0 [(⟨#[120]⟩ : Str)]).1) == 3)) rfl rfl rfl rfl ?_
 have c201 : (((T8.make 0 [(⟨#[120]⟩ : Str)]).1) == 3) = true := (by decide +kernel)
 have q202 := eq_of_beq c201
 refine L_guard rfl rfl rfl rfl c201 ?_
 refine Lq (int ((T8.make 0 [(⟨#[120]⟩ : Str)]).2.1)) rfl rfl rfl rfl ?_
 refine L_guard rfl rfl rfl rfl c201 ?_
 refine Lq (.bool (((T8.make 0 [(⟨#[120]⟩ : Str)]).2.1) == 0)) rfl rfl rfl (by kernel_rfl) ?_
 refine Lq (.bool (((T8.make 0 [(⟨#[120]⟩ : Str)]).2.1) == 0)) rfl rfl rfl (x_pick rfl rfl (by rw [c201]; rfl)) ?_
 refine Lq (.bool (((T8.make 0 [(⟨#[120]⟩ : Str)]).2.1) == 0)) rfl rfl rfl rfl ?_
 have c203 : (((T8.make 0 [(⟨#[120]⟩ : Str)]).2.1) == 0) = true := (by decide +kernel)
 have q204 := eq_of_beq c203
 refine L_guard rfl rfl rfl rfl c203 ?_
 refine Lq (int ((T9.make 0 [(⟨#[113]⟩ : Str)]).1)) rfl rfl rfl rfl ?_
 refine L_guard rfl rfl rfl rfl c203 ?_
 refine Lq (.bool (((T9.make 0 [(⟨#[113]⟩ : Str)]).1) == 4)) rfl rfl rfl (by kernel_rfl) ?_
 refine Lq (.bool (((T9.make 0 [(⟨#[113]⟩ : Str)]).1) == 4)) rfl rfl rfl (x_pick rfl rfl (by rw [c203]; rfl)) ?_
 refine Lq (.bool (((T9.make 0 [(⟨#[113]⟩ : Str)]).1) == 4)) rfl rfl rfl rfl ?_
 have c205 : (((T9.make 0 [(⟨#[113]⟩ : Str)]).1) == 4) = true := (by decide +kernel)
 have q206 := eq_of_beq c205
 refine L_guard rfl rfl rfl rfl c205 ?_
 refine Lq (int ((T9.make 0 [(⟨#[113]⟩ : Str)]).2.1)) rfl rfl rfl rfl ?_
 refine L_guard rfl rfl rfl rfl c205 ?_
 refine Lq (.bool (((T9.make 0 [(⟨#[113]⟩ : Str)]).2.1) == 0)) rfl rfl rfl (by kernel_rfl) ?_
 refine Lq (.bool (((T9.make 0 [(⟨#[113]⟩ : Str)]).2.1) == 0)) rfl rfl rfl (x_pick rfl rfl (by rw [c205]; rfl)) ?_
 refine Lq (.bool (((T9.make 0 [(⟨#[113]⟩ : Str)]).2.1) == 0)) rfl rfl rfl rfl ?_
 refine L_nil ?_
 refine W_ret ?_
 refine ⟨_, _, res_run (rs := [.tmp 0]) (vs := [(.bool (((T9.make 0 [(⟨#[113]⟩ : Str)]).2.1) == 0))]) Tryz.results10 (.cons (.tmp rfl) .nil) rfl, ?_⟩
 exact ⟨ret_bool (by first | rfl | decide +kernel), hst194.grow⟩

end Go.Fx.YtjpdhfhiimbpgaaGreatDoor

set_option linter.unusedSimpArgs false
set_option linter.unusedVariables false
set_option linter.unusedSectionVars false
namespace Go.Fx.YtjpdhfhiimbpgaaGreatDoor
open Go Go.Fx Go.Proofs
set_option maxRecDepth 20000

theorem ndL_app {l m : List Nd} {k : Nat} (h : k < l.length) : ndL (l ++ m) k = ndL l k := by
  unfold ndL
  rw [List.getD_eq_getElem?_getD, List.getD_eq_getElem?_getD, List.getElem?_append_left h]
theorem ndL_last (l : List Nd) (x : Nd) : ndL (l ++ [x]) l.length = x := by
  unfold ndL
  simp
theorem ndL_set {l : List Nd} {y k : Nat} {v : Nd} (hy : y < l.length) : ndL (l.set y v) k = if k = y then v else ndL l k := by
  unfold ndL
  rw [List.getD_eq_getElem?_getD, List.getElem?_set, List.getD_eq_getElem?_getD]
  by_cases e : k = y
  · subst e; simp [hy]
  · rw [if_neg (fun q => e q.symm), if_neg e]
structure AliOk (l : List Nd) : Prop where
  h : ∀ k a : Nat, k < l.length → (ndL l k).ali = (a : Int) → a < l.length ∧ (ndL l a).cls = (ndL l k).cls ∧ (ndL l a).names = (ndL l k).names
theorem Cn.same {l : List Nd} (ha : AliOk l) {d k c : Nat} (h : Cn l d k c) : (ndL l c).cls = (ndL l k).cls ∧ (ndL l c).names = (ndL l k).names := by
  induction h with
  | here hk h => exact ⟨rfl, rfl⟩
  | step hk h hc ih =>
    obtain ⟨_, h1, h2⟩ := ha.h _ _ hk (by rw [ndL_eq hk]; exact h)
    exact ⟨ih.1.trans h1, ih.2.trans h2⟩
theorem cn_same {l : List Nd} (hc : Cans l) (ha : AliOk l) {k : Nat} (hk : k < l.length) : (ndL l (cn l k)).cls = (ndL l k).cls ∧ (ndL l (cn l k)).names = (ndL l k).names := by
  obtain ⟨d, h⟩ := hc.has hk
  exact h.same ha
structure Core (n : Int) (s : TS) : Prop where
  ali : AliOk s.nodes
  rlen : s.roots.length = (clsOf n).length
  root : ∀ i : Nat, i < s.roots.length → ∃ r : Nat, s.roots.getD i 0 = (r : Int) ∧ r < s.nodes.length ∧ (ndL s.nodes r).cls = (i : Int) ∧ (ndL s.nodes r).names = ((clsOf n).getD i ⟨eStr, []⟩).fields
  next : ∀ e ∈ s.next, ∃ c v : Nat, e.1.1 = (c : Int) ∧ e.2 = (v : Int) ∧ c < s.nodes.length ∧ v < s.nodes.length ∧ (ndL s.nodes v).cls = (ndL s.nodes c).cls ∧ (ndL s.nodes v).names = (ndL s.nodes c).names ++ [e.1.2] ∧ e.1.2 ∉ (ndL s.nodes c).names
variable {n : Int} {s : TS}
theorem AliOk.app {l : List Nd} (h : AliOk l) {x : Nd} (hx : x.ali = -1) : AliOk (l ++ [x]) := ⟨fun k a hk e => by
  rw [List.length_append, List.length_singleton] at hk ⊢
  by_cases q : k < l.length
  · rw [ndL_app q] at e ⊢
    obtain ⟨h1, h2⟩ := h.h k a q e
    rw [ndL_app h1]
    exact ⟨by omega, h2⟩
  · obtain rfl : k = l.length := by omega
    rw [ndL_last, hx] at e
    omega⟩
theorem Core.addN (h : Core n s) (cls : Int) (names : List Str) : Core n (s.addN cls names) := by
  have hl : (s.addN cls names).nodes.length = s.nodes.length + 1 := by simp [TS.addN]
  refine ⟨h.ali.app rfl, h.rlen, fun i hi => ?_, fun e he => ?_⟩
  · obtain ⟨r, h1, h2, h3, h4⟩ := h.root i hi
    exact ⟨r, h1, by omega, by simp only [TS.addN]; rw [ndL_app h2]; exact h3, by simp only [TS.addN]; rw [ndL_app h2]; exact h4⟩
  · obtain ⟨c, v, h1, h2, h3, h4, h5⟩ := h.next e he
    refine ⟨c, v, h1, h2, by omega, by omega, ?_⟩
    simp only [TS.addN]
    rw [ndL_app h3, ndL_app h4]
    exact h5
theorem Core.add (hw : WF s) (h : Core n s) (k : Int) (t : Str) : Core n (s.add k t).2.2 := by
  unfold TS.add
  split
  · exact h
  · rename_i hth
    split
    · exact h
    · rename_i hno
      split
      · exact h
      · split
        · exact h
        · have hk : 0 ≤ k ∧ k < (s.nodes.length : Int) := TS.there_iff.1 (by simpa using hth)
          obtain ⟨k, rfl⟩ : ∃ j : Nat, k = (j : Int) := ⟨k.toNat, by omega⟩
          rw [Int.toNat_natCast] at hno ⊢
          have hc := hw.can.lt (k := k) (by omega)
          have h2 := h.addN (s.nd (cn s.nodes k)).cls ((s.nd (cn s.nodes k)).names ++ [t])
          refine ⟨h2.ali, h2.rlen, h2.root, fun e he => ?_⟩
          rcases AL.mem_set he with rfl | he
          · refine ⟨cn s.nodes k, s.nodes.length, rfl, rfl, by simp [TS.addN]; omega, by simp [TS.addN], ?_⟩
            simp only [TS.addN]
            rw [ndL_last, ndL_app hc]
            exact ⟨rfl, rfl, fun q => hno (.inr q)⟩
          · exact h2.next e he
theorem Core.make (h : Core n s) (c : Int) (xs : List Str) : Core n (s.make c xs).2.2 := by
  unfold TS.make
  split
  · exact h
  · split
    · exact h
    · split
      · exact h
      · split
        · exact h
        · exact h.addN _ _
theorem Core.merge (hw : WF s) (h : Core n s) (a b : Int) : Core n (s.merge a b).2 := by
  unfold TS.merge
  split
  · rename_i hab
    obtain ⟨ha, hb, hsm⟩ := hab
    have ha' := TS.there_iff.1 ha
    have hb' := TS.there_iff.1 hb
    simp only
    split
    · exact h
    · rename_i hne
      obtain ⟨a, rfl⟩ : ∃ j : Nat, a = (j : Int) := ⟨a.toNat, by omega⟩
      obtain ⟨b, rfl⟩ : ∃ j : Nat, b = (j : Int) := ⟨b.toNat, by omega⟩
      rw [Int.toNat_natCast, Int.toNat_natCast] at *
      have hca := hw.can.lt (k := a) (by omega)
      have hcb := hw.can.lt (k := b) (by omega)
      have e1 := cn_same hw.can h.ali (k := a) (by omega)
      have e2 := cn_same hw.can h.ali (k := b) (by omega)
      have hsm2 : (ndL s.nodes a).cls = (ndL s.nodes b).cls ∧ (ndL s.nodes a).names = (ndL s.nodes b).names := of_decide_eq_true hsm
      have key : ∀ k, (ndL (setAli s.nodes (cn s.nodes b) (cn s.nodes a : Int)) k).cls = (ndL s.nodes k).cls ∧ (ndL (setAli s.nodes (cn s.nodes b) (cn s.nodes a : Int)) k).names = (ndL s.nodes k).names := fun k => by
        unfold setAli
        rw [ndL_set hcb]
        split
        · rename_i e; subst e; exact ⟨rfl, rfl⟩
        · exact ⟨rfl, rfl⟩
      have hl : (setAli s.nodes (cn s.nodes b) (cn s.nodes a : Int)).length = s.nodes.length := setAli_len
      refine ⟨⟨fun k j hk e => ?_⟩, h.rlen, fun i hi => ?_, fun e he => ?_⟩
      · show j < (setAli s.nodes (cn s.nodes b) (cn s.nodes a : Int)).length ∧ _
        rw [hl, (key j).1, (key j).2, (key k).1, (key k).2]
        have hk2 : k < s.nodes.length := by rw [← hl]; exact hk
        have e9 : (if k = cn s.nodes b then { (s.nodes.getD (cn s.nodes b) nd0) with ali := (cn s.nodes a : Int) } else ndL s.nodes k).ali = (j : Int) := by rw [← ndL_set hcb]; exact e
        clear e
        by_cases q : k = cn s.nodes b
        · rw [if_pos q] at e9
          have e4 : cn s.nodes a = j := Int.ofNat.inj e9
          subst q; subst e4
          exact ⟨hca, e1.1.trans (hsm2.1.trans e2.1.symm), e1.2.trans (hsm2.2.trans e2.2.symm)⟩
        · rw [if_neg q] at e9
          exact h.ali.h k j hk2 e9
      · obtain ⟨r, h1, h2, h3, h4⟩ := h.root i hi
        exact ⟨r, h1, by rw [hl]; exact h2, (key r).1.trans h3, (key r).2.trans h4⟩
      · obtain ⟨c, v, h1, h2, h3, h4, h5, h6, h7⟩ := h.next e he
        refine ⟨c, v, h1, h2, by rw [hl]; exact h3, by rw [hl]; exact h4, ?_⟩
        show (ndL (setAli s.nodes (cn s.nodes b) (cn s.nodes a : Int)) v).cls = (ndL (setAli s.nodes (cn s.nodes b) (cn s.nodes a : Int)) c).cls ∧ _
        rw [(key c).1, (key v).1, (key c).2, (key v).2]
        exact ⟨h5, h6, h7⟩
  · exact h
theorem Core.splitC (hw : WF s) (h : Core n s) {c : Nat} (hc : c < s.nodes.length) : Core n (s.splitC c) := by
  have hl : (s.splitC c).nodes.length = s.nodes.length + 1 := by simp [TS.splitC]
  have red : ∀ v : Nat, v < s.nodes.length → ∃ v2 : Nat, redir s.nodes c s.nodes.length (v : Int) = (v2 : Int) ∧ v2 < s.nodes.length + 1 ∧ (ndL (s.splitC c).nodes v2).cls = (ndL s.nodes v).cls ∧ (ndL (s.splitC c).nodes v2).names = (ndL s.nodes v).names := fun v hv => by
    unfold redir
    obtain ⟨d, hd⟩ := hw.can.has hv
    rw [canon_in hd]
    split
    · rename_i e
      have e2 : cn s.nodes v = c := Int.ofNat.inj e
      refine ⟨s.nodes.length, rfl, by omega, ?_⟩
      simp only [TS.splitC]
      rw [ndL_last]
      have := cn_same hw.can h.ali hv
      rw [e2] at this
      exact this
    · refine ⟨v, rfl, by omega, ?_⟩
      simp only [TS.splitC]
      rw [ndL_app hv]
      exact ⟨rfl, rfl⟩
  refine ⟨h.ali.app rfl, by simp [TS.splitC, h.rlen], fun i hi => ?_, fun e he => ?_⟩
  · have hi2 : i < s.roots.length := by simpa [TS.splitC] using hi
    obtain ⟨r, h1, h2, h3, h4⟩ := h.root i hi2
    obtain ⟨v2, g1, g2, g3, g4⟩ := red r h2
    refine ⟨v2, ?_, by omega, g3.trans h3, g4.trans h4⟩
    simp only [TS.splitC]
    rw [List.getD_eq_getElem?_getD, List.getElem?_map, List.getElem?_eq_getElem hi2]
    rw [List.getD_eq_getElem?_getD, List.getElem?_eq_getElem hi2] at h1
    simp only [Option.getD_some] at h1
    rw [h1]
    exact g1
  · obtain ⟨e0, he0, rfl⟩ := List.mem_map.1 he
    obtain ⟨c2, v, h1, h2, h3, h4, h5, h6, h7⟩ := h.next e0 he0
    obtain ⟨v2, g1, g2, g3, g4⟩ := red v h4
    refine ⟨c2, v2, h1, by simp only; rw [h2]; exact g1, by omega, by omega, ?_⟩
    have ec : ndL (s.splitC c).nodes c2 = ndL s.nodes c2 := by simp only [TS.splitC]; rw [ndL_app h3]
    rw [ec, g3, g4]
    exact ⟨h5, h6, h7⟩
theorem Core.split (hw : WF s) (h : Core n s) (a : Int) : Core n (s.split a).2.2 := by
  unfold TS.split
  split
  · exact h
  · rename_i hth
    split
    · exact h
    · have hk : 0 ≤ a ∧ a < (s.nodes.length : Int) := TS.there_iff.1 (by simpa using hth)
      exact h.splitC hw (hw.can.lt (k := a.toNat) (by omega))
theorem Core.act (hw : WF s) (h : Core n s) (a : Ac) (m : Nat) : Core n (s.act a m).2.2 := by
  unfold TS.act
  split
  · exact h.merge hw _ _
  · split
    · exact h.split hw _
    · split
      · exact h.make _ _
      · exact h.add hw _ _
theorem WF.act (hw : WF s) (a : Ac) (m : Nat) : WF (s.act a m).2.2 := by
  unfold TS.act
  split
  · exact hw.merge _ _
  · split
    · exact hw.split _
    · split
      · exact hw.make _ _
      · exact hw.add _ _
theorem Core.new (n : Int) : Core n (newTS (clsOf n)) := by
  have hl : (newTS (clsOf n)).nodes.length = (clsOf n).length := by simp only [newTS, nodesOf_len]
  have hat : ∀ k, k < (clsOf n).length → ndL (newTS (clsOf n)).nodes k = ⟨(k : Int), -1, ((clsOf n).getD k ⟨eStr, []⟩).fields⟩ := fun k hk => by
    have hk2 : k < (newTS (clsOf n)).nodes.length := by omega
    rw [ndL_eq hk2]
    simp only [newTS, nodesOf_at]
  refine ⟨⟨fun k a hk e => ?_⟩, by simp only [newTS, rootsOf_len], fun i hi => ?_, fun e he => by cases he⟩
  · rw [hat k (by omega)] at e
    simp only at e
    omega
  · have hi2 : i < (clsOf n).length := by simpa [newTS, rootsOf_len] using hi
    refine ⟨i, ?_, by omega, by rw [hat i hi2], by rw [hat i hi2]⟩
    simp only [newTS, rootsOf]
    rw [List.getD_eq_getElem?_getD, List.getElem?_map, List.getElem?_range hi2]
    rfl
theorem playK_wf (n : Int) (acts : List Ac) : ∀ k, WF (playK n acts k)
  | 0 => newTS_wf _
  | k + 1 => (playK_wf n acts k).act _ _
theorem playK_core (n : Int) (acts : List Ac) : ∀ k, Core n (playK n acts k)
  | 0 => Core.new n
  | k + 1 => (playK_core n acts k).act (playK_wf n acts k) _ _
/-! ### Bounds -/
structure Bd (s : TS) (b : Nat) : Prop where
  cls : ∀ x ∈ s.nodes, 0 ≤ x.cls ∧ x.cls < 3
  names : ∀ x ∈ s.nodes, x.names.length ≤ 3 + b
  sizes : ∀ x ∈ s.nodes, ∀ t ∈ x.names, t.size ≤ 7
  len : s.nodes.length ≤ 3 + b
  nlen : s.next.length ≤ b
  keys : ∀ e ∈ s.next, e.1.2.size ≤ 7
end Go.Fx.YtjpdhfhiimbpgaaGreatDoor

set_option linter.unusedSimpArgs false
set_option linter.unusedVariables false
set_option linter.unusedSectionVars false
namespace Go.Fx.YtjpdhfhiimbpgaaGreatDoor
open Go Go.Fx Go.Proofs
set_option maxRecDepth 20000
theorem bneF {a b : Int} (h : a = b) : (a != b) = false := by simp [h]
theorem beqT {a b : Int} (h : a = b) : (a == b) = true := by simp [h]
theorem beqF {a b : Int} (h : ¬ a = b) : (a == b) = false := by simp [h]
theorem bneT {a b : Int} (h : ¬ a = b) : (a != b) = true := by simp [h]
variable {l : List Nd} {n : Int} {s : TS}
theorem clsN {k : Nat} (h : k < l.length) : clsL l (k : Int) = (ndL l k).cls := by rw [clsL_in h, ndL_eq h]
theorem namesN {k : Nat} (h : k < l.length) : namesL l (k : Int) = (ndL l k).names := by rw [namesL_in h, ndL_eq h]
theorem canon_self {k : Nat} (hk : k < l.length) (h : (ndL l k).ali < 0) : canon l (k : Int) = (k : Int) := canon_in (.here hk (by rw [← ndL_eq hk]; exact h))
theorem find_has {cls : Int} {names : List Str} {c : Nat} (hc : c < l.length) (h1 : (ndL l c).ali < 0) (h2 : (ndL l c).cls = cls) (h3 : (ndL l c).names = names) :
    ∃ k : Nat, findL l cls names = ((k : Int), true) ∧ k ≤ c ∧ k < l.length ∧ (ndL l k).ali < 0 ∧ (ndL l k).cls = cls ∧ (ndL l k).names = names ∧ l.findIdx? (findP cls names) = some k := by
  rw [ndL_eq hc] at h1 h2 h3
  have hp : findP cls names l[c] = true := by unfold findP sameN; simp [h1, h2, h3]
  rcases findL_eq l cls names with ⟨q, _⟩ | ⟨k, q, e⟩
  · rw [List.findIdx?_eq_none_iff] at q
    have := q _ (List.getElem_mem hc)
    rw [hp] at this
    cases this
  · obtain ⟨hk, h4, h5⟩ := List.findIdx?_eq_some_iff_getElem.1 q
    have hle : k ≤ c := by
      apply Classical.byContradiction
      intro hn
      exact absurd hp (by simpa using h5 c (by omega))
    unfold findP sameN at h4
    simp only [Bool.and_eq_true, decide_eq_true_eq] at h4
    exact ⟨k, e, hle, hk, by rw [ndL_eq hk]; exact h4.1, by rw [ndL_eq hk]; exact h4.2.1, by rw [ndL_eq hk]; exact h4.2.2, q⟩
theorem Canons_law (hS : Cans l) (ha : AliOk l) {k : Nat} (hk : k < l.length) : ¬ canon l (k : Int) < 0 ∧ canon l (canon l (k : Int)) = canon l (k : Int) ∧ clsL l (canon l (k : Int)) = clsL l (k : Int) ∧ namesL l (canon l (k : Int)) = namesL l (k : Int) ∧
    (findL l (clsL l (k : Int)) (namesL l (k : Int))).2 = true ∧ ¬ (findL l (clsL l (k : Int)) (namesL l (k : Int))).1 > canon l (k : Int) ∧ canon l (findL l (clsL l (k : Int)) (namesL l (k : Int))).1 = (findL l (clsL l (k : Int)) (namesL l (k : Int))).1 := by
  obtain ⟨d, hc⟩ := hS.has hk
  obtain ⟨h1, h2⟩ := hc.snd
  have h3 := hc.same ha
  rw [canon_in hc, canon_in hc.idem, clsN h1, clsN hk, namesN h1, namesN hk, h3.1, h3.2]
  obtain ⟨j, e, g1, g2, g3, _⟩ := find_has (cls := (ndL l k).cls) (names := (ndL l k).names) h1 (by rw [ndL_eq h1]; exact h2) h3.1 h3.2
  rw [e]
  exact ⟨by omega, rfl, rfl, rfl, rfl, by show ¬ ((j : Int) > _); omega, canon_self g2 g3⟩
theorem Roots_law (hw : WF s) (h : Core n s) {i : Nat} {x : Cls} (hi : i < (clsOf n).length) (e : x = (clsOf n)[i]) : canon s.nodes (rootL s.nodes s.roots (i : Int)) = rootL s.nodes s.roots (i : Int) ∧ clsL s.nodes (rootL s.nodes s.roots (i : Int)) = (i : Int) ∧ namesL s.nodes (rootL s.nodes s.roots (i : Int)) = x.fields := by
  have hi2 : i < s.roots.length := by rw [h.rlen]; exact hi
  obtain ⟨r, h1, h2, h3, h4⟩ := h.root i hi2
  obtain ⟨d, hc⟩ := hw.can.has h2
  have er : s.roots[i] = (r : Int) := by rw [← h1, List.getD_eq_getElem?_getD, List.getElem?_eq_getElem hi2]; rfl
  obtain ⟨g1, g2⟩ := hc.snd
  have g3 := hc.same h.ali
  rw [rootL_in hi2, er, canon_in hc, canon_in hc.idem, clsN g1, namesN g1, g3.1, g3.2, h3, h4]
  refine ⟨rfl, rfl, ?_⟩
  rw [List.getD_eq_getElem?_getD, List.getElem?_eq_getElem hi, e]
  rfl
theorem namesL_len {l : List Nd} (h : Small l) (k : Int) : (namesL l k).length ≤ 1000000 := by
  unfold namesL
  split
  · rename_i hk
    have hk2 := thereL_iff.1 hk
    rw [ndL_eq (k := k.toNat) (by omega)]
    exact h.names _ (by omega)
  · simp
theorem Tree.small {R c : Hp} {p : Nat} (h : Tree R p s c) : Small s.nodes := by
  obtain ⟨_, _, _, _, _, _, _, _, _, _, _, _, _, _, hs, _⟩ := h
  exact hs
theorem Tree.wf {R c : Hp} {p : Nat} (h : Tree R p s c) : WF s := by
  obtain ⟨_, _, _, _, _, _, _, _, _, _, _, _, _, hw, _⟩ := h
  exact hw
theorem Slot_in {k : Nat} {t : Str} (hk : k < l.length) : (slotL l (k : Int) t).2 = decide (t ∈ namesL l (k : Int)) := by
  rw [slotL_in hk, namesL_in hk]
  exact idxS_mem t _
theorem idxS_app {t : Str} {xs : List Str} (h : t ∉ xs) : idxS t (xs ++ [t]) = (xs.length : Int) := by
  refine idxS_at (by simp) (fun j hj hlt e => h ?_) (by simp)
  rw [List.getElem_append_left (by simpa using hlt)] at e
  rw [e]
  exact List.getElem_mem _
theorem mem_of_get {κ β : Type} [DecidableEq κ] {m : List (κ × β)} {k : κ} {v : β} (h : AL.get m k = some v) : (k, v) ∈ m := by
  induction m with
  | nil => cases h
  | cons p m ih =>
    obtain ⟨a, b⟩ := p
    simp only [AL.get] at h
    split at h
    · rename_i e; subst e; cases h; exact List.mem_cons_self ..
    · exact List.mem_cons_of_mem _ (ih h)
/-- What an addition that is refused does. -/
theorem Adds_no (hw : WF s) (h : Core n s) {k : Nat} {t : Str} (hk : k < s.nodes.length) (ht : (slotL s.nodes (k : Int) t).2 = true ∨ t = eStr) : (s.add (k : Int) t).2.1 = 13 ∧ (s.add (k : Int) t).2.2 = s := by
  obtain ⟨d, hc⟩ := hw.can.has hk
  obtain ⟨g1, g2⟩ := hc.snd
  have g3 := hc.same h.ali
  have e := add_name (s := s) (name := t) hk (List.getElem?_eq_getElem g1) (by
    rcases ht with ht | ht
    · right
      rw [Slot_in hk, decide_eq_true_eq, namesN hk, ← g3.2, ndL_eq g1] at ht
      exact ht
    · exact .inl ht)
  rw [e]
  exact ⟨rfl, rfl⟩
/-- What an addition does. -/
theorem Adds_law (hw : WF s) (h : Core n s) {k : Nat} {t : Str} (hk : k < s.nodes.length) (ht : (slotL s.nodes (k : Int) t).2 = false) (ht2 : ¬ t = eStr) (hb : ∀ x ∈ s.nodes, x.names.length < 64) (hl : s.nodes.length < 200) :
    (s.add (k : Int) t).2.1 = 0 ∧ ((s.add (k : Int) t).2.2.add (k : Int) t).2.1 = 0 ∧ (s.add (k : Int) t).1 = ((s.add (k : Int) t).2.2.add (k : Int) t).1 ∧ ((s.add (k : Int) t).2.2.add (k : Int) t).2.2 = (s.add (k : Int) t).2.2 ∧
      (slotL (s.add (k : Int) t).2.2.nodes (s.add (k : Int) t).1 t).2 = true ∧ (slotL (s.add (k : Int) t).2.2.nodes (s.add (k : Int) t).1 t).1 = ((namesL s.nodes (k : Int)).length : Int) ∧
      namesL (s.add (k : Int) t).2.2.nodes (s.add (k : Int) t).1 = namesL s.nodes (k : Int) ++ [t] ∧ clsL (s.add (k : Int) t).2.2.nodes (s.add (k : Int) t).1 = clsL (s.add (k : Int) t).2.2.nodes (k : Int) ∧
      canon (s.add (k : Int) t).2.2.nodes (s.add (k : Int) t).1 = (s.add (k : Int) t).1 ∧ (s.add (k : Int) t).2.2.nodes.length ≤ s.nodes.length + 1 := by
  obtain ⟨d, hc⟩ := hw.can.has hk
  obtain ⟨g1, g2⟩ := hc.snd
  have g3 := hc.same h.ali
  have hno : t ∉ (ndL s.nodes k).names := by
    rw [Slot_in hk, decide_eq_false_iff_not, namesN hk] at ht
    exact ht
  have hx : s.nodes[cn s.nodes k]? = some (ndL s.nodes (cn s.nodes k)) := by rw [List.getElem?_eq_getElem g1, ndL_eq g1]
  have hno2 : t ∉ (ndL s.nodes (cn s.nodes k)).names := by rw [g3.2]; exact hno
  have fin : ∀ (l' : List Nd) (v : Nat), v < l'.length → k < l'.length → (ndL l' v).names = (ndL s.nodes k).names ++ [t] → (slotL l' (v : Int) t).2 = true ∧ (slotL l' (v : Int) t).1 = ((namesL s.nodes (k : Int)).length : Int) ∧ namesL l' (v : Int) = namesL s.nodes (k : Int) ++ [t] := fun l' v hv hk' e => by
    rw [slotL_in hv, ← ndL_eq hv, namesN hv, namesN hk, e, idxS_app hno]
    exact ⟨by simp, by show max _ _ = _; omega, rfl⟩
  cases hg : AL.get s.next ((cn s.nodes k : Int), t) with
  | some to =>
    have e := add_link (s := s) (name := t) hk hx ht2 hno2 (by rw [hg]; rfl)
    rw [hg] at e
    simp only [Option.getD_some] at e
    obtain ⟨c, v, h1, h2, h3, h4, h5, h6, h7⟩ := h.next _ (mem_of_get hg)
    simp only at h1 h2 h6
    have h1 := Int.ofNat.inj h1
    subst h1; subst h2
    obtain ⟨d2, hc2⟩ := hw.can.has h4
    obtain ⟨q1, q2⟩ := hc2.snd
    have q3 := hc2.same h.ali
    rw [canon_in hc2] at e
    rw [e]
    simp only
    rw [e]
    obtain ⟨f1, f2, f3⟩ := fin s.nodes (cn s.nodes v) q1 hk (by rw [q3.2, h6, g3.2])
    refine ⟨by trivial, by trivial, by trivial, by trivial, f1, f2, f3, ?_, canon_in hc2.idem, by omega⟩
    rw [clsN q1, clsN hk, q3.1, h5, g3.1]
  | none =>
    have e := add_new (s := s) (name := t) hk hx ht2 hno2 (by rw [hg]; rfl) (by have := hb (ndL s.nodes (cn s.nodes k)) (by rw [ndL_eq g1]; exact List.getElem_mem _); omega) (by omega)
    have hg1 : (s.add (k : Int) t).2.2.nodes = s.nodes ++ [⟨(ndL s.nodes (cn s.nodes k)).cls, -1, (ndL s.nodes (cn s.nodes k)).names ++ [t]⟩] := by rw [e]; rfl
    have hg2 : (s.add (k : Int) t).2.2.next = AL.set s.next ((cn s.nodes k : Int), t) (s.nodes.length : Int) := by rw [e]; rfl
    have e1 : (s.add (k : Int) t).1 = (s.nodes.length : Int) := by rw [e]
    have e2 : (s.add (k : Int) t).2.1 = 0 := by rw [e]
    have hw2 := hw.add (k : Int) t
    generalize (s.add (k : Int) t).2.2 = s2 at hg1 hg2 hw2 ⊢
    rw [e1, e2]
    have hl2 : s2.nodes.length = s.nodes.length + 1 := by rw [hg1]; simp
    have hk2 : k < s2.nodes.length := by omega
    have hcn : cn s2.nodes k = cn s.nodes k := by rw [hg1]; exact cn_eq (hc.append _)
    have hlast : ndL s2.nodes s.nodes.length = ⟨(ndL s.nodes (cn s.nodes k)).cls, -1, (ndL s.nodes (cn s.nodes k)).names ++ [t]⟩ := by rw [hg1]; exact ndL_last _ _
    have hcan : canon s2.nodes (s.nodes.length : Int) = (s.nodes.length : Int) := canon_self (by omega) (by rw [hlast]; show (-1 : Int) < 0; decide)
    have hcold : ndL s2.nodes (cn s.nodes k) = ndL s.nodes (cn s.nodes k) := by rw [hg1]; exact ndL_app g1
    have hx2 : s2.nodes[cn s2.nodes k]? = some (ndL s.nodes (cn s.nodes k)) := by rw [hcn, ← hcold, ndL_eq (l := s2.nodes) (by omega), List.getElem?_eq_getElem]
    have hget : AL.get s2.next ((cn s2.nodes k : Int), t) = some (s.nodes.length : Int) := by rw [hg2, hcn, AL.get_set, if_pos rfl]
    have e3 := add_link (s := s2) (name := t) hk2 hx2 ht2 hno2 (by rw [hget]; rfl)
    rw [hget] at e3
    simp only [Option.getD_some] at e3
    rw [hcan] at e3
    rw [e3]
    obtain ⟨f1, f2, f3⟩ := fin s2.nodes s.nodes.length (by omega) hk2 (by rw [hlast]; show (ndL s.nodes (cn s.nodes k)).names ++ [t] = _; rw [g3.2])
    refine ⟨rfl, rfl, rfl, rfl, f1, f2, f3, ?_, hcan, by omega⟩
    rw [clsN (by omega), clsN hk2, hlast, hg1, ndL_app hk]
    exact g3.1
end Go.Fx.YtjpdhfhiimbpgaaGreatDoor

set_option linter.unusedSimpArgs false
set_option linter.unusedVariables false
set_option linter.unusedSectionVars false
namespace Go.Fx.YtjpdhfhiimbpgaaGreatDoor
open Go Go.Fx Go.Proofs
set_option maxRecDepth 20000
variable {s : TS} {b : Nat} {n : Int}
theorem nd0_mem {l : List Nd} {k : Nat} (h : k < l.length) : l.getD k nd0 ∈ l := by
  rw [List.getD_eq_getElem?_getD, List.getElem?_eq_getElem h]
  exact List.getElem_mem h
theorem Bd.up (h : Bd s b) {b' : Nat} (hb : b ≤ b') : Bd s b' :=
  ⟨h.cls, fun x hx => by have := h.names x hx; omega, h.sizes, by have := h.len; omega, by have := h.nlen; omega, h.keys⟩
theorem Bd.addN (h : Bd s b) {cls : Int} {names : List Str} (h1 : 0 ≤ cls ∧ cls < 3) (h2 : names.length ≤ 3 + (b + 1)) (h3 : ∀ t ∈ names, t.size ≤ 7) : Bd (s.addN cls names) (b + 1) := by
  have hu := h.up (b' := b + 1) (by omega)
  refine ⟨fun x hx => ?_, fun x hx => ?_, fun x hx => ?_, by have := h.len; simp [TS.addN]; omega, hu.nlen, hu.keys⟩
  all_goals (rcases List.mem_append.1 hx with hx | hx)
  · exact h.cls x hx
  · obtain rfl := List.mem_singleton.1 hx; exact h1
  · exact hu.names x hx
  · obtain rfl := List.mem_singleton.1 hx; exact h2
  · exact h.sizes x hx
  · obtain rfl := List.mem_singleton.1 hx; exact h3
theorem AL.set_len {κ β : Type} [DecidableEq κ] (m : List (κ × β)) (k : κ) (v : β) : (AL.set m k v).length ≤ m.length + 1 := by
  induction m with
  | nil => simp [AL.set]
  | cons p m ih =>
    obtain ⟨a, c⟩ := p
    simp only [AL.set]
    split
    · simp
    · simp only [List.length_cons]; omega
theorem Bd.add (hw : WF s) (h : Bd s b) (k : Int) {t : Str} (ht : t.size ≤ 7) : Bd (s.add k t).2.2 (b + 1) := by
  have hu := h.up (b' := b + 1) (by omega)
  unfold TS.add
  split
  · exact hu
  · rename_i hth
    split
    · exact hu
    · split
      · exact hu
      · split
        · exact hu
        · have hk : 0 ≤ k ∧ k < (s.nodes.length : Int) := TS.there_iff.1 (by simpa using hth)
          have hm : s.nd (cn s.nodes k.toNat) ∈ s.nodes := nd0_mem (hw.can.lt (k := k.toNat) (by omega))
          have h2 := h.addN (cls := (s.nd (cn s.nodes k.toNat)).cls) (names := (s.nd (cn s.nodes k.toNat)).names ++ [t]) (h.cls _ hm) (by have := h.names _ hm; simp; omega) (fun u hu => by
            rcases List.mem_append.1 hu with hu | hu
            · exact h.sizes _ hm u hu
            · obtain rfl := List.mem_singleton.1 hu; exact ht)
          refine ⟨h2.cls, h2.names, h2.sizes, h2.len, ?_, fun e he => ?_⟩
          · have h4 := h.nlen
            have := AL.set_len s.next ((cn s.nodes k.toNat : Int), t) (s.nodes.length : Int)
            show (AL.set s.next _ _).length ≤ b + 1
            omega
          · rcases AL.mem_set he with rfl | he
            · exact ht
            · exact h.keys e he
theorem Bd.make (h : Bd s b) {c : Int} {xs : List Str} (hr : s.roots.length ≤ 3) (h2 : xs.length ≤ 3) (h3 : ∀ t ∈ xs, t.size ≤ 7) : Bd (s.make c xs).2.2 (b + 1) := by
  have hu := h.up (b' := b + 1) (by omega)
  unfold TS.make
  split
  · exact hu
  · rename_i hc
    split
    · exact hu
    · split
      · exact hu
      · split
        · exact hu
        · exact h.addN (by omega) (by omega) h3
theorem Bd.merge (h : Bd s b) (x y : Int) (hw : WF s) : Bd (s.merge x y).2 (b + 1) := by
  have hu := h.up (b' := b + 1) (by omega)
  unfold TS.merge
  split
  · rename_i hab
    simp only
    split
    · exact hu
    · have hb := TS.there_iff.1 hab.2.1
      have hm := nd0_mem (hw.can.lt (k := y.toNat) (by omega))
      have key : ∀ z ∈ setAli s.nodes (cn s.nodes y.toNat) (cn s.nodes x.toNat : Int), ∃ z' ∈ s.nodes, z.cls = z'.cls ∧ z.names = z'.names := fun z hz => by
        rcases List.mem_or_eq_of_mem_set hz with hz | rfl
        · exact ⟨z, hz, rfl, rfl⟩
        · exact ⟨_, hm, rfl, rfl⟩
      refine ⟨fun z hz => ?_, fun z hz => ?_, fun z hz => ?_, by show (setAli _ _ _).length ≤ _; rw [setAli_len]; exact hu.len, hu.nlen, hu.keys⟩
      all_goals obtain ⟨z', hz', e1, e2⟩ := key z hz
      · rw [e1]; exact h.cls _ hz'
      · rw [e2]; exact hu.names _ hz'
      · rw [e2]; exact h.sizes _ hz'
  · exact hu
theorem Bd.split (h : Bd s b) (a : Int) (hw : WF s) : Bd (s.split a).2.2 (b + 1) := by
  have hu := h.up (b' := b + 1) (by omega)
  unfold TS.split
  split
  · exact hu
  · rename_i hth
    split
    · exact hu
    · have hk : 0 ≤ a ∧ a < (s.nodes.length : Int) := TS.there_iff.1 (by simpa using hth)
      have hm : s.nd (cn s.nodes a.toNat) ∈ s.nodes := nd0_mem (hw.can.lt (k := a.toNat) (by omega))
      have h2 := h.addN (cls := (s.nd (cn s.nodes a.toNat)).cls) (names := (s.nd (cn s.nodes a.toNat)).names) (h.cls _ hm) (by have := h.names _ hm; omega) (h.sizes _ hm)
      refine ⟨h2.cls, h2.names, h2.sizes, h2.len, ?_, fun e he => ?_⟩
      · simp only [TS.splitC, List.length_map]; exact hu.nlen
      · obtain ⟨e0, he0, rfl⟩ := List.mem_map.1 he
        exact h.keys e0 he0
theorem Bd.act (h : Bd s b) (hw : WF s) (hr : s.roots.length ≤ 3) (a : Ac) (m : Nat) : Bd (s.act a m).2.2 (b + 1) := by
  unfold TS.act
  split
  · exact h.merge _ _ hw
  · split
    · exact h.split _ hw
    · split
      · exact h.make hr (someL_len _) (fun t ht => by have := someN_size _ t ht; omega)
      · exact h.add hw _ (by have := nameOf_size a.nm; omega)
theorem Core.roots3 (h : Core n s) : s.roots.length ≤ 3 := by
  rw [h.rlen, clsOf_len]
  have := kN3 n
  omega
theorem Bd.new (n : Int) : Bd (newTS (clsOf n)) 0 := by
  have h3 := kN3 n
  have key : ∀ x ∈ (newTS (clsOf n)).nodes, ∃ j : Nat, j < (clsOf n).length ∧ x = ⟨(j : Int), -1, ((clsOf n).getD j ⟨eStr, []⟩).fields⟩ := fun x hx => by
    obtain ⟨j, hj, rfl⟩ := List.mem_map.1 hx
    exact ⟨j, List.mem_range.1 hj, rfl⟩
  have hm : ∀ j, j < (clsOf n).length → (clsOf n).getD j ⟨eStr, []⟩ ∈ clsOf n := fun j hj => by
    rw [List.getD_eq_getElem?_getD, List.getElem?_eq_getElem hj]; exact List.getElem_mem hj
  have hl := clsOf_len n
  refine ⟨fun x hx => ?_, fun x hx => ?_, fun x hx => ?_, by rw [newTS_len]; omega, by simp [newTS], fun e he => by cases he⟩
  all_goals obtain ⟨j, hj, rfl⟩ := key x hx
  · exact ⟨by show 0 ≤ (j : Int); omega, by show (j : Int) < 3; omega⟩
  · have := (clsOf_mem (hm j hj)).1
    show ((clsOf n).getD j ⟨eStr, []⟩).fields.length ≤ 3 + 0
    omega
  · intro t ht
    have := (clsOf_mem (hm j hj)).2 t ht
    omega
theorem playK_bd (n : Int) (acts : List Ac) : ∀ k, Bd (playK n acts k) k
  | 0 => Bd.new n
  | k + 1 => (playK_bd n acts k).act (playK_wf n acts k) (playK_core n acts k).roots3 _ _
theorem played_wf (n : Int) (acts : List Ac) : WF (played n acts) := playK_wf _ _ _
theorem played_core (n : Int) (acts : List Ac) : Core n (played n acts) := playK_core _ _ _
theorem played_bd (n : Int) (acts : List Ac) : Bd (played n acts) 60 := (playK_bd n acts _).up (by omega)
theorem Bd.nice (h : Bd s b) (hb : b ≤ 64) (hr : s.roots.length ≤ 3) : Nice s where
  nodes := by have := h.len; omega
  roots := by omega
  cls := fun x hx => by have := h.cls x hx; omega
  names := fun x hx => by have := h.names x hx; omega
  sizes := fun x hx t ht => by have := h.sizes x hx t ht; omega
  next := by have := h.nlen; omega
  keys := fun e he => by have := h.keys e he; omega
theorem act_pos (s : TS) (a : Ac) (m : Nat) : s.nodes.length ≤ (s.act a m).2.2.nodes.length := by
  unfold TS.act TS.split TS.make TS.add
  split
  · simp only [merge_len]; omega
  · split
    · split
      · simp
      · split <;> simp [TS.splitC]
    · split
      · split
        · simp
        · split
          · simp
          · split
            · simp
            · split <;> simp [TS.addN]
      · split
        · simp
        · split
          · simp
          · split
            · simp
            · split <;> simp [TS.addN]
theorem playK_pos (n : Int) (acts : List Ac) : ∀ k, 0 < (playK n acts k).nodes.length
  | 0 => by rw [playK, newTS_len]; omega
  | k + 1 => Nat.lt_of_lt_of_le (playK_pos n acts k) (by rw [playK]; exact act_pos _ _ _)
theorem played_pos (n : Int) (acts : List Ac) : 0 < (played n acts).nodes.length := playK_pos _ _ _
theorem namesL_bd {l : List Nd} {B : Nat} (h : ∀ x ∈ l, x.names.length ≤ B) (k : Int) : (namesL l k).length ≤ B := by
  unfold namesL
  split
  · rename_i hk
    have hk2 := thereL_iff.1 hk
    exact h _ (nd0_mem (l := l) (k := k.toNat) (by omega))
  · simp
end Go.Fx.YtjpdhfhiimbpgaaGreatDoor
