/-
  Chapter 14: the keys of a map of places, collected.
-/
import Derived.Test.YtdkjoljcffkpkaaDoorPr8
import Derived.Test.YtdkjoljcffkpkaaDoorFx22
set_option linter.unusedSimpArgs false
set_option linter.unusedVariables false
namespace Go.Fx.YtdkjoljcffkpkaaDoor
open Go Go.Fx Go.Proofs
set_option maxRecDepth 20000

theorem mtK : Tryd.prog.underlying 65 = some (.map 43 81) := by kernel_rfl
theorem tiK65 : TI Tryd.prog 65 false 1 8 (.map none) := ⟨by kernel_rfl, by kernel_rfl⟩
theorem tiK76 : TI Tryd.prog 76 false 1 24 (.slice none 0 0) := ⟨by kernel_rfl, by kernel_rfl⟩
theorem tiK43 : TI Tryd.prog 43 true 2 16 (.agg #[.int .i64 0, .int .i64 0]) := ⟨by kernel_rfl, by kernel_rfl⟩
theorem slK76 : SL Tryd.prog 76 43 := Tryd.underlying76
theorem ent54 : Ent Tryd.prog 54 := fun _ _ => by kernel_rfl
theorem ent61 : Ent Tryd.prog 61 := fun _ _ => by kernel_rfl

theorem perm_len {α : Type} {xs ys m : List α} {p : α} (h : (xs ++ p :: ys).Perm m) : xs.length < m.length := by
  have := h.length_eq
  simp at this
  omega
theorem pl_mk (R : Hp) (k : Pl) : Encs tyPl R [k] [.int .i64 k.1, .int .i64 k.2] := Encs.one (t := tyPl) ⟨[_], [_], rfl, rfl, rfl⟩

/-- The iterator of maps.Keys. -/
theorem Keys1_gives {R : Hp} {q b : Nat} {vr : Option Nat → Value → Prop} {m : List (Pl × Option Nat)} {cM : Hp} (h0 : Le (one q (.cells #[.map (some b)] 65 (0, 0))) R)
    (hM : MapC kk vr (some b) m cM) (hc : Le cM R) :
    Gives Tryd.prog 54 #[ptr q 0] m.length (fun xs => xs.Perm (AL.keys m)) (fun _ => True) (fun k => #[kk k]) R [] (fun _ L' => L' = []) := by
  intro l J Jx w Lb hs hJ hJx hY hj0
  obtain ⟨es, ck, hE⟩ := hM.open
  have hst : Step w R Lb w R Lb := Step.refl (by simpa using hs)
  refine calls_of_W (n := 14) Tryd.func54 rfl Tryd.ntmps54 (Nat.le_of_ble_eq_true rfl) ?_
  refine W_seq ?_
  refine W_region_lit ?_
  refine L_val (v := .map (some b)) (w' := w) rfl rfl rfl (x_load rfl rfl (run_loadVar_one tiK65 (hst.rle' _ _ (h0 _ _ (one_self _ _))) rfl)) ?_
  refine L_new hst (v := fun b => ptr b 0) rfl rfl rfl (x_range rfl rfl (run_range mtK hE (hc.trans hst.rle'))) (fun r w1 hst1 => ?_)
  have hI := It.start b r es ck m
  generalize one r (.mapIter (some b) ck #[] ck) = ci at hI hst1
  refine L_nil ?_
  refine W_block ?_
  refine W_loop (I := fun σ w_ n_ => ∃ (σ0 : Fr) (R_ ci : Hp) (L_ : List Hp) (xs ys : List (Pl × Option Nat)), σ = upd (upd (upd σ0 0 (.func (.yield l) #[] #[])) 1 (ptr q 0)) 5 (ptr r 0) ∧ mks (σ0 0) = [] ∧ Step w R Lb w_ R_ (ci :: L_) ∧ Le R R_ ∧
    It b r es ck m xs ci ∧ (xs ++ ys).Perm m ∧ J (xs.map (·.1)) R_ L_ ∧ n_ = m.length - xs.length) (m := m.length) ?_ ?_
  · exact ⟨_, R, ci, Lb, [], m, upd_of (upd_of (upd_of rfl rfl) rfl) rfl, rfl, hst1, Le.refl _, hI, by simp, hj0, by simp⟩
  · rintro n_ σ_ w2 ⟨σ0, R2, ci2, L2, xs, ys, rfl, hmk, hst2, hle, hI2, hys, hj, rfl⟩
    refine W_seq ?_
    refine W_region_lit ?_
    rcases run_next (P := Tryd.prog) 0 hE (hc.trans (hle.trans hst2.rle')) hI2 hst2 with ⟨hp, hr⟩ | ⟨p, v, w3, ci3, hr, hv, hm, ⟨zs, hz⟩, hI3, hst3, hent⟩
    · refine L_val (v := .tuple #[.bool false]) rfl rfl rfl (x_next rfl rfl hr) ?_
      refine L_val (v := .bool false) (w' := w2) rfl rfl rfl (by kernel_rfl) ?_
      refine L_nil ?_
      refine W_seq ?_
      refine W_cond_false rfl ?_
      refine W_exit ?_
      refine ⟨_, _, res_run (rs := []) (vs := []) Tryd.results54 .nil hmk, ⟨_, rfl⟩, R2, [], L2, ?_, rfl, .inl ⟨xs.map (·.1), hp.map _, hj⟩⟩
      exact hst2.drop
    · refine L_val (v := .tuple #[.bool true, kk p.1, v]) rfl rfl rfl (x_next rfl rfl hr) ?_
      refine L_val (v := .bool true) (w' := w3) rfl rfl rfl (by kernel_rfl) ?_
      refine L_nil ?_
      refine W_seq ?_
      refine W_cond_true rfl ?_
      refine W_skip ?_
      refine W_block ?_
      refine W_seq ?_
      refine W_region_lit ?_
      refine L_val (v := .tuple #[kk p.1, v]) (w' := w3) rfl rfl rfl (x_entry rfl rfl (hent _ (hc.trans (hle.trans hst3.rle')) (hst3.get (i := 0) rfl))) ?_
      refine L_val (v := kk p.1) (w' := w3) rfl rfl rfl (by kernel_rfl) ?_
      refine L_new hst3 (v := fun b => ptr b 0) (ob := .cells #[.int .i64 0, .int .i64 0] 43 (0, 0)) rfl rfl rfl (by kernel_rfl) (fun bx w3 hst3 => ?_)
      refine L_store hst3 0 tiK43 rfl rfl rfl rfl rfl rfl rfl rfl rfl rfl rfl (fun w3 hst3 => ?_)
      change Step _ _ _ _ _ (one bx (.cells #[.int .i64 p.1.1, .int .i64 p.1.2] 43 (0, 0)) :: ci3 :: L2) at hst3
      refine L_nil ?_
      refine W_seq ?_
      refine W_region_lit ?_
      refine L_val (v := .func (.yield l) #[] #[]) (w' := w3) rfl rfl rfl rfl ?_
      refine L_val (v := kk p.1) (w' := w3) rfl rfl rfl (x_load rfl rfl (run_loadVar_agg tiK43 (hst3.blk (i := 0) rfl) (l := [.int .i64 p.1.1, .int .i64 p.1.2]) rfl rfl)) ?_
      have hst4 := Step.rot (La := [one bx (.cells #[.int .i64 p.1.1, .int .i64 p.1.2] 43 (0, 0)), ci3]) (Lb := L2) hst3
      have hs4 : Sats w3 R2 L2 := hst3.drop.drop.sats
      refine L_yieldS L2 [one bx (.cells #[.int .i64 p.1.1, .int .i64 p.1.2] 43 (0, 0)), ci3] hst4 rfl rfl rfl (x_yield (vs := #[kk p.1]) rfl rfl (by kernel_rfl)) (hY (xs.map (·.1)) p.1 w3 R2 L2 hj hle hs4 (by rw [List.length_map]; exact perm_len hz)) (fun b5 w5 R5 L5 hp5 hle5 hst5 => ?_)
      have hst6 := (Step.rot (La := L5) (Lb := [one bx (.cells #[.int .i64 p.1.1, .int .i64 p.1.2] 43 (0, 0)), ci3]) hst5).drop
      cases b5 with
      | true =>
        refine L_val (v := .bool false) (w' := w5) rfl rfl rfl rfl ?_
        refine L_nil ?_
        refine W_cond_false rfl ?_
        refine W_skip ?_
        refine ⟨m.length - (xs ++ [p]).length, by have := perm_len hz; simp; omega, _, R5, ci3, L5, xs ++ [p], zs, upd_of (upd_of (upd_of rfl rfl) rfl) rfl, hmk, hst6, hle.trans hle5, hI3, by simpa using hz, ?_, rfl⟩
        simpa using hp5
      | false =>
        refine L_val (v := .bool true) (w' := w5) rfl rfl rfl rfl ?_
        refine L_nil ?_
        refine W_cond_true rfl ?_
        refine W_ret ?_
        refine ⟨_, _, res_run (rs := []) (vs := []) Tryd.results54 .nil hmk, ⟨_, rfl⟩, R5, [], L5, ?_, rfl, .inr ⟨xs.map (·.1) ++ [p.1], trivial, by simpa using hp5⟩⟩
        exact hst6.drop

/-- slices.AppendSeq onto nothing. -/
theorem AppendSeq_spec {w : World} {R : Hp} {g : Nat} {lb : Array Value} {N : Nat} {S Sp : List Pl → Prop} (hs : Sats w R []) (eg : Ent Tryd.prog g) (hN : N ≤ 1099511627776)
    (hg : ∀ R1, Le R R1 → Gives Tryd.prog g lb N S Sp (fun k => #[kk k]) R1 [] (fun _ L' => L' = [])) :
    Calls Tryd.prog 61 #[.slice none 0 0, .func (.func g) #[] lb] w (Comes' w R [] fun v' R' L' => ∃ c xs, L' = [c] ∧ S xs ∧ OwnL tyPl 43 R' v' xs c) := by
  have hst := Step.refl hs
  refine calls_of_W (n := 13) Tryd.func61 rfl Tryd.ntmps61 (Nat.le_of_ble_eq_true rfl) ?_
  refine W_seq ?_
  refine W_region_lit ?_
  refine L_new hst (v := fun b => ptr b 0) (ob := .cells #[.slice none 0 0] 76 (0, 0)) rfl rfl rfl (by kernel_rfl) (fun B w1 hst1 => ?_)
  refine L_val (v := .slice none 0 0) (w' := w1) rfl rfl rfl rfl ?_
  refine L_nil ?_
  refine W_seq ?_
  refine W_seq ?_
  refine W_region_lit ?_
  refine L_val (v := .func (.func g) #[] lb) (w' := w1) rfl rfl rfl rfl ?_
  refine L_nil ?_
  refine W_block ?_
  have hst2 := (hst1.nothing).front 1 rfl rfl
  refine W_rangeFuncB (α := Pl) (ps := #[7]) (enc := fun k => #[kk k]) (Lit := []) (Lb := [one B (.cells #[.slice none 0 0] 76 (0, 0)), non]) rfl eg hst2 (hg R (Le.refl _))
    (fun pre R1 L1 => ∃ v c, L1 = [one B (.cells #[v] 76 (0, 0)), c] ∧ OwnL tyPl 43 R1 v pre c) (fun _ _ _ _ => False) (fun pre R1 R2 L1 hle ⟨v, c, e, h⟩ => ⟨v, c, e, h.mono hle⟩) (fun _ _ _ _ _ _ h => h)
    ⟨_, _, rfl, OwnL.empty _ _ _⟩ rfl (fun _ => rfl) ?_ ?_ (fun _ _ _ _ _ _ _ _ h => h.elim)
  · rintro l pre x w3 R3 L3 ⟨v, c, rfl, how⟩ hle hlen hs3
    have hst3 := Step.refl hs3
    refine W_region_lit ?_
    refine L_new hst3 (v := fun b => ptr b 0) (ob := .cells #[.int .i64 0, .int .i64 0] 43 (0, 0)) rfl rfl rfl (by kernel_rfl) (fun bx w3' hst3 => ?_)
    refine L_store hst3 0 tiK43 (v := kk x) rfl rfl rfl rfl rfl rfl rfl rfl rfl rfl rfl (fun w3' hst3 => ?_)
    change Step _ _ _ _ _ [one bx (.cells #[.int .i64 x.1, .int .i64 x.2] 43 (0, 0)), one B (.cells #[v] 76 (0, 0)), c] at hst3
    refine L_nil ?_
    refine ⟨_, hst3, fun w4 hs4 => ?_⟩
    have hst4 := Step.refl hs4
    refine W_block ?_
    refine W_region_lit ?_
    obtain ⟨a_, cap_, rfl, hcap⟩ := how.value
    refine L_val (v := .slice a_ pre.length cap_) (w' := w4) rfl rfl rfl (x_load rfl rfl (run_loadVar_one tiK76 (hst4.blk (i := 1) rfl) rfl)) ?_
    refine L_val (v := kk x) (w' := w4) rfl rfl rfl (x_load rfl rfl (run_loadVar_agg tiK43 (hst4.blk (i := 0) rfl) (l := [.int .i64 x.1, .int .i64 x.2]) rfl rfl)) ?_
    refine L_new hst4 (v := fun b => .slice (some ⟨b, 0, none⟩) 1 1) (ob := .cells #[.int .i64 x.1, .int .i64 x.2] 43 (0, 0)) rfl rfl rfl (by kernel_rfl) (fun b5 w5 hst5 => ?_)
    refine L_append hst5 (t := 76) (e := 43) (ys := [x]) (src := [.int .i64 x.1, .int .i64 x.2]) 3 rfl rfl rfl rfl rfl rfl slK76 tiK43 rfl rfl rfl how (src_own (hst5.blk (i := 0) rfl)) (pl_mk _ _) rfl
      (by omega) (by simp only [maxLen]; omega) (fun v6 c6 w6 ho6 hst6 => ?_)
    refine L_store hst6 3 tiK76 rfl rfl rfl rfl rfl rfl ?_ ?_ rfl rfl rfl (fun w7 hst7 => ?_)
    · obtain ⟨a7, cap7, rfl, _⟩ := ho6.value; rfl
    · obtain ⟨a7, cap7, rfl, _⟩ := ho6.value; rfl
    refine L_nil ?_
    refine ⟨R3, [one B (.cells #[v6] 76 (0, 0)), c6], ?_, v6, c6, ?_, ho6⟩
    · obtain ⟨a7, cap7, rfl, _⟩ := ho6.value
      exact (hst7.front 3 rfl rfl |>.front 1 rfl rfl |>.front 1 rfl rfl).keepN 2 rfl
    · rfl
  · rintro D xs w3 R3 Lit3 L3 hS ⟨v, c, rfl, how⟩ rfl hle hst3
    refine W_seq ?_
    refine W_region_lit ?_
    obtain ⟨a_, cap_, rfl, hcap⟩ := how.value
    refine L_val (v := .slice a_ xs.length cap_) (w' := w3) rfl rfl rfl (x_load rfl rfl (run_loadVar_one tiK76 (hst3.blk (i := 1) rfl) rfl)) ?_
    refine L_val (v := .slice a_ xs.length cap_) (w' := w3) rfl rfl rfl rfl ?_
    refine L_nil ?_
    refine W_ret ?_
    refine ⟨_, _, res_run1 (D := D) (rs := [.tmp 4]) (vs := [.slice a_ xs.length cap_]) Tryd.results61 (hst3.blk (i := 0) rfl) (.cons (.tmp rfl) .nil) rfl, ?_⟩
    have hst4 := (hst3.set0 (.deferred none)).drop
    exact ⟨_, R3, [c], rfl, hst4.drop, c, xs, rfl, hS, how⟩

/-- slices.Collect. -/
theorem Collect_spec {w : World} {R : Hp} {g : Nat} {lb : Array Value} {N : Nat} {S Sp : List Pl → Prop} (hs : Sats w R []) (eg : Ent Tryd.prog g) (hN : N ≤ 1099511627776)
    (hg : ∀ R1, Le R R1 → Gives Tryd.prog g lb N S Sp (fun k => #[kk k]) R1 [] (fun _ L' => L' = [])) :
    Calls Tryd.prog 52 #[.func (.func g) #[] lb] w (Comes' w R [] fun v' R' L' => ∃ c xs, L' = [c] ∧ S xs ∧ OwnL tyPl 43 R' v' xs c) := by
  have hst := Step.refl hs
  refine calls_of_W (n := 5) Tryd.func52 rfl Tryd.ntmps52 (Nat.le_of_ble_eq_true rfl) ?_
  refine W_seq ?_
  refine W_region_lit ?_
  refine L_val (v := .slice none 0 0) (w' := w) rfl rfl rfl rfl ?_
  refine L_nil ?_
  refine W_seq ?_
  refine W_region_lit ?_
  refine L_val (v := .func (.func g) #[] lb) (w' := w) rfl rfl rfl rfl ?_
  refine L_callS [] [] hst rfl rfl rfl (x_call (vs := #[.slice none 0 0, .func (.func g) #[] lb]) rfl rfl (by kernel_rfl) ent61) (AppendSeq_spec hs eg hN hg) (fun v1 w1 R1 L1 hp1 hle1 hst1 => ?_)
  obtain ⟨c, xs, rfl, hS, how⟩ := hp1
  refine L_val (v := v1) (w' := w1) rfl rfl rfl rfl ?_
  refine L_nil ?_
  refine W_ret ?_
  refine ⟨_, _, res_run (rs := [.tmp 2]) (vs := [v1]) Tryd.results52 (.cons (.tmp rfl) .nil) rfl, ?_⟩
  exact ⟨_, R1, [c], rfl, hst1, c, xs, rfl, hS, how⟩
end Go.Fx.YtdkjoljcffkpkaaDoor
namespace Go.Fx.YtdkjoljcffkpkaaDoor
open Go Go.Fx Go.Proofs
set_option maxRecDepth 20000

/-- The first number that is not zero. -/
def orF : List Int → Int
  | [] => 0
  | x :: xs => if x = 0 then orF xs else x
theorem orF_yes {xs : List Int} {k : Nat} {q : Int} (hk : k < xs.length) (h : orF (xs.drop k) = q) (hx : xs[k] ≠ 0) : xs[k] = q := by
  rw [List.drop_eq_getElem_cons hk] at h
  simp only [orF] at h
  rw [if_neg hx] at h
  exact h
theorem orF_no {xs : List Int} {k : Nat} {q : Int} (hk : k < xs.length) (h : orF (xs.drop k) = q) (hx : xs[k] = 0) : orF (xs.drop (k + 1)) = q := by
  rw [List.drop_eq_getElem_cons hk] at h
  simp only [orF] at h
  rw [if_pos hx] at h
  exact h
theorem orF_end {xs : List Int} {k : Nat} {q : Int} (hk : xs.length ≤ k) (h : orF (xs.drop k) = q) : 0 = q := by
  rw [List.drop_eq_nil_of_le hk] at h
  exact h
theorem ret_int {a b : Int} (h : a = b) : Ending.returned (retV [int a]) = .returned (int b) := by subst h; rfl

/-- By the first number, then by the second. -/
def leP (a b : Pl) : Bool := decide (a.1 < b.1 ∨ (a.1 = b.1 ∧ a.2 ≤ b.2))
theorem leP_trans : ∀ a b c, leP a b = true → leP b c = true → leP a c = true := fun a b c h1 h2 => by simp only [leP, decide_eq_true_eq] at *; omega
theorem leP_total : ∀ a b, (leP a b || leP b a) = true := fun a b => by simp only [leP, Bool.or_eq_true, decide_eq_true_eq]; omega
/-- How places are compared. -/
def cmpP (a b : Pl) : Int := orF [Lib.compareInt a.1 b.1, Lib.compareInt a.2 b.2]
theorem cmpP_lt (a b : Pl) : cmpP a b < 0 ↔ leP b a = false := by
  simp only [cmpP, orF, leP, decide_eq_false_iff_not, Lib.compareInt]
  by_cases h1 : a.1 < b.1 <;> by_cases h2 : b.1 < a.1 <;> by_cases h3 : a.2 < b.2 <;> by_cases h4 : b.2 < a.2 <;> simp [h1, h2, h3, h4] <;> omega
theorem le_of_lt {a b : Pl} (h : cmpP a b < 0) : leP a b = true := by
  have h1 := (cmpP_lt a b).1 h
  have h2 := leP_total a b
  rw [h1, Bool.or_false] at h2
  exact h2
theorem le_of_nlt {a b : Pl} (h : ¬ cmpP a b < 0) : leP b a = true := by
  cases e : leP b a with
  | true => rfl
  | false => exact absurd ((cmpP_lt a b).2 e) h
theorem tyPl_open {R : Hp} {x : Pl} {c : List Value} (h : tyPl.rel R x c) : c = [.int .i64 x.1, .int .i64 x.2] := by
  obtain ⟨c1, c2, rfl, e1, e2⟩ := h
  have h1 : c1 = [_] := e1
  have h2 : c2 = [_] := e2
  subst h1; subst h2; rfl
theorem tyPl_mk (R : Hp) (a b : Int) : tyPl.rel R (a, b) [.int .i64 a, .int .i64 b] := ⟨[_], [_], rfl, rfl, rfl⟩
theorem tyPl_mk' (R : Hp) (x : Pl) : tyPl.rel R x [.int .i64 x.1, .int .i64 x.2] := ⟨[_], [_], rfl, rfl, rfl⟩
/-- How many bits n takes, up to 12. -/
def bl (n : Nat) : Int := Lib.bitLen (n : Int).toNat
theorem upto12 {n : Nat} (h : n ≤ 12) : n = 0 ∨ n = 1 ∨ n = 2 ∨ n = 3 ∨ n = 4 ∨ n = 5 ∨ n = 6 ∨ n = 7 ∨ n = 8 ∨ n = 9 ∨ n = 10 ∨ n = 11 ∨ n = 12 := by omega
theorem conv12 {n : Nat} (hn : n ≤ 12) (w : World) : (convert 3 122 (int (n : Int))).run Tryd.prog w = .ok (.int .u64 (n : Int)) w := by
  rcases upto12 hn with rfl | rfl | rfl | rfl | rfl | rfl | rfl | rfl | rfl | rfl | rfl | rfl | rfl <;> kernel_rfl
theorem x_conv12 {w : World} {ρ : Operand → Value} {o : Oper} {x : Operand} {n : Nat} (ho : o.op = .convert 3 122 x) (hx : ρ x = int (n : Int)) (hn : n ≤ 12) : (execOp ρ o).run Tryd.prog w = .ok (.value (.int .u64 (n : Int))) w := by
  unfold execOp
  simp [ho, hx, conv12 hn]
theorem Len_G {w : World} {n : Nat} (hn : n ≤ 12) : Calls Tryd.prog 63 #[.int .u64 (n : Int)] w fun e w' => e = .returned (int (bl n)) ∧ Grow w w' :=
  (Tryd.bits_Len n w (by omega) (by omega)).mono fun e w' ⟨he, hw⟩ => ⟨he, by rw [hw]; exact Grow.refl _⟩
theorem Compare_G {w : World} (x y : Int) : Calls Tryd.prog 38 #[int x, int y] w fun e w' => e = .returned (int (Lib.compareInt x y)) ∧ Grow w w' :=
  (Tryd.cmp_Compare_int x y w).mono fun e w' ⟨he, hw⟩ => ⟨he, by rw [hw]; exact Grow.refl _⟩
end Go.Fx.YtdkjoljcffkpkaaDoor
