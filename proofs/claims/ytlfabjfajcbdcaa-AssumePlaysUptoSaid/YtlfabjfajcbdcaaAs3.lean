/-
  Chapter 27: the keys of a map, collected.
-/
import Derived.Test.YtlfabjfajcbdcaaAs2
set_option linter.unusedSimpArgs false
set_option linter.unusedVariables false
namespace Go.Fx.Ytlfabjfajcbdcaa
open Go Go.Fx Go.Proofs
set_option maxRecDepth 20000

theorem mt58 : Try.prog.underlying 58 = some (.map 3 29) := by kernel_rfl
theorem ti58 : TI Try.prog 58 false 1 8 (.map none) := ⟨by kernel_rfl, by kernel_rfl⟩
theorem ti31 : TI Try.prog 31 false 1 24 (.slice none 0 0) := ⟨by kernel_rfl, by kernel_rfl⟩
theorem ti3 : TI Try.prog 3 false 1 8 (.int .i64 0) := ⟨by kernel_rfl, by kernel_rfl⟩
theorem sl31 : SL Try.prog 31 3 := Try.underlying31
theorem ent46 : Ent Try.prog 46 := fun _ _ => by kernel_rfl

theorem perm_len {α : Type} {xs ys m : List α} {p : α} (h : (xs ++ p :: ys).Perm m) : xs.length < m.length := by
  have := h.length_eq
  simp at this
  omega

/-- The iterator of maps.Keys. -/
theorem Keys1_gives {R : Hp} {q b : Nat} {vr : List Fact → Value → Prop} {m : List (Int × List Fact)} {cM : Hp} (h0 : Le (one q (.cells #[.map (some b)] 58 (0, 0))) R)
    (hM : MapC (Value.int .i64) vr (some b) m cM) (hc : Le cM R) :
    Gives Try.prog 46 #[ptr q 0] m.length (fun xs => xs.Perm (AL.keys m)) (fun _ => True) (fun k => #[int k]) R [] (fun _ L' => L' = []) := by
  intro l J Jx w Lb hs hJ hJx hY hj0
  obtain ⟨es, ck, hE⟩ := hM.open
  have hst : Step w R Lb w R Lb := Step.refl (by simpa using hs)
  refine calls_of_W (n := 14) Try.func46 rfl Try.ntmps46 (Nat.le_of_ble_eq_true rfl) ?_
  refine W_seq ?_
  refine W_region_lit ?_
  refine L_val (v := .map (some b)) (w' := w) rfl rfl rfl (x_load rfl rfl (run_loadVar_one ti58 (hst.rle' _ _ (h0 _ _ (one_self _ _))) rfl)) ?_
  refine L_new hst (v := fun b => ptr b 0) rfl rfl rfl (x_range rfl rfl (run_range mt58 hE (hc.trans hst.rle'))) (fun r w1 hst1 => ?_)
  have hI := It.start b r es ck m
  generalize one r (.mapIter (some b) ck #[] ck) = ci at hI hst1
  refine L_nil ?_
  refine W_block ?_
  refine W_loop (I := fun σ w_ n_ => ∃ (σ0 : Fr) (R_ ci : Hp) (L_ : List Hp) (xs ys : List (Int × List Fact)), σ = upd (upd (upd σ0 0 (.func (.yield l) #[] #[])) 1 (ptr q 0)) 5 (ptr r 0) ∧ mks (σ0 0) = [] ∧ Step w R Lb w_ R_ (ci :: L_) ∧ Le R R_ ∧
    It b r es ck m xs ci ∧ (xs ++ ys).Perm m ∧ J (xs.map (·.1)) R_ L_ ∧ n_ = m.length - xs.length) (m := m.length) ?_ ?_
  · exact ⟨_, R, ci, Lb, [], m, upd_of (upd_of (upd_of rfl rfl) rfl) rfl, rfl, hst1, Le.refl _, hI, by simp, hj0, by simp⟩
  · rintro n_ σ_ w2 ⟨σ0, R2, ci2, L2, xs, ys, rfl, hmk, hst2, hle, hI2, hys, hj, rfl⟩
    refine W_seq ?_
    refine W_region_lit ?_
    rcases run_next (P := Try.prog) 0 hE (hc.trans (hle.trans hst2.rle')) hI2 hst2 with ⟨hp, hr⟩ | ⟨p, v, w3, ci3, hr, hv, hm, ⟨zs, hz⟩, hI3, hst3, hent⟩
    · refine L_val (v := .tuple #[.bool false]) rfl rfl rfl (x_next rfl rfl hr) ?_
      refine L_val (v := .bool false) (w' := w2) rfl rfl rfl (by kernel_rfl) ?_
      refine L_nil ?_
      refine W_seq ?_
      refine W_cond_false rfl ?_
      refine W_exit ?_
      refine ⟨_, _, res_run (rs := []) (vs := []) Try.results46 .nil hmk, ⟨_, rfl⟩, R2, [], L2, ?_, rfl, .inl ⟨xs.map (·.1), hp.map _, hj⟩⟩
      exact hst2.drop
    · refine L_val (v := .tuple #[.bool true, .int .i64 p.1, v]) rfl rfl rfl (x_next rfl rfl hr) ?_
      refine L_val (v := .bool true) (w' := w3) rfl rfl rfl (by kernel_rfl) ?_
      refine L_nil ?_
      refine W_seq ?_
      refine W_cond_true rfl ?_
      refine W_skip ?_
      refine W_block ?_
      refine W_seq ?_
      refine W_region_lit ?_
      refine L_val (v := .tuple #[.int .i64 p.1, v]) (w' := w3) rfl rfl rfl (x_entry rfl rfl (hent _ (hc.trans (hle.trans hst3.rle')) (hst3.get (i := 0) rfl))) ?_
      refine L_val (v := .int .i64 p.1) (w' := w3) rfl rfl rfl (by kernel_rfl) ?_
      refine L_val (v := .int .i64 p.1) (w' := w3) rfl rfl rfl rfl ?_
      refine L_nil ?_
      refine W_seq ?_
      refine W_region_lit ?_
      refine L_val (v := .func (.yield l) #[] #[]) (w' := w3) rfl rfl rfl rfl ?_
      refine L_val (v := .int .i64 p.1) (w' := w3) rfl rfl rfl rfl ?_
      have hst4 := Step.rot (La := [ci3]) (Lb := L2) hst3
      have hs4 : Sats w3 R2 L2 := hst3.drop.sats
      refine L_yieldS L2 [ci3] hst4 rfl rfl rfl (x_yield (vs := #[int p.1]) rfl rfl (by kernel_rfl)) (hY (xs.map (·.1)) p.1 w3 R2 L2 hj hle hs4 (by rw [List.length_map]; exact perm_len hz)) (fun b5 w5 R5 L5 hp5 hle5 hst5 => ?_)
      have hst6 := Step.rot (La := L5) (Lb := [ci3]) hst5
      cases b5 with
      | true =>
        refine L_val (v := .bool false) (w' := w5) rfl rfl rfl rfl ?_
        refine L_nil ?_
        refine W_cond_false rfl ?_
        refine W_skip ?_
        refine ⟨m.length - (xs ++ [p]).length, by have := perm_len hz; simp; omega, _, R5, ci3, L5, xs ++ [p], zs, upd_of (upd_of (upd_of rfl rfl) rfl) rfl, hmk, hst6, hle.trans hle5, hI3, by simpa using hz, ?_, rfl⟩
        simpa using hp5
      | false =>
        refine L_val (v := .bool true) (w' := w5) rfl rfl rfl rfl ?_
        refine L_nil ?_
        refine W_cond_true rfl ?_
        refine W_ret ?_
        refine ⟨_, _, res_run (rs := []) (vs := []) Try.results46 .nil hmk, ⟨_, rfl⟩, R5, [], L5, ?_, rfl, .inr ⟨xs.map (·.1) ++ [p.1], trivial, by simpa using hp5⟩⟩
        exact hst6.drop

theorem int_mk (R : Hp) (k : Int) : Encs Ty.int R [k] [.int .i64 k] := Encs.one (t := Ty.int) rfl

/-- slices.AppendSeq onto nothing. -/
theorem AppendSeq_spec {w : World} {R : Hp} {g : Nat} {lb : Array Value} {N : Nat} {S Sp : List Int → Prop} (hs : Sats w R []) (eg : Ent Try.prog g) (hN : N ≤ 1099511627776)
    (hg : ∀ R1, Le R R1 → Gives Try.prog g lb N S Sp (fun k => #[int k]) R1 [] (fun _ L' => L' = [])) :
    Calls Try.prog 52 #[.slice none 0 0, .func (.func g) #[] lb] w (Comes' w R [] fun v' R' L' => ∃ c xs, L' = [c] ∧ S xs ∧ OwnL Ty.int 3 R' v' xs c) := by
  have hst := Step.refl hs
  refine calls_of_W (n := 13) Try.func52 rfl Try.ntmps52 (Nat.le_of_ble_eq_true rfl) ?_
  refine W_seq ?_
  refine W_region_lit ?_
  refine L_new hst (v := fun b => ptr b 0) (ob := .cells #[.slice none 0 0] 31 (0, 0)) rfl rfl rfl (by kernel_rfl) (fun B w1 hst1 => ?_)
  refine L_val (v := .slice none 0 0) (w' := w1) rfl rfl rfl rfl ?_
  refine L_nil ?_
  refine W_seq ?_
  refine W_seq ?_
  refine W_region_lit ?_
  refine L_val (v := .func (.func g) #[] lb) (w' := w1) rfl rfl rfl rfl ?_
  refine L_nil ?_
  refine W_block ?_
  have hst2 := (hst1.nothing).front 1 rfl rfl
  refine W_rangeFunc (α := Int) (ps := #[7]) (enc := fun k => #[int k]) (Lit := []) (Lb := [one B (.cells #[.slice none 0 0] 31 (0, 0)), non]) rfl eg hst2 (hg R (Le.refl _))
    (fun pre R1 L1 => ∃ v c, L1 = [one B (.cells #[v] 31 (0, 0)), c] ∧ OwnL Ty.int 3 R1 v pre c) (fun _ _ _ _ => False) (fun pre R1 R2 L1 hle ⟨v, c, e, h⟩ => ⟨v, c, e, h.mono hle⟩) (fun _ _ _ _ _ _ h => h)
    ⟨_, _, rfl, OwnL.empty _ _ _⟩ rfl (fun _ => rfl) ?_ ?_ (fun _ _ _ _ _ _ _ _ h => h.elim)
  · rintro l pre x w3 R3 L3 ⟨v, c, rfl, how⟩ hle hlen
    refine W_region_lit ?_
    refine L_val (v := .int .i64 x) (w' := w3) rfl rfl rfl rfl ?_
    refine L_nil ?_
    refine ⟨rfl, fun w4 hs4 => ?_⟩
    have hst4 := Step.refl hs4
    refine W_block ?_
    refine W_region_lit ?_
    obtain ⟨a_, cap_, rfl, hcap⟩ := how.value
    refine L_val (v := .slice a_ pre.length cap_) (w' := w4) rfl rfl rfl (x_load rfl rfl (run_loadVar_one ti31 (hst4.blk (i := 0) rfl) rfl)) ?_
    refine L_val (v := .int .i64 x) (w' := w4) rfl rfl rfl rfl ?_
    refine L_new hst4 (v := fun b => .slice (some ⟨b, 0, none⟩) 1 1) (ob := .cells #[.int .i64 x] 3 (0, 0)) rfl rfl rfl (by kernel_rfl) (fun b5 w5 hst5 => ?_)
    refine L_append hst5 (t := 31) (e := 3) (ys := [x]) (src := [.int .i64 x]) 2 rfl rfl rfl rfl rfl rfl sl31 ti3 rfl rfl rfl how (src_own (hst5.blk (i := 0) rfl)) (int_mk _ _) rfl
      (by omega) (by simp only [maxLen]; omega) (fun v6 c6 w6 ho6 hst6 => ?_)
    refine L_store hst6 2 ti31 rfl rfl rfl rfl rfl rfl ?_ ?_ rfl rfl rfl (fun w7 hst7 => ?_)
    · obtain ⟨a7, cap7, rfl, _⟩ := ho6.value; rfl
    · obtain ⟨a7, cap7, rfl, _⟩ := ho6.value; rfl
    refine L_nil ?_
    refine ⟨R3, [one B (.cells #[v6] 31 (0, 0)), c6], ?_, v6, c6, ?_, ho6⟩
    · obtain ⟨a7, cap7, rfl, _⟩ := ho6.value
      exact (hst7.front 2 rfl rfl |>.front 1 rfl rfl |>.front 1 rfl rfl).keepN 2 rfl
    · rfl
  · rintro D xs w3 R3 Lit3 L3 hS ⟨v, c, rfl, how⟩ rfl hle hst3
    refine W_seq ?_
    refine W_region_lit ?_
    obtain ⟨a_, cap_, rfl, hcap⟩ := how.value
    refine L_val (v := .slice a_ xs.length cap_) (w' := w3) rfl rfl rfl (x_load rfl rfl (run_loadVar_one ti31 (hst3.blk (i := 1) rfl) rfl)) ?_
    refine L_val (v := .slice a_ xs.length cap_) (w' := w3) rfl rfl rfl rfl ?_
    refine L_nil ?_
    refine W_ret ?_
    refine ⟨_, _, res_run1 (D := D) (rs := [.tmp 4]) (vs := [.slice a_ xs.length cap_]) Try.results52 (hst3.blk (i := 0) rfl) (.cons (.tmp rfl) .nil) rfl, ?_⟩
    have hst4 := (hst3.set0 (.deferred none)).drop
    exact ⟨_, R3, [c], rfl, hst4.drop, c, xs, rfl, hS, how⟩

end Go.Fx.Ytlfabjfajcbdcaa
