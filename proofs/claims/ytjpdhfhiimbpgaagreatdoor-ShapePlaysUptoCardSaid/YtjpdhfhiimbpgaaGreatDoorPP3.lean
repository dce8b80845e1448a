/-
  Sm1, Fx15, Sm2, Sp6, Sm3, Fx25, Fx26, Sp7, Sq4, Sq5, Sm4, Sm5, Fx27, Sq6, Sp8, Sm6, Sq7, Sp9, Sp10, put together.
-/
import Derived.Test.YtjpdhfhiimbpgaaGreatDoorPP2
import Derived.Sort.Row
import Derived.Sort.Grow
import Derived.Shelf.SlSortCmp.NoneTotal
import Derived.OrdersIn
import Derived.Lib.Join
import Derived.Lib.Builder
import Derived.Laws.Externs
import Derived.Lib.AppendStr
import Derived.Lib.UnsafeStr
set_option linter.unusedSimpArgs false
set_option linter.unusedVariables false
set_option linter.unusedSectionVars false
namespace Go.Fx.YtjpdhfhiimbpgaaGreatDoor
open Go Go.Fx Go.Proofs
set_option maxRecDepth 20000
def tyStp : Ty Stp := Ty.int.pair Ty.str
theorem mtK : Tryz.prog.underlying 63 = some (.map 98 3) := by kernel_rfl
theorem tiK65 : TI Tryz.prog 63 false 1 8 (.map none) := ⟨by kernel_rfl, by kernel_rfl⟩
theorem tiK76 : TI Tryz.prog 105 false 1 24 (.slice none 0 0) := ⟨by kernel_rfl, by kernel_rfl⟩
theorem tiK43 : TI Tryz.prog 98 true 2 24 (.agg #[.int .i64 0, .string ⟨#[]⟩]) := ⟨by kernel_rfl, by kernel_rfl⟩
theorem slK76 : SL Tryz.prog 105 98 := Tryz.underlying105
theorem ent78 : Ent Tryz.prog 78 := fun _ _ => by kernel_rfl
theorem ent88 : Ent Tryz.prog 88 := fun _ _ => by kernel_rfl
theorem perm_len {α : Type} {xs ys m : List α} {p : α} (h : (xs ++ p :: ys).Perm m) : xs.length < m.length := by
  have := h.length_eq
  simp at this
  omega
theorem pl_mk (R : Hp) (k : Stp) : Encs tyStp R [k] [.int .i64 k.1, .string k.2] := Encs.one (t := tyStp) ⟨[_], [_], rfl, rfl, rfl⟩
/-- The iterator of maps.Keys. -/
theorem KeysT_gives {R : Hp} {q b : Nat} {vr : Int → Value → Prop} {m : List (Stp × Int)} {cM : Hp} (h0 : Le (one q (.cells #[.map (some b)] 63 (0, 0))) R)
    (hM : MapC kS vr (some b) m cM) (hc : Le cM R) :
    Gives Tryz.prog 78 #[ptr q 0] m.length (fun xs => xs.Perm (AL.keys m)) (fun _ => True) (fun k => #[kS k]) R [] (fun _ L' => L' = []) := by
  intro l J Jx w Lb hs hJ hJx hY hj0
  obtain ⟨es, ck, hE⟩ := hM.open
  have hst : Step w R Lb w R Lb := Step.refl (by simpa using hs)
  refine calls_of_W (n := 14) Tryz.func78 rfl Tryz.ntmps78 (Nat.le_of_ble_eq_true rfl) ?_
  refine W_seq ?_
  refine W_region_lit ?_
  refine L_val (v := .map (some b)) (w' := w) rfl rfl rfl (x_load rfl rfl (run_loadVar_one tiK65 (hst.rle' _ _ (h0 _ _ (one_self _ _))) rfl)) ?_
  refine L_new hst (v := fun b => ptr b 0) rfl rfl rfl (x_range rfl rfl (run_range mtK hE (hc.trans hst.rle'))) (fun r w1 hst1 => ?_)
  have hI := It.start b r es ck m
  generalize one r (.mapIter (some b) ck #[] ck) = ci at hI hst1
  refine L_nil ?_
  refine W_block ?_
  refine W_loop (I := fun σ w_ n_ => ∃ (σ0 : Fr) (R_ ci : Hp) (L_ : List Hp) (xs ys : List (Stp × Int)), σ = upd (upd (upd σ0 0 (.func (.yield l) #[] #[])) 1 (ptr q 0)) 5 (ptr r 0) ∧ mks (σ0 0) = [] ∧ Step w R Lb w_ R_ (ci :: L_) ∧ Le R R_ ∧
    It b r es ck m xs ci ∧ (xs ++ ys).Perm m ∧ J (xs.map (·.1)) R_ L_ ∧ n_ = m.length - xs.length) (m := m.length) ?_ ?_
  · exact ⟨_, R, ci, Lb, [], m, upd_of (upd_of (upd_of rfl rfl) rfl) rfl, rfl, hst1, Le.refl _, hI, by simp, hj0, by simp⟩
  · rintro n_ σ_ w2 ⟨σ0, R2, ci2, L2, xs, ys, rfl, hmk, hst2, hle, hI2, hys, hj, rfl⟩
    refine W_seq ?_
    refine W_region_lit ?_
    rcases run_next (P := Tryz.prog) 0 hE (hc.trans (hle.trans hst2.rle')) hI2 hst2 with ⟨hp, hr⟩ | ⟨p, v, w3, ci3, hr, hv, hm, ⟨zs, hz⟩, hI3, hst3, hent⟩
    · refine L_val (v := .tuple #[.bool false]) rfl rfl rfl (x_next rfl rfl hr) ?_
      refine L_val (v := .bool false) (w' := w2) rfl rfl rfl (by kernel_rfl) ?_
      refine L_nil ?_
      refine W_seq ?_
      refine W_cond_false rfl ?_
      refine W_exit ?_
      refine ⟨_, _, res_run (rs := []) (vs := []) Tryz.results78 .nil hmk, ⟨_, rfl⟩, R2, [], L2, ?_, rfl, .inl ⟨xs.map (·.1), hp.map _, hj⟩⟩
      exact hst2.drop
    · refine L_val (v := .tuple #[.bool true, kS p.1, v]) rfl rfl rfl (x_next rfl rfl hr) ?_
      refine L_val (v := .bool true) (w' := w3) rfl rfl rfl (by kernel_rfl) ?_
      refine L_nil ?_
      refine W_seq ?_
      refine W_cond_true rfl ?_
      refine W_skip ?_
      refine W_block ?_
      refine W_seq ?_
      refine W_region_lit ?_
      refine L_val (v := .tuple #[kS p.1, v]) (w' := w3) rfl rfl rfl (x_entry rfl rfl (hent _ (hc.trans (hle.trans hst3.rle')) (hst3.get (i := 0) rfl))) ?_
      refine L_val (v := kS p.1) (w' := w3) rfl rfl rfl (by kernel_rfl) ?_
      refine L_new hst3 (v := fun b => ptr b 0) (ob := .cells #[.int .i64 0, .string ⟨#[]⟩] 98 (0, 0)) rfl rfl rfl (by kernel_rfl) (fun bx w3 hst3 => ?_)
      refine L_store hst3 0 tiK43 rfl rfl rfl rfl rfl rfl rfl rfl rfl rfl rfl (fun w3 hst3 => ?_)
      change Step _ _ _ _ _ (one bx (.cells #[.int .i64 p.1.1, .string p.1.2] 98 (0, 0)) :: ci3 :: L2) at hst3
      refine L_nil ?_
      refine W_seq ?_
      refine W_region_lit ?_
      refine L_val (v := .func (.yield l) #[] #[]) (w' := w3) rfl rfl rfl rfl ?_
      refine L_val (v := kS p.1) (w' := w3) rfl rfl rfl (x_load rfl rfl (run_loadVar_agg tiK43 (hst3.blk (i := 0) rfl) (l := [.int .i64 p.1.1, .string p.1.2]) rfl rfl)) ?_
      have hst4 := Step.rot (La := [one bx (.cells #[.int .i64 p.1.1, .string p.1.2] 98 (0, 0)), ci3]) (Lb := L2) hst3
      have hs4 : Sats w3 R2 L2 := hst3.drop.drop.sats
      refine L_yieldS L2 [one bx (.cells #[.int .i64 p.1.1, .string p.1.2] 98 (0, 0)), ci3] hst4 rfl rfl rfl (x_yield (vs := #[kS p.1]) rfl rfl (by kernel_rfl)) (hY (xs.map (·.1)) p.1 w3 R2 L2 hj hle hs4 (by rw [List.length_map]; exact perm_len hz)) (fun b5 w5 R5 L5 hp5 hle5 hst5 => ?_)
      have hst6 := (Step.rot (La := L5) (Lb := [one bx (.cells #[.int .i64 p.1.1, .string p.1.2] 98 (0, 0)), ci3]) hst5).drop
      cases b5 with
      | true =>
        refine L_val (v := .bool false) (w' := w5) rfl rfl rfl rfl ?_
        refine L_nil ?_
        refine W_cond_false rfl ?_
        refine W_skip ?_
        refine ⟨m.length - (xs ++ [p]).length, by have := perm_len hz; simp; omega, _, R5, ci3, L5, xs ++ [p], zs, upd_of (upd_of (upd_of rfl rfl) rfl) rfl, hmk, hst6, hle.trans hle5, hI3, by simpa using hz, ?_, rfl⟩
        simpa using hp5
      | false =>
        refine L_val (v := .bool true) (w' := w5) rfl rfl rfl rfl ?_
        refine L_nil ?_
        refine W_cond_true rfl ?_
        refine W_ret ?_
        refine ⟨_, _, res_run (rs := []) (vs := []) Tryz.results78 .nil hmk, ⟨_, rfl⟩, R5, [], L5, ?_, rfl, .inr ⟨xs.map (·.1) ++ [p.1], trivial, by simpa using hp5⟩⟩
        exact hst6.drop
/-- slices.AppendSeq onto nothing. -/
theorem AppendSeqT_spec {w : World} {R : Hp} {g : Nat} {lb : Array Value} {N : Nat} {S Sp : List Stp → Prop} (hs : Sats w R []) (eg : Ent Tryz.prog g) (hN : N ≤ 1099511627776)
    (hg : ∀ R1, Le R R1 → Gives Tryz.prog g lb N S Sp (fun k => #[kS k]) R1 [] (fun _ L' => L' = [])) :
    Calls Tryz.prog 88 #[.slice none 0 0, .func (.func g) #[] lb] w (Comes' w R [] fun v' R' L' => ∃ c xs, L' = [c] ∧ S xs ∧ OwnL tyStp 98 R' v' xs c) := by
  have hst := Step.refl hs
  refine calls_of_W (n := 13) Tryz.func88 rfl Tryz.ntmps88 (Nat.le_of_ble_eq_true rfl) ?_
  refine W_seq ?_
  refine W_region_lit ?_
  refine L_new hst (v := fun b => ptr b 0) (ob := .cells #[.slice none 0 0] 105 (0, 0)) rfl rfl rfl (by kernel_rfl) (fun B w1 hst1 => ?_)
  refine L_val (v := .slice none 0 0) (w' := w1) rfl rfl rfl rfl ?_
  refine L_nil ?_
  refine W_seq ?_
  refine W_seq ?_
  refine W_region_lit ?_
  refine L_val (v := .func (.func g) #[] lb) (w' := w1) rfl rfl rfl rfl ?_
  refine L_nil ?_
  refine W_block ?_
  have hst2 := (hst1.nothing).front 1 rfl rfl
  refine W_rangeFuncB (α := Stp) (ps := #[7]) (enc := fun k => #[kS k]) (Lit := []) (Lb := [one B (.cells #[.slice none 0 0] 105 (0, 0)), non]) rfl eg hst2 (hg R (Le.refl _))
    (fun pre R1 L1 => ∃ v c, L1 = [one B (.cells #[v] 105 (0, 0)), c] ∧ OwnL tyStp 98 R1 v pre c) (fun _ _ _ _ => False) (fun pre R1 R2 L1 hle ⟨v, c, e, h⟩ => ⟨v, c, e, h.mono hle⟩) (fun _ _ _ _ _ _ h => h)
    ⟨_, _, rfl, OwnL.empty _ _ _⟩ rfl (fun _ => rfl) ?_ ?_ (fun _ _ _ _ _ _ _ _ h => h.elim)
  · rintro l pre x w3 R3 L3 ⟨v, c, rfl, how⟩ hle hlen hs3
    have hst3 := Step.refl hs3
    refine W_region_lit ?_
    refine L_new hst3 (v := fun b => ptr b 0) (ob := .cells #[.int .i64 0, .string ⟨#[]⟩] 98 (0, 0)) rfl rfl rfl (by kernel_rfl) (fun bx w3' hst3 => ?_)
    refine L_store hst3 0 tiK43 (v := kS x) rfl rfl rfl rfl rfl rfl rfl rfl rfl rfl rfl (fun w3' hst3 => ?_)
    change Step _ _ _ _ _ [one bx (.cells #[.int .i64 x.1, .string x.2] 98 (0, 0)), one B (.cells #[v] 105 (0, 0)), c] at hst3
    refine L_nil ?_
    refine ⟨_, hst3, fun w4 hs4 => ?_⟩
    have hst4 := Step.refl hs4
    refine W_block ?_
    refine W_region_lit ?_
    obtain ⟨a_, cap_, rfl, hcap⟩ := how.value
    refine L_val (v := .slice a_ pre.length cap_) (w' := w4) rfl rfl rfl (x_load rfl rfl (run_loadVar_one tiK76 (hst4.blk (i := 1) rfl) rfl)) ?_
    refine L_val (v := kS x) (w' := w4) rfl rfl rfl (x_load rfl rfl (run_loadVar_agg tiK43 (hst4.blk (i := 0) rfl) (l := [.int .i64 x.1, .string x.2]) rfl rfl)) ?_
    refine L_new hst4 (v := fun b => .slice (some ⟨b, 0, none⟩) 1 1) (ob := .cells #[.int .i64 x.1, .string x.2] 98 (0, 0)) rfl rfl rfl (by kernel_rfl) (fun b5 w5 hst5 => ?_)
    refine L_append hst5 (t := 105) (e := 98) (ys := [x]) (src := [.int .i64 x.1, .string x.2]) 3 rfl rfl rfl rfl rfl rfl slK76 tiK43 rfl rfl rfl how (src_own (hst5.blk (i := 0) rfl)) (pl_mk _ _) rfl
      (by omega) (by simp only [maxLen]; omega) (fun v6 c6 w6 ho6 hst6 => ?_)
    refine L_store hst6 3 tiK76 rfl rfl rfl rfl rfl rfl ?_ ?_ rfl rfl rfl (fun w7 hst7 => ?_)
    · obtain ⟨a7, cap7, rfl, _⟩ := ho6.value; rfl
    · obtain ⟨a7, cap7, rfl, _⟩ := ho6.value; rfl
    refine L_nil ?_
    refine ⟨R3, [one B (.cells #[v6] 105 (0, 0)), c6], ?_, v6, c6, ?_, ho6⟩
    · obtain ⟨a7, cap7, rfl, _⟩ := ho6.value
      exact (hst7.front 3 rfl rfl |>.front 1 rfl rfl |>.front 1 rfl rfl).keepN 2 rfl
    · rfl
  · rintro D xs w3 R3 Lit3 L3 hS ⟨v, c, rfl, how⟩ rfl hle hst3
    refine W_seq ?_
    refine W_region_lit ?_
    obtain ⟨a_, cap_, rfl, hcap⟩ := how.value
    refine L_val (v := .slice a_ xs.length cap_) (w' := w3) rfl rfl rfl (x_load rfl rfl (run_loadVar_one tiK76 (hst3.blk (i := 1) rfl) rfl)) ?_
    refine L_val (v := .slice a_ xs.length cap_) (w' := w3) rfl rfl rfl rfl ?_
    refine L_nil ?_
    refine W_ret ?_
    refine ⟨_, _, res_run1 (D := D) (rs := [.tmp 4]) (vs := [.slice a_ xs.length cap_]) Tryz.results88 (hst3.blk (i := 0) rfl) (.cons (.tmp rfl) .nil) rfl, ?_⟩
    have hst4 := (hst3.set0 (.deferred none)).drop
    exact ⟨_, R3, [c], rfl, hst4.drop, c, xs, rfl, hS, how⟩
/-- slices.Collect. -/
theorem CollectT_spec {w : World} {R : Hp} {g : Nat} {lb : Array Value} {N : Nat} {S Sp : List Stp → Prop} (hs : Sats w R []) (eg : Ent Tryz.prog g) (hN : N ≤ 1099511627776)
    (hg : ∀ R1, Le R R1 → Gives Tryz.prog g lb N S Sp (fun k => #[kS k]) R1 [] (fun _ L' => L' = [])) :
    Calls Tryz.prog 76 #[.func (.func g) #[] lb] w (Comes' w R [] fun v' R' L' => ∃ c xs, L' = [c] ∧ S xs ∧ OwnL tyStp 98 R' v' xs c) := by
  have hst := Step.refl hs
  refine calls_of_W (n := 5) Tryz.func76 rfl Tryz.ntmps76 (Nat.le_of_ble_eq_true rfl) ?_
  refine W_seq ?_
  refine W_region_lit ?_
  refine L_val (v := .slice none 0 0) (w' := w) rfl rfl rfl rfl ?_
  refine L_nil ?_
  refine W_seq ?_
  refine W_region_lit ?_
  refine L_val (v := .func (.func g) #[] lb) (w' := w) rfl rfl rfl rfl ?_
  refine L_callS [] [] hst rfl rfl rfl (x_call (vs := #[.slice none 0 0, .func (.func g) #[] lb]) rfl rfl (by kernel_rfl) ent88) (AppendSeqT_spec hs eg hN hg) (fun v1 w1 R1 L1 hp1 hle1 hst1 => ?_)
  obtain ⟨c, xs, rfl, hS, how⟩ := hp1
  refine L_val (v := v1) (w' := w1) rfl rfl rfl rfl ?_
  refine L_nil ?_
  refine W_ret ?_
  refine ⟨_, _, res_run (rs := [.tmp 2]) (vs := [v1]) Tryz.results76 (.cons (.tmp rfl) .nil) rfl, ?_⟩
  exact ⟨_, R1, [c], rfl, hst1, c, xs, rfl, hS, how⟩
theorem tiS42 : TI Tryz.prog 42 false 1 24 (.slice none 0 0) := ⟨by kernel_rfl, by kernel_rfl⟩
theorem tiS9 : TI Tryz.prog 9 false 1 16 (.string ⟨#[]⟩) := ⟨by kernel_rfl, by kernel_rfl⟩
theorem slS42 : SL Tryz.prog 42 9 := Tryz.underlying42
theorem entS81 : Ent Tryz.prog 81 := fun _ _ => by kernel_rfl
theorem AppendSeqS_spec {w : World} {R : Hp} {g : Nat} {lb : Array Value} {N : Nat} {S Sp : List Str → Prop} (hs : Sats w R []) (eg : Ent Tryz.prog g) (hN : N ≤ 1099511627776)
    (hg : ∀ R1, Le R R1 → Gives Tryz.prog g lb N S Sp (fun k => #[.string k]) R1 [] (fun _ L' => L' = [])) :
    Calls Tryz.prog 81 #[.slice none 0 0, .func (.func g) #[] lb] w (Comes' w R [] fun v' R' L' => ∃ c xs, L' = [c] ∧ S xs ∧ OwnL Ty.str 9 R' v' xs c) := by
  have hst := Step.refl hs
  refine calls_of_W (n := 13) Tryz.func81 rfl Tryz.ntmps81 (Nat.le_of_ble_eq_true rfl) ?_
  refine W_seq ?_
  refine W_region_lit ?_
  refine L_new hst (v := fun b => ptr b 0) (ob := .cells #[.slice none 0 0] 42 (0, 0)) rfl rfl rfl (by kernel_rfl) (fun B w1 hst1 => ?_)
  refine L_val (v := .slice none 0 0) (w' := w1) rfl rfl rfl rfl ?_
  refine L_nil ?_
  refine W_seq ?_
  refine W_seq ?_
  refine W_region_lit ?_
  refine L_val (v := .func (.func g) #[] lb) (w' := w1) rfl rfl rfl rfl ?_
  refine L_nil ?_
  refine W_block ?_
  have hst2 := (hst1.nothing).front 1 rfl rfl
  refine W_rangeFuncB (α := Str) (ps := #[7]) (enc := fun k => #[.string k]) (Lit := []) (Lb := [one B (.cells #[.slice none 0 0] 42 (0, 0)), non]) rfl eg hst2 (hg R (Le.refl _))
    (fun pre R1 L1 => ∃ v c, L1 = [one B (.cells #[v] 42 (0, 0)), c] ∧ OwnL Ty.str 9 R1 v pre c) (fun _ _ _ _ => False) (fun pre R1 R2 L1 hle ⟨v, c, e, h⟩ => ⟨v, c, e, h.mono hle⟩) (fun _ _ _ _ _ _ h => h)
    ⟨_, _, rfl, OwnL.empty _ _ _⟩ rfl (fun _ => rfl) ?_ ?_ (fun _ _ _ _ _ _ _ _ h => h.elim)
  · rintro l pre x w3 R3 L3 ⟨v, c, rfl, how⟩ hle hlen hs3
    have hst3 := Step.refl hs3
    refine W_region_lit ?_
    refine L_val (v := .string x) (w' := w3) rfl rfl rfl rfl ?_
    refine L_nil ?_
    refine ⟨_, hst3, fun w4 hs4 => ?_⟩
    have hst4 := Step.refl hs4
    refine W_block ?_
    refine W_region_lit ?_
    obtain ⟨a_, cap_, rfl, hcap⟩ := how.value
    refine L_val (v := .slice a_ pre.length cap_) (w' := w4) rfl rfl rfl (x_load rfl rfl (run_loadVar_one tiS42 (hst4.blk (i := 0) rfl) rfl)) ?_
    refine L_val (v := .string x) (w' := w4) rfl rfl rfl rfl ?_
    refine L_new hst4 (v := fun b => .slice (some ⟨b, 0, none⟩) 1 1) (ob := .cells #[.string x] 9 (0, 0)) rfl rfl rfl (by kernel_rfl) (fun b5 w5 hst5 => ?_)
    refine L_append hst5 (t := 42) (e := 9) (ys := [x]) (src := [.string x]) 2 rfl rfl rfl rfl rfl rfl slS42 tiS9 rfl rfl rfl how (src_own (hst5.blk (i := 0) rfl)) (str_mk _ _) rfl
      (by omega) (by simp only [maxLen]; omega) (fun v6 c6 w6 ho6 hst6 => ?_)
    refine L_store hst6 2 tiS42 rfl rfl rfl rfl rfl rfl ?_ ?_ rfl rfl rfl (fun w7 hst7 => ?_)
    · obtain ⟨a7, cap7, rfl, _⟩ := ho6.value; rfl
    · obtain ⟨a7, cap7, rfl, _⟩ := ho6.value; rfl
    refine L_nil ?_
    refine ⟨R3, [one B (.cells #[v6] 42 (0, 0)), c6], ?_, v6, c6, ?_, ho6⟩
    · obtain ⟨a7, cap7, rfl, _⟩ := ho6.value
      exact (hst7.front 2 rfl rfl |>.front 1 rfl rfl |>.front 1 rfl rfl).keepN 2 rfl
    · rfl
  · rintro D xs w3 R3 Lit3 L3 hS ⟨v, c, rfl, how⟩ rfl hle hst3
    refine W_seq ?_
    refine W_region_lit ?_
    obtain ⟨a_, cap_, rfl, hcap⟩ := how.value
    refine L_val (v := .slice a_ xs.length cap_) (w' := w3) rfl rfl rfl (x_load rfl rfl (run_loadVar_one tiS42 (hst3.blk (i := 1) rfl) rfl)) ?_
    refine L_val (v := .slice a_ xs.length cap_) (w' := w3) rfl rfl rfl rfl ?_
    refine L_nil ?_
    refine W_ret ?_
    refine ⟨_, _, res_run1 (D := D) (rs := [.tmp 4]) (vs := [.slice a_ xs.length cap_]) Tryz.results81 (hst3.blk (i := 0) rfl) (.cons (.tmp rfl) .nil) rfl, ?_⟩
    have hst4 := (hst3.set0 (.deferred none)).drop
    exact ⟨_, R3, [c], rfl, hst4.drop, c, xs, rfl, hS, how⟩
theorem CollectS_spec {w : World} {R : Hp} {g : Nat} {lb : Array Value} {N : Nat} {S Sp : List Str → Prop} (hs : Sats w R []) (eg : Ent Tryz.prog g) (hN : N ≤ 1099511627776)
    (hg : ∀ R1, Le R R1 → Gives Tryz.prog g lb N S Sp (fun k => #[.string k]) R1 [] (fun _ L' => L' = [])) :
    Calls Tryz.prog 71 #[.func (.func g) #[] lb] w (Comes' w R [] fun v' R' L' => ∃ c xs, L' = [c] ∧ S xs ∧ OwnL Ty.str 9 R' v' xs c) := by
  have hst := Step.refl hs
  refine calls_of_W (n := 5) Tryz.func71 rfl Tryz.ntmps71 (Nat.le_of_ble_eq_true rfl) ?_
  refine W_seq ?_
  refine W_region_lit ?_
  refine L_val (v := .slice none 0 0) (w' := w) rfl rfl rfl rfl ?_
  refine L_nil ?_
  refine W_seq ?_
  refine W_region_lit ?_
  refine L_val (v := .func (.func g) #[] lb) (w' := w) rfl rfl rfl rfl ?_
  refine L_callS [] [] hst rfl rfl rfl (x_call (vs := #[.slice none 0 0, .func (.func g) #[] lb]) rfl rfl (by kernel_rfl) entS81) (AppendSeqS_spec hs eg hN hg) (fun v1 w1 R1 L1 hp1 hle1 hst1 => ?_)
  obtain ⟨c, xs, rfl, hS, how⟩ := hp1
  refine L_val (v := v1) (w' := w1) rfl rfl rfl rfl ?_
  refine L_nil ?_
  refine W_ret ?_
  refine ⟨_, _, res_run (rs := [.tmp 2]) (vs := [v1]) Tryz.results71 (.cons (.tmp rfl) .nil) rfl, ?_⟩
  exact ⟨_, R1, [c], rfl, hst1, c, xs, rfl, hS, how⟩
/-- The iterator of slices.Values. -/
theorem Values1_gives {R : Hp} {q : Nat} {v : Value} {xs : List Str} (h0 : Le (one q (.cells #[v] 42 (0, 0))) R) (hv : RdS Ty.str R v xs) (hl : xs.length ≤ 1000000) :
    Gives Tryz.prog 73 #[ptr q 0] xs.length (fun ys => ys = xs) (fun _ => True) (fun k => #[.string k]) R [] (fun _ L' => L' = []) := by
  intro l J Jx w Lb hs hJ hJx hY hj0
  have hst : Step w R Lb w R Lb := Step.refl (by simpa using hs)
  obtain ⟨a, cap, rfl, hcap⟩ := hv.shape
  refine calls_of_W (n := 16) Tryz.func73 rfl Tryz.ntmps73 (Nat.le_of_ble_eq_true rfl) ?_
  refine W_seq ?_
  refine W_region_lit ?_
  refine L_val (v := .slice a xs.length cap) (w' := w) rfl rfl rfl (x_load rfl rfl (run_loadVar_one tiS42 (hst.rle' _ _ (h0 _ _ (one_self _ _))) rfl)) ?_
  refine L_val (v := int (xs.length : Int)) (w' := w) rfl rfl rfl (x_len_slice rfl slS42 rfl) ?_
  refine L_val (v := int 0) (w' := w) rfl rfl rfl rfl ?_
  refine L_nil ?_
  refine W_block ?_
  refine W_loop (I := fun σ w_ n_ => ∃ (σ0 : Fr) (R_ : Hp) (L_ : List Hp) (k : Nat), σ = upd (upd (upd (upd (upd σ0 0 (.func (.yield l) #[] #[])) 1 (ptr q 0)) 5 (.slice a xs.length cap)) 6 (int (xs.length : Int))) 7 (int (k : Int)) ∧ mks (σ0 0) = [] ∧ Step w R Lb w_ R_ L_ ∧ Le R R_ ∧
    k ≤ xs.length ∧ J (xs.take k) R_ L_ ∧ n_ = xs.length - k) (m := xs.length) ?_ ?_
  · exact ⟨_, R, Lb, 0, upd_of (upd_of (upd_of (upd_of (upd_of rfl rfl) rfl) rfl) rfl) rfl, rfl, hst, Le.refl _, Nat.zero_le _, by simpa using hj0, by simp⟩
  · rintro n_ σ_ w2 ⟨σ0, R2, L2, k, rfl, hmk, hst2, hle, hk, hj, rfl⟩
    refine W_seq ?_
    refine W_region_lit ?_
    refine L_val (v := .bool (decide ((k : Int) < (xs.length : Int)))) (w' := w2) rfl rfl rfl (by kernel_rfl) ?_
    refine L_nil ?_
    refine W_seq ?_
    by_cases hlt : k < xs.length
    · refine W_cond_true (by show Value.bool _ = _; exact congrArg Value.bool (decide_eq_true (by omega))) ?_
      refine W_skip ?_
      refine W_seq ?_
      refine W_block ?_
      refine W_seq ?_
      refine W_region_lit ?_
      obtain ⟨b, off, cap2, cs, T, fz, e, hc2, hb, he⟩ := hv.open (by omega)
      cases e
      obtain ⟨cl, hs1, hr1⟩ := he.at k hlt
      have hx : cl = [.string xs[k]] := hr1
      subst hx
      refine L_val (v := ptr b (off + k * 1)) (w' := w2) rfl rfl rfl (x_indexAddr' rfl slS42 tiS9 rfl rfl hlt) ?_
      refine L_val (v := .string xs[k]) (w' := w2) rfl rfl rfl (x_load rfl rfl (run_loadVar_one tiS9 (hle.trans hst2.rle' _ _ hb) (seg_get (j := 0) hs1 rfl))) ?_
      refine L_val (v := .string xs[k]) (w' := w2) rfl rfl rfl rfl ?_
      refine L_nil ?_
      refine W_seq ?_
      refine W_region_lit ?_
      refine L_val (v := .func (.yield l) #[] #[]) (w' := w2) rfl rfl rfl rfl ?_
      refine L_val (v := .string xs[k]) (w' := w2) rfl rfl rfl rfl ?_
      refine L_yieldS L2 [] (by simpa using hst2) rfl rfl rfl (x_yield (vs := #[.string xs[k]]) rfl rfl (by kernel_rfl)) (hY (xs.take k) xs[k] w2 R2 L2 hj hle hst2.sats (by rw [List.length_take]; omega)) (fun b5 w5 R5 L5 hp5 hle5 hst5 => ?_)
      rw [List.append_nil] at hst5
      rw [← List.take_succ_eq_append_getElem hlt] at hp5
      cases b5 with
      | true =>
        refine L_val (v := .bool false) (w' := w5) rfl rfl rfl rfl ?_
        refine L_nil ?_
        refine W_cond_false rfl ?_
        refine W_skip ?_
        refine W_region_lit ?_
        refine L_val (v := int ((k + 1 : Nat) : Int)) (w' := w5) rfl rfl rfl (x_add_nat rfl rfl rfl (by omega)) ?_
        refine L_val (v := int ((k + 1 : Nat) : Int)) (w' := w5) rfl rfl rfl rfl ?_
        refine L_nil ?_
        exact ⟨xs.length - (k + 1), by omega, _, R5, L5, k + 1, upd_of (upd_of (upd_of (upd_of (upd_of rfl rfl) rfl) rfl) rfl) rfl, hmk, hst5, hle.trans hle5, by omega, by simpa using hp5, rfl⟩
      | false =>
        refine L_val (v := .bool true) (w' := w5) rfl rfl rfl rfl ?_
        refine L_nil ?_
        refine W_cond_true rfl ?_
        refine W_ret ?_
        exact ⟨_, _, res_run (rs := []) (vs := []) Tryz.results73 .nil hmk, ⟨_, rfl⟩, R5, [], L5, hst5, rfl, .inr ⟨_, trivial, by simpa using hp5⟩⟩
    · refine W_cond_false (by show Value.bool _ = _; exact congrArg Value.bool (decide_eq_false (by omega))) ?_
      refine W_exit ?_
      refine ⟨_, _, res_run (rs := []) (vs := []) Tryz.results73 .nil hmk, ⟨_, rfl⟩, R2, [], L2, hst2, rfl, .inl ⟨xs, rfl, ?_⟩⟩
      rw [List.take_of_length_le (by omega)] at hj
      exact hj
end Go.Fx.YtjpdhfhiimbpgaaGreatDoor
set_option linter.unusedSimpArgs false
set_option linter.unusedVariables false
set_option linter.unusedSectionVars false
namespace Go.Fx
open Go Go.Sort
theorem Encs.ints {R : Hp} {xs : List Int} {cs : List Value} (h : Encs Ty.int R xs cs) : cs = xs.map (Value.int .i64) := by
  induction h with
  | nil => rfl
  | cons hx _ ih =>
    have e : _ = [_] := hx
    subst e
    rw [ih]
    rfl
section
variable {T b N : Nat} {R R0 : Hp} {xs : List Int} {c : Hp} {w w0 : World} {L0 Lr : List Hp}
theorem Row.holds (h : Row Ty.int T b N R xs c) (hc : Le c (hp w)) : Holds (Value.int .i64) w b 0 xs.toArray := by
  obtain ⟨cs, rest, rfl, he, hN⟩ := h
  have hb : w.heap[b]? = some (.cells (cs ++ rest).toArray T (0, 0)) := hc b _ (one_self _ _)
  have e := he.ints
  subst e
  intro j hj
  have hj' : j < xs.length := by simpa using hj
  refine ⟨?_, ?_⟩
  · rw [cell_at hb]
    simp only [Nat.zero_add, List.getElem?_toArray]
    rw [List.getElem?_append_left (by simpa using hj'), List.getElem?_map, List.getElem?_eq_getElem hj']
    simp [hj']
  · simp [World.frozen?, hb]
end
end Go.Fx
set_option linter.unusedSimpArgs false
set_option linter.unusedVariables false
set_option linter.unusedSectionVars false
namespace Go.Fx
open Go Go.Sort
section
variable {α : Type} [Inhabited α] {T b : Nat} {R R0 : Hp} {c : Hp} {w w0 : World} {L0 Lr : List Hp}
theorem Cells.holds (enc : α → Value) (d : List α) (rest : List Value) (hb : w.heap[b]? = some (.cells (d.map enc ++ rest).toArray T (0, 0))) : Holds enc w b 0 d.toArray := by
  intro j hj
  have hj' : j < d.length := by simpa using hj
  refine ⟨?_, ?_⟩
  · rw [cell_at hb]
    simp only [Nat.zero_add, List.getElem?_toArray]
    rw [List.getElem?_append_left (by simpa using hj'), List.getElem?_map, List.getElem?_eq_getElem hj']
    simp [hj']
  · simp [World.frozen?, hb]
theorem Cells.put (enc : α → Value) (d ys : List α) (rest : List Value) (hst : Step w0 R0 L0 w R (one b (.cells (d.map enc ++ rest).toArray T (0, 0)) :: Lr)) (hl : ys.length = d.length) (n : Nat) (os : Array Obj) :
    Step w0 R0 L0 (grow (putRow enc (Sort.ahead w n) b 0 ys.toArray) os) R (one b (.cells (ys.map enc ++ rest).toArray T (0, 0)) :: Lr) := by
  have hb : w.heap[b]? = some (.cells (d.map enc ++ rest).toArray T (0, 0)) := hst.blk (i := 0) rfl
  have hp : putCells enc 0 ys.toArray (d.map enc ++ rest).toArray = (ys.map enc ++ rest).toArray := by
    apply Array.ext_getElem?
    intro k
    simp only [putCells, Array.getElem?_mapIdx, List.getElem?_toArray, Nat.zero_le, true_and, Nat.zero_add, Nat.sub_zero, List.size_toArray]
    by_cases hk : k < ys.length
    · rw [List.getElem?_append_left (by simp; omega), List.getElem?_append_left (by simpa using hk), List.getElem?_map, List.getElem?_map, List.getElem?_eq_getElem hk, List.getElem?_eq_getElem (by omega)]
      simp [hk]
    · rw [List.getElem?_append_right (by simp; omega), List.getElem?_append_right (by simpa using hk)]
      simp only [List.length_map, hl, if_neg hk]
      have hk2 : ¬ k < d.length := by omega
      cases rest[k - d.length]? <;> simp [hk2]
  have e : (grow (putRow enc (Sort.ahead w n) b 0 ys.toArray) os) = grow (Sort.ahead (setB w b (.cells (ys.map enc ++ rest).toArray T (0, 0))) n) os := by
    congr 1
    rw [putRow_ahead]
    congr 1
    unfold putRow mapBlock setB
    congr 1
    apply Array.ext_getElem?
    intro k
    rw [Array.getElem?_modify, Array.getElem?_setIfInBounds]
    have hlt := (Array.getElem?_eq_some_iff.1 hb).1
    by_cases hk : b = k
    · subst hk
      rw [if_pos rfl, if_pos rfl, if_pos hlt, hb]
      simp only [Option.map_some, onCells, hp]
    · rw [if_neg hk, if_neg hk]
  rw [e]
  have h1 := hst.set0 (.cells (ys.map enc ++ rest).toArray T (0, 0))
  refine h1.grown ⟨rfl, rfl, rfl, ?_, ?_⟩
  · simp [grow, Sort.ahead]
  · intro i hi
    have h2 : ∀ (W : World), i < W.heap.size → (W.heap ++ os)[i]? = W.heap[i]? := fun W h => Array.getElem?_append_left h
    exact h2 _ hi
theorem flatK_list (enc : α → List Value) (k : Nat) (hk : ∀ x, (enc x).length = k) (k0 : 0 < k) (ys : List α) : flatK enc k ys.toArray = (ys.flatMap enc).toArray := by
  have hlen : ∀ zs : List α, (zs.flatMap enc).length = zs.length * k := fun zs => by
    induction zs with
    | nil => simp
    | cons z zs ih => rw [List.flatMap_cons, List.length_append, hk, ih, List.length_cons, Nat.add_mul, Nat.one_mul, Nat.add_comm]
  have key : ∀ (zs : List α) (t : Nat), t < zs.length * k → (zs.flatMap enc)[t]? = (enc (zs.getD (t / k) default))[t % k]? := fun zs => by
    induction zs with
    | nil => intro t ht; simp at ht
    | cons z zs ih =>
      intro t ht
      rw [List.flatMap_cons]
      by_cases h : t < k
      · rw [List.getElem?_append_left (by rw [hk]; exact h), Nat.div_eq_of_lt h, Nat.mod_eq_of_lt h]
        rfl
      · rw [List.getElem?_append_right (by rw [hk]; omega), hk, ih (t - k) (by rw [List.length_cons, Nat.add_mul, Nat.one_mul] at ht; omega)]
        have e1 : t / k = (t - k) / k + 1 := by rw [← Nat.sub_add_cancel (Nat.le_of_not_lt h), Nat.add_div_right _ k0, Nat.add_sub_cancel]
        have e2 : t % k = (t - k) % k := by rw [← Nat.mod_eq_sub_mod (Nat.le_of_not_lt h)]
        rw [e1, e2]
        simp
  refine ext_get! (by simp [hlen]) fun t ht => ?_
  have ht' : t < ys.length * k := by simpa using ht
  rw [get_flatK _ _ _ t (by simpa using ht')]
  have h1 := key ys t ht'
  have hd : t / k < ys.length := (Nat.div_lt_iff_lt_mul k0).2 ht'
  have e3 : ys.toArray[t / k]! = ys.getD (t / k) default := by
    rw [getElem!_pos _ _ (by simpa using hd), List.getD_eq_getElem?_getD, List.getElem?_eq_getElem hd]
    simp
  rw [e3]
  have h2 : (ys.flatMap enc)[t]! = (enc (ys.getD (t / k) default))[t % k]! := by
    rw [List.getElem!_eq_getElem?_getD, List.getElem!_eq_getElem?_getD, h1]
  simpa using h2.symm
end
end Go.Fx
namespace Go.Fx.YtjpdhfhiimbpgaaGreatDoor
open Go Go.Fx Go.Proofs Go.Sort
set_option maxRecDepth 20000
def bts (x : Str) : List UInt8 := x.data.toList
theorem bts_inj {x y : Str} (h : bts x = bts y) : x = y := by
  obtain ⟨x⟩ := x
  obtain ⟨y⟩ := y
  exact congrArg ByteArray.mk (Array.toList_inj.1 h)
theorem bts_enc (xs : List Str) : (xs.map bts).map encStr = xs.map Value.string := by
  rw [List.map_map]
  refine List.map_congr_left fun x _ => ?_
  obtain ⟨x⟩ := x
  simp [bts, encStr]
theorem unbts (ys : List (List UInt8)) : ∃ zs : List Str, ys = zs.map bts := ⟨ys.map fun y => ⟨y.toArray⟩, by rw [List.map_map]; simp [bts, Function.comp_def]⟩
theorem Row.strs {T b N : Nat} {R : Hp} {xs : List Str} {c : Hp} (h : Row Ty.str T b N R xs c) : ∃ rest, c = one b (.cells ((xs.map bts).map encStr ++ rest).toArray T (0, 0)) ∧ (xs.map Value.string ++ rest).length = N := by
  obtain ⟨cs, rest, rfl, he, hN⟩ := h
  have e := he.strs
  subst e
  exact ⟨rest, by rw [bts_enc], hN⟩
theorem Encs.ofStrs (R : Hp) (xs : List Str) : Encs Ty.str R xs (xs.map Value.string) := by
  induction xs with
  | nil => exact .nil
  | cons x xs ih => exact .cons (t := Ty.str) (c := [Value.string x]) rfl ih
theorem Row.ofStrs {T b N : Nat} (R : Hp) {xs : List Str} {rest : List Value} (h : (xs.map Value.string ++ rest).length = N) : Row Ty.str T b N R xs (one b (.cells ((xs.map bts).map encStr ++ rest).toArray T (0, 0))) :=
  ⟨xs.map Value.string, rest, by rw [bts_enc], Encs.ofStrs R xs, h⟩
/-- slices.Sort of texts that are one's own. -/
theorem SortS_spec {w : World} {R c : Hp} {v : Value} {xs : List Str} (hs : Sats w R [c]) (how : OwnL Ty.str 9 R v xs c) (hlen : xs.length ≤ 1000000) :
    Calls Tryz.prog 72 #[v] w (Comes' w R [c] fun v' R' L' => v' = .tuple #[] ∧ ∃ c' ys, L' = [c'] ∧ ys.map bts = (xs.map bts).mergeSort (fun x y => decide (x ≤ y)) ∧ OwnL Ty.str 9 R' v ys c') := by
  by_cases hx : xs = []
  · subst hx
    obtain ⟨a, cap, rfl, _⟩ := how.value
    refine (Tryz.slices_Sort_string_none a cap w).mono ?_
    rintro e w' ⟨rfl, rfl⟩
    exact ⟨_, R, [c], rfl, Step.refl hs, rfl, c, [], rfl, by simp, how⟩
  · obtain ⟨b, cap, N, rfl, hc, hrow, hk⟩ := how.row (List.length_pos_iff.2 hx)
    obtain ⟨rest, rfl, hN⟩ := Row.strs hrow
    have hst := Step.refl hs
    have hb := hst.blk (i := 0) rfl
    have hblk : b < w.heap.size := hp_lt (by show w.heap[b]? ≠ none; rw [hb]; simp)
    have h0 := Tryz.slices_Sort_string b 0 cap (xs.map bts) w (Cells.holds encStr _ rest hb) hblk (by simp; omega)
    rw [List.length_map] at h0
    refine h0.mono ?_
    rintro e w' ⟨rfl, n, os, rfl⟩
    obtain ⟨ys, hys⟩ := unbts ((xs.map bts).mergeSort fun x y => decide (x ≤ y))
    have hl : ys.length = xs.length := by have := congrArg List.length hys; simpa using this.symm
    have h2 := Cells.put encStr (xs.map bts) ((xs.map bts).mergeSort fun x y => decide (x ≤ y)) rest hst (by simp) n os
    rw [hys] at h2 ⊢
    exact ⟨_, R, _, rfl, h2, rfl, _, ys, rfl, rfl, hk R ys _ hl (Row.ofStrs R (by rw [← hN]; simp [hl]))⟩
theorem compact_len_le (zs : List (List UInt8)) : (Lib.compact zs).length ≤ zs.length := by
  unfold Lib.compact Lib.compactUpTo
  rw [List.length_map]
  exact Nat.le_trans (List.length_filter_le _ _) (by simp)
/-- slices.Compact of texts that are one's own: how many are left. -/
theorem CompactS_spec {w : World} {R c : Hp} {v : Value} {xs : List Str} (hs : Sats w R [c]) (how : OwnL Ty.str 9 R v xs c) (hlen : xs.length ≤ 1000000) :
    Calls Tryz.prog 59 #[v] w (Comes' w R [c] fun v' R' L' => ∃ a cap c', v' = .slice a (Lib.compact (xs.map bts)).length cap ∧ L' = [c']) := by
  by_cases hx : xs = []
  · subst hx
    obtain ⟨a, cap, rfl, _⟩ := how.value
    refine (Tryz.slices_Compact_string_empty a cap w).mono ?_
    rintro e w' ⟨rfl, rfl⟩
    exact ⟨_, R, [c], rfl, Step.refl hs, a, cap, c, rfl, rfl⟩
  · obtain ⟨b, cap, N, rfl, hc, hrow, hk⟩ := how.row (List.length_pos_iff.2 hx)
    obtain ⟨rest, rfl, hN⟩ := Row.strs hrow
    have hst := Step.refl hs
    have hb := hst.blk (i := 0) rfl
    have h0 := Tryz.slices_Compact_string b 0 cap (xs.map bts) w (Cells.holds encStr _ rest hb) (by simp; omega) (by simpa using hc)
    rw [List.length_map] at h0
    refine h0.mono ?_
    rintro e w' ⟨rfl, q, rfl⟩
    have hcl := compact_len_le (xs.map bts)
    rw [List.length_map] at hcl
    have h2 := Cells.put encStr (xs.map bts) (Lib.compact (xs.map bts) ++ List.replicate (xs.length - (Lib.compact (xs.map bts)).length) []) rest hst (by simp; omega) q #[]
    rw [show ∀ W : World, grow W #[] = W from fun W => by simp [grow]] at h2
    exact ⟨_, R, _, rfl, h2, _, _, _, rfl, rfl⟩
/-- Nothing is lost exactly where nothing is there twice. -/
theorem compact_nodup (zs : List (List UInt8)) : ((Lib.compact (zs.mergeSort fun x y => decide (x ≤ y))).length = zs.length) ↔ zs.Nodup := by
  have hp := List.mergeSort_perm zs (fun x y => decide (x ≤ y))
  have hsort : (zs.mergeSort fun x y => decide (x ≤ y)).Pairwise fun x y => x ≤ y := by
    have := List.pairwise_mergeSort (le := fun x y : List UInt8 => decide (x ≤ y)) (fun a b c h1 h2 => by simp only [decide_eq_true_eq] at *; exact List.le_trans h1 h2) (fun a b => by simp only [Bool.or_eq_true, decide_eq_true_eq]; exact List.le_total a b) zs
    exact this.imp fun h => by simpa using h
  rw [← hp.nodup_iff, ← hp.length_eq]
  generalize (zs.mergeSort fun x y => decide (x ≤ y)) = l at hsort
  clear hp
  constructor
  · intro h
    have hall : ∀ j, j < l.length → Lib.keeps l.toArray j = true := fun j hj => by
      unfold Lib.compact Lib.compactUpTo at h
      rw [List.length_map] at h
      have h2 := List.length_filter_eq_length_iff.1 (by rw [h]; simp : ((List.range l.length).filter (Lib.keeps l.toArray)).length = (List.range l.length).length)
      exact h2 j (List.mem_range.2 hj)
    have hadj : ∀ j (hj : j + 1 < l.length), l[j] ≠ l[j + 1] := fun j hj e => by
      have h3 := hall (j + 1) hj
      unfold Lib.keeps at h3
      rw [decide_eq_true_eq] at h3
      rcases h3 with h3 | h3
      · omega
      · apply h3
        rw [getElem!_pos _ _ (by simpa using hj), getElem!_pos _ _ (by simp; omega)]
        simp [e]
    refine List.pairwise_iff_getElem.2 fun i j hi hj hij e => ?_
    have h1 : l[i] ≤ l[i + 1]'(by omega) := List.pairwise_iff_getElem.1 hsort i (i + 1) (by omega) (by omega) (by omega)
    have h2 : l[i + 1]'(by omega) ≤ l[j] := by
      by_cases q : i + 1 = j
      · subst q; exact List.le_refl _
      · exact List.pairwise_iff_getElem.1 hsort (i + 1) j (by omega) (by omega) (by omega)
    rw [← e] at h2
    exact hadj i (by omega) (List.le_antisymm h1 h2)
  · intro h
    rw [Lib.compact_all]
    intro j hj
    unfold Lib.keeps
    rw [decide_eq_true_eq]
    by_cases q : j = 0
    · exact .inl q
    · right
      rw [getElem!_pos _ _ (by simpa using hj), getElem!_pos _ _ (by simp; omega)]
      intro e
      have e : l[j] = l[j - 1] := by simpa using e
      exact List.pairwise_iff_getElem.1 h (j - 1) j (by omega) (by omega) (by omega) e.symm
theorem bts_nodup (xs : List Str) : (xs.map bts).Nodup ↔ xs.Nodup := by
  constructor
  · intro h
    exact List.Pairwise.of_map bts (fun a b hab e => hab (by rw [e])) h
  · intro h
    exact List.pairwise_map.2 (h.imp fun hab e => hab (bts_inj e))
end Go.Fx.YtjpdhfhiimbpgaaGreatDoor
set_option linter.unusedSimpArgs false
set_option linter.unusedVariables false
set_option linter.unusedSectionVars false
namespace Go.Fx.YtjpdhfhiimbpgaaGreatDoor
open Go Go.Fx Go.Proofs
set_option maxRecDepth 20000
theorem entS73' : Ent Tryz.prog 73 := fun _ _ => by kernel_rfl
theorem rootL_nat {l : List Nd} {rs : List Int} (hc : Cans l) (hv : ∀ r ∈ rs, ∃ k : Nat, r = (k : Int) ∧ k < l.length) {k : Nat} (hk : k < rs.length) : ∃ r : Nat, rootL l rs (k : Int) = (r : Int) ∧ r < l.length := by
  obtain ⟨j, h1, h2⟩ := hv _ (List.getElem_mem hk)
  rw [rootL_in hk, h1, canon_nat h2]
  exact ⟨_, rfl, hc.lt h2⟩
theorem sorted_ne {names ys : List Str} (h : ys.map bts = (names.map bts).mergeSort (fun x y => decide (x ≤ y))) (q : ¬ ((Lib.compact (ys.map bts)).length : Int) = (names.length : Int)) : ¬ names.Nodup := fun hn => by
  rw [h] at q
  have := (compact_nodup (names.map bts)).2 ((bts_nodup names).2 hn)
  rw [List.length_map] at this
  omega
theorem sorted_eq' {names ys : List Str} (h : ys.map bts = (names.map bts).mergeSort (fun x y => decide (x ≤ y))) (q : ((Lib.compact (ys.map bts)).length : Int) = (names.length : Int)) : names.Nodup := by
  rw [h] at q
  refine (bts_nodup names).1 ((compact_nodup (names.map bts)).1 ?_)
  rw [List.length_map]
  omega
variable {s : TS} {k r : Nat} {names : List Str} {x : Nd}
structure Makes (s : TS) (k r : Nat) (names : List Str) (x : Nd) : Prop where
  cls : k < s.roots.length
  len : ¬ 64 < names.length
  nodup : names.Nodup
  empty : ¬ eStr ∈ names
  root : rootL s.nodes s.roots (k : Int) = (r : Int)
  lt : r < s.nodes.length
  nd : s.nodes[r] = x
theorem Makes.go (h : Makes s k r names x) : s.make (k : Int) names = if x.names = names then ((r : Int), (0 : Int), s)
  else match s.nodes.findIdx? (findP (k : Int) names) with
    | some n => ((n : Int), 0, s)
    | none => if 200 ≤ s.nodes.length then (0, 2, s) else ((s.nodes.length : Int), 0, s.addN (k : Int) names) := by
  have hc := h.cls
  have hl := h.len
  rw [make_go (by
    rintro (h1 | h1 | h1 | h1 | h1)
    · omega
    · omega
    · exact hl h1
    · exact h1 h.nodup
    · exact h.empty h1), h.root, Int.toNat_natCast, ndL_eq h.lt, h.nd]
  rfl
theorem Makes.same (h : Makes s k r names x) (e : x.names = names) : s.make (k : Int) names = ((r : Int), 0, s) := by rw [h.go, if_pos e]
theorem Makes.found (h : Makes s k r names x) (e : ¬ x.names = names) (f : (findL s.nodes (k : Int) names).2 = true) : s.make (k : Int) names = ((findL s.nodes (k : Int) names).1, 0, s) := by
  rw [h.go, if_neg e]
  rcases findL_eq s.nodes (k : Int) names with ⟨h1, h2⟩ | ⟨n, h1, h2⟩
  · rw [h2] at f; cases f
  · rw [h1, h2]
theorem Makes.full (h : Makes s k r names x) (e : ¬ x.names = names) (f : (findL s.nodes (k : Int) names).2 = false) (q : 200 ≤ s.nodes.length) : s.make (k : Int) names = (0, 2, s) := by
  rw [h.go, if_neg e]
  rcases findL_eq s.nodes (k : Int) names with ⟨h1, h2⟩ | ⟨n, h1, h2⟩
  · rw [h1]; simp only; rw [if_pos q]
  · rw [h2] at f; cases f
theorem Makes.made (h : Makes s k r names x) (e : ¬ x.names = names) (f : (findL s.nodes (k : Int) names).2 = false) (q : ¬ 200 ≤ s.nodes.length) : s.make (k : Int) names = ((s.nodes.length : Int), 0, s.addN (k : Int) names) := by
  rw [h.go, if_neg e]
  rcases findL_eq s.nodes (k : Int) names with ⟨h1, h2⟩ | ⟨n, h1, h2⟩
  · rw [h1]; simp only; rw [if_neg q]
  · rw [h2] at f; cases f
end Go.Fx.YtjpdhfhiimbpgaaGreatDoor
set_option linter.unusedSimpArgs false
set_option linter.unusedVariables false
set_option linter.unusedSectionVars false
namespace Go.Fx.YtjpdhfhiimbpgaaGreatDoor
open Go Go.Fx Go.Proofs Go.Sort Go.RowKit
set_option maxRecDepth 20000
def ltS (a b : Str) : Bool := decide (bts a < bts b)
theorem compareBytes_lt : ∀ a b : List UInt8, Lib.compareBytes a b < 0 ↔ a < b
  | [], [] => by simp [Lib.compareBytes]
  | [], _ :: _ => by simp [Lib.compareBytes]
  | _ :: _, [] => by simp [Lib.compareBytes]
  | a :: x, b :: y => by
    have ih := compareBytes_lt x y
    simp only [Lib.compareBytes, List.cons_lt_cons_iff]
    by_cases h1 : a < b
    · simp [h1]
    · by_cases h2 : b < a
      · have h3 : ¬ a = b := fun e => by subst e; exact absurd h2 (by simp)
        simp [h1, h2, h3]
      · have h3 : a = b := UInt8.le_antisymm (UInt8.not_lt.1 h2) (UInt8.not_lt.1 h1)
        simp [h1, h2, h3, ih]
def cmpS (x y : Stp) : Int := Lib.compareBytes (bts x.2) (bts y.2)
theorem ltOf_cmpS (x y : Stp) : ltOf cmpS x y = ltS x.2 y.2 := by
  unfold ltOf cmpS ltS
  rw [decide_eq_decide]
  exact compareBytes_lt _ _
theorem swoS : SWO (ltOf cmpS) where
  irrefl x := by rw [ltOf_cmpS]; unfold ltS; simp [List.lt_irrefl]
  trans x y z h1 h2 := by
    rw [ltOf_cmpS] at *
    unfold ltS at *
    simp only [decide_eq_true_eq] at *
    exact List.lt_trans h1 h2
  ntrans x y z h1 h2 := by
    rw [ltOf_cmpS] at *
    unfold ltS at *
    simp only [decide_eq_false_iff_not, List.not_lt] at *
    exact List.le_trans h2 h1
def encT (x : Stp) : List Value := [.int .i64 x.1, .string x.2]
set_option maxHeartbeats 1000000 in
theorem closureT (x y : Stp) (W : World) : Calls Tryz.prog 68 #[.agg #[.int .i64 x.1, .string x.2], .agg #[.int .i64 y.1, .string y.2]] W fun e w' => e = .returned (.int .i64 (cmpS x y)) ∧ ∃ q os', w' = grow (W.drewN q) os' := by
  have hcon := fun W' => Tryz.strings_Compare x.2 y.2 W'
  change ∀ W', Calls Tryz.prog 69 _ _ _ at hcon
  unfold cmpS bts
  generalize Lib.compareBytes _ _ = r at hcon ⊢
  go_enter Tryz.func68, Tryz.ntmps68
  go_wp2_with (go_at_call 69; refine (hcon _).mono ?_; rintro e w' ⟨rfl, rfl⟩)
  go_ret
  exact ⟨rfl, 0, _, by rw [alloc_eq_grow, alloc_eq_grow, grow_grow]; rfl⟩
theorem tyStp_cells {R : Hp} {xs : List Stp} {cs : List Value} (h : Encs tyStp R xs cs) : cs = xs.flatMap encT := by
  induction h with
  | nil => rfl
  | cons hx _ ih =>
    obtain ⟨c1, c2, rfl, e1, e2⟩ := hx
    have h1 : c1 = [_] := e1
    have h2 : c2 = [_] := e2
    subst h1; subst h2
    rw [ih]
    rfl
theorem tyStp_enc (R : Hp) (xs : List Stp) : Encs tyStp R xs (xs.flatMap encT) := by
  induction xs with
  | nil => exact .nil
  | cons x xs ih => exact .cons (t := tyStp) (c := [.int .i64 x.1, .string x.2]) ⟨[_], [_], rfl, rfl, rfl⟩ ih
theorem flat_len (xs : List Stp) : (xs.flatMap encT).length = xs.length * 2 := by
  induction xs with
  | nil => rfl
  | cons x xs ih => rw [List.flatMap_cons, List.length_append, ih]; simp [encT]; omega
/-- slices.SortFunc of steps that are one's own, by their names. -/
theorem SortT_spec {w : World} {R c : Hp} {v : Value} {xs : List Stp} (hs : Sats w R [c]) (how : OwnL tyStp 98 R v xs c) (hlen : xs.length ≤ 1000000) :
    Calls Tryz.prog 77 #[v, .func (.func 68) #[] #[]] w (Comes' w R [c] fun v' R' L' => v' = .tuple #[] ∧ ∃ c' ys, L' = [c'] ∧ ys.Perm xs ∧ ys.Pairwise (fun a b => ltS b.2 a.2 = false) ∧ OwnL tyStp 98 R' v ys c') := by
  by_cases hx : xs = []
  · subst hx
    obtain ⟨a, cap, rfl, _⟩ := how.value
    refine (AnyF.slices_SortFunc_none Tryz.sortStep a cap (.func (.func 68) #[] #[]) w).mono ?_
    rintro e w' ⟨rfl, rfl⟩
    exact ⟨_, R, [c], rfl, Step.refl hs, rfl, c, [], rfl, List.Perm.refl _, .nil, how⟩
  · obtain ⟨b, cap, N, rfl, hc, hrow, hk⟩ := how.row (List.length_pos_iff.2 hx)
    obtain ⟨cs, rest, rfl, he, hN⟩ := hrow
    have e := tyStp_cells he
    subst e
    have hst := Step.refl hs
    have hb := hst.blk (i := 0) rfl
    have hblk : b < w.heap.size := hp_lt (by show w.heap[b]? ≠ none; rw [hb]; simp)
    have hfl : flatK encT 2 xs.toArray = (xs.flatMap encT).toArray := flatK_list encT 2 (fun _ => rfl) (by decide) xs
    have hH : HoldsK encT 2 w b 0 xs.toArray := by
      unfold HoldsK
      rw [hfl]
      exact Cells.holds (T := 98) id _ rest (by rw [List.map_id]; exact hb)
    have eg : ∀ args w, (callFunc 68 args).run Tryz.prog w = .ok (.enter 68 args) w := enters_of Tryz.func68 (by kernel_rfl) rfl
    have h0 := AnyQ.slices_SortFunc Tryz.sortStep 2 Tryz.isAgg98 Tryz.sizeOf98 encT (fun _ => rfl) (fun x v hv => by simp [encT] at hv; rcases hv with rfl | rfl <;> rfl) cmpS swoS 68 #[] b 0 cap xs.toArray w eg (fun _ _ _ _ x y => closureT x y _) hH hblk (by simp; omega)
    change Calls Tryz.prog 77 _ _ _ at h0
    rw [List.size_toArray] at h0
    refine h0.mono ?_
    rintro e w' ⟨rfl, d', n, os, ⟨hsz, _, hp⟩, hsd, rfl⟩
    have hd : d' = d'.toList.toArray := by simp
    have hl : d'.toList.length = xs.length := by simpa using hsz
    have hperm : d'.toList.Perm xs := by
      have e1 : (d'.extract 0 xs.length).toList = d'.toList := by
        rw [Array.toList_extract, List.extract_eq_take_drop, List.drop_zero, Nat.sub_zero, ← hl, List.take_length]
      have e2 : (xs.toArray.extract 0 xs.length).toList = xs := by simp
      rw [e1, e2] at hp
      exact hp
    have hpw : d'.toList.Pairwise (fun a b => ltS b.2 a.2 = false) := by
      refine List.pairwise_iff_getElem.2 fun i j hi hj hij => ?_
      have := hsd i j (Nat.zero_le _) hij (by rw [← hl]; exact hj)
      rw [ltOf_cmpS, getElem!_pos _ _ (by simpa using hj), getElem!_pos _ _ (by simpa using hi)] at this
      simpa using this
    have h2 := Cells.put id (xs.flatMap encT) (d'.toList.flatMap encT) rest (by rw [List.map_id]; exact hst) (by rw [flat_len, flat_len, hl]) n os
    rw [List.map_id] at h2
    have e3 : sortWorldK encT 2 w b 0 n d' os = grow (putRow id (Sort.ahead w n) b 0 (d'.toList.flatMap encT).toArray) os := by
      unfold sortWorldK putRowK
      rw [hd, flatK_list encT 2 (fun _ => rfl) (by decide)]
    rw [e3]
    exact ⟨_, R, _, rfl, h2, rfl, _, d'.toList, rfl, hperm, hpw, hk R _ _ hl ⟨_, rest, rfl, tyStp_enc R _, by rw [← hN, List.length_append, List.length_append, flat_len, flat_len, hl]⟩⟩
end Go.Fx.YtjpdhfhiimbpgaaGreatDoor
set_option linter.unusedSimpArgs false
set_option linter.unusedVariables false
set_option linter.unnecessarySimpa false
namespace Go.Fx
open Go
theorem YieldsIf.wpOpJ {P : Program} {ops : Array Oper} {Q : Exit → Act → World → Prop} {S : World → Prop} {i : Nat} {o : Oper} {v : Value} {a : Act} (hi : ops[i]? = some o) (hy : YieldsIf P ops S o v a)
    {K : Act → World → Prop} {w : World} (hS : S w) (h : K (a.put o.dst v) w) : wpOpIn (rof none) 0 P ops Q i K a w := by
  unfold Go.wpOpIn
  simp only [hi]
  rcases hy with ⟨hw, hv⟩ | ⟨hw, rfl⟩
  · simp only [hw, if_true]
    refine ⟨fun _ _ => trivial, ?_⟩
    show o.uponIn (rof none) 0 P a K Q ((o.semAt none a.eval).run P w)
    rw [Oper.semAt_none, hv w hS]
    exact h
  · simp only [hw, Bool.false_eq_true, if_false]
    exact ⟨fun _ _ => trivial, h⟩
theorem wpOpJ_putIf {P : Program} {ops : Array Oper} {Q : Exit → Act → World → Prop} {S : World → Prop} {j : Nat} {oi oj : Oper} {v : Value} (hj : ops[j]? = some oj) (hap : oi.apart ops oj = true)
    (hsi : ∀ cs b, oi.op ≠ .select cs b) (hsj : ∀ cs b, oj.op ≠ .select cs b)
    (hQ : ∀ c a w, Q (.panic c) (a.put oi.dst v) w → Q (.panic c) a w) {K : Act → World → Prop} {a : Act} {w : World}
    (hy : YieldsIf P ops S oi v a) (h : wpOpIn (rof none) 0 P ops Q j K (a.put oi.dst v) w) :
    wpOpIn (rof none) 0 P ops Q j (fun a' w' => YieldsIf P ops S oi v a' ∧ K (a'.put oi.dst v) w') a w := by
  obtain ⟨h1, h2, h3⟩ := Oper.apart_spec hap
  have keep : ∀ (a : Act), YieldsIf P ops S oi v a → ∀ u, YieldsIf P ops S oi v (a.put oj.dst u) := fun a hy u =>
    hy.of_same (execOp_put oi hsi a oj.dst u h3) (wanted_put oi a oj.dst u h3)
  have keepD : ∀ d, YieldsIf P ops S oi v { a with defers := d :: a.defers } := fun d => hy.of_same rfl rfl
  unfold wpOpIn at *
  simp only [hj] at *
  rw [wanted_put oj a oi.dst v h1] at h
  split
  · rename_i hw
    simp only [hw, if_true] at h
    unfold Oper.wpIn at *
    refine ⟨fun _ _ => trivial, ?_⟩
    have h := h.2
    have hro : (rof none).round = none := rfl
    rw [hro, Oper.semAt_none, execOp_put oj hsj a oi.dst v h1] at h
    rw [hro, Oper.semAt_none]
    generalize (execOp a.eval oj).run P w = r at *
    cases r with
    | ok x w' =>
      cases x <;> simp only [Oper.uponIn] at h ⊢
      case value u => exact ⟨keep a hy u, by rw [← Act.put_comm a v u h2]; exact h⟩
      case skip => exact ⟨keep a hy _, by rw [← Act.put_comm a v undef h2]; exact h⟩
      case defer d =>
        refine ⟨keep _ (keepD d) _, ?_⟩
        rw [← Act.put_comm _ v undef h2, ← Act.put_defers]
        exact h
      case enter f args =>
        refine ⟨h.1, CallsIn.mono h.2 fun e w'' he => ?_⟩
        cases e with
        | returned u => exact ⟨keep a hy u, by rw [← Act.put_comm a v u h2]; exact he⟩
        | panicked c => exact hQ _ _ _ he
        | outgrown => exact he
      case row row args => exact ⟨h.1, RowsIn.mono h.2 fun u w'' he => ⟨keep a hy u, by rw [← Act.put_comm a v u h2]; exact he⟩⟩
      case round l f tmps assign body =>
        refine ⟨h.1, RoundIn.mono h.2 fun e w'' he => ?_⟩
        cases e with
        | returned u => exact ⟨keep a hy u, by rw [← Act.put_comm a v u h2]; exact he⟩
        | panicked c => exact hQ _ _ _ he
        | outgrown => exact he
    | halt x w' =>
      cases x <;> simp only [Oper.uponIn] at h ⊢
      case panic u => exact hQ _ _ _ h
  · rename_i hw
    simp only [hw] at h
    exact ⟨fun _ _ => trivial, keep a hy _, by rw [← Act.put_comm a v undef h2]; exact h.2⟩
/-- Whatever order is picked from here on; F holds behind every operation, as long as none of Ts has come up. -/
def wpAnyJ (P : Program) (ops : Array Oper) (Q : Exit → Act → World → Prop) (Ts : List Nat) (F : World → Prop) : Nat → Array Bool → Act → World → Prop
  | 0, listed, a, w => Region.ready .any ops listed = [] ∧ Q .normal a w
  | fuel + 1, listed, a, w =>
    (Region.ready .any ops listed = [] → Q .normal a w) ∧
    ∀ i ∈ Region.ready .any ops listed, wpOpIn (rof none) 0 P ops Q i (fun a' w' => (unl Ts (listed.setIfInBounds i true) = true → F w') ∧ wpAnyJ P ops Q Ts F fuel (listed.setIfInBounds i true) a' w') a w
section
variable {P : Program} {ops : Array Oper} {Q : Exit → Act → World → Prop} {Ts : List Nat} {F : World → Prop}
theorem wpAnyIn_of_J : ∀ (fuel : Nat) (listed : Array Bool) (a : Act) (w : World), wpAnyJ P ops Q Ts F fuel listed a w → wpAnyIn (rof none) 0 P .any ops Q fuel listed a w
  | 0, _, _, _, h => h
  | fuel + 1, _, _, _, h => ⟨h.1, fun i hi => wpOpIn_mono (fun a' w' h' => wpAnyIn_of_J fuel _ a' w' h'.2) (h.2 i hi)⟩
theorem wpAnyJ_first {i : Nat} {oi : Oper} {v : Value} (hi : ops[i]? = some oi) (hsel : ∀ (j : Nat) (o : Oper) cs b, ops[j]? = some o → o.op ≠ .select cs b) (hw8 : wait ops Ts i = true)
    (hQ : ∀ c a w, Q (.panic c) (a.put oi.dst v) w → Q (.panic c) a w) :
    ∀ (fuel : Nat) (listed : Array Bool) (a : Act) (w : World),
      (∀ j oj, ops[j]? = some oj → j ≠ i → listed.getD j true = false → (∀ e ∈ oj.after, Region.binds .any e = true → e.on ≠ i) → oi.apart ops oj = true) →
      i ∈ Region.ready .any ops listed → YieldsIf P ops F oi v a → unl Ts listed = true → F w →
      wpAnyJ P ops Q Ts F fuel (listed.setIfInBounds i true) (a.put oi.dst v) w → wpAnyJ P ops Q Ts F (fuel + 1) listed a w := by
  have hiT : ∀ listed, i ∈ Region.ready .any ops listed → i ∉ Ts := by
    intro listed hr hin
    have h := List.all_eq_true.1 hw8 i hin
    obtain ⟨hun, o, ho, hall⟩ := mem_ready.1 hr
    rw [ho] at h
    simp only at h
    obtain ⟨e, he, hb⟩ := Array.any_eq_true'.1 h
    simp only [Bool.and_eq_true, beq_iff_eq] at hb
    have h2 := hall e he hb.1
    rw [hb.2] at h2
    rcases Nat.lt_or_ge i listed.size with h' | h'
    · simp [h'] at hun h2; rw [hun] at h2; cases h2
    · simp [Array.getElem?_eq_none h'] at h2
  intro fuel
  induction fuel with
  | zero =>
    intro listed a w _ hr hy hT hF H
    refine ⟨fun h => (by rw [h] at hr; cases hr), fun j hj => ?_⟩
    by_cases hji : j = i
    · subst hji; exact YieldsIf.wpOpJ hi hy hF ⟨fun _ => hF, H⟩
    · have := ready_mono hj hji
      rw [H.1] at this
      cases this
  | succ fuel ih =>
    intro listed a w hfree hr hy hT hF H
    refine ⟨fun h => (by rw [h] at hr; cases hr), fun j hj => ?_⟩
    by_cases hji : j = i
    · subst hji; exact YieldsIf.wpOpJ hi hy hF ⟨fun _ => hF, H⟩
    · have h1 := H.2 j (ready_mono hj hji)
      obtain ⟨hjun, oj, hoj, hall⟩ := mem_ready.1 hj
      have hnot : ∀ e ∈ oj.after, Region.binds .any e = true → e.on ≠ i := fun e he hb heq => by
        have h1 := hall e he hb
        have h0 := (mem_ready.1 hr).1
        rw [heq] at h1
        rcases Nat.lt_or_ge i listed.size with h' | h'
        · simp [h'] at h0 h1; rw [h0] at h1; cases h1
        · simp [Array.getElem?_eq_none h'] at h1
      have hjT : j ∉ Ts := by
        intro hin
        have h := List.all_eq_true.1 hw8 j hin
        rw [hoj] at h
        simp only at h
        obtain ⟨e, he, hb⟩ := Array.any_eq_true'.1 h
        simp only [Bool.and_eq_true, beq_iff_eq] at hb
        exact hnot e he hb.1 hb.2
      have h2 := wpOpJ_putIf hoj (hfree j oj hoj hji hjun hnot) (fun cs b => hsel i oi cs b hi) (fun cs b => hsel j oj cs b hoj) hQ hy h1
      have hfree' : ∀ k ok, ops[k]? = some ok → k ≠ i → (listed.setIfInBounds j true).getD k true = false →
          (∀ e ∈ ok.after, Region.binds .any e = true → e.on ≠ i) → oi.apart ops ok = true := fun k ok hk hki hun hno => by
        refine hfree k ok hk hki ?_ hno
        by_cases hjk : j = k
        · subst hjk; exact hjun
        · rw [getD_set_ne true hjk] at hun; exact hun
      have hT' := unl_set hT hjT
      have hF' : ∀ w', (unl Ts ((listed.setIfInBounds i true).setIfInBounds j true) = true → F w') → F w' := fun w' hf => hf (unl_set (unl_set hT (hiT _ hr)) hjT)
      refine wpOpIn_mono (fun a' w' h3 => ⟨fun _ => hF' _ h3.2.1, ih (listed.setIfInBounds j true) a' w' hfree' (ready_mono hr (Ne.symm hji)) h3.1 hT' (hF' _ h3.2.1) ?_⟩) h2
      rw [Array.setIfInBounds_comm _ _ hji]
      exact h3.2.2
/-- An operation that looks at no world may be taken first whatever has come up. -/
theorem wpAnyJ_firstP {i : Nat} {oi : Oper} {v : Value} (hi : ops[i]? = some oi) (hsel : ∀ (j : Nat) (o : Oper) cs b, ops[j]? = some o → o.op ≠ .select cs b) (hiT : Ts.contains i = false)
    (hQ : ∀ c a w, Q (.panic c) (a.put oi.dst v) w → Q (.panic c) a w) :
    ∀ (fuel : Nat) (listed : Array Bool) (a : Act) (w : World),
      (∀ j oj, ops[j]? = some oj → j ≠ i → listed.getD j true = false → (∀ e ∈ oj.after, Region.binds .any e = true → e.on ≠ i) → oi.apart ops oj = true) →
      i ∈ Region.ready .any ops listed → YieldsIf P ops (fun _ => True) oi v a → (unl Ts listed = true → F w) →
      wpAnyJ P ops Q Ts F fuel (listed.setIfInBounds i true) (a.put oi.dst v) w → wpAnyJ P ops Q Ts F (fuel + 1) listed a w := by
  intro fuel
  induction fuel with
  | zero =>
    intro listed a w _ hr hy hF H
    refine ⟨fun h => (by rw [h] at hr; cases hr), fun j hj => ?_⟩
    by_cases hji : j = i
    · subst hji; exact YieldsIf.wpOpJ hi hy trivial ⟨fun h => hF (unl_unset h), H⟩
    · have := ready_mono hj hji
      rw [H.1] at this
      cases this
  | succ fuel ih =>
    intro listed a w hfree hr hy hF H
    refine ⟨fun h => (by rw [h] at hr; cases hr), fun j hj => ?_⟩
    by_cases hji : j = i
    · subst hji; exact YieldsIf.wpOpJ hi hy trivial ⟨fun h => hF (unl_unset h), H⟩
    · have h1 := H.2 j (ready_mono hj hji)
      obtain ⟨hjun, oj, hoj, hall⟩ := mem_ready.1 hj
      have hnot : ∀ e ∈ oj.after, Region.binds .any e = true → e.on ≠ i := fun e he hb heq => by
        have h1 := hall e he hb
        have h0 := (mem_ready.1 hr).1
        rw [heq] at h1
        rcases Nat.lt_or_ge i listed.size with h' | h'
        · simp [h'] at h0 h1; rw [h0] at h1; cases h1
        · simp [Array.getElem?_eq_none h'] at h1
      have h2 := wpOpJ_putIf hoj (hfree j oj hoj hji hjun hnot) (fun cs b => hsel i oi cs b hi) (fun cs b => hsel j oj cs b hoj) hQ hy h1
      have hfree' : ∀ k ok, ops[k]? = some ok → k ≠ i → (listed.setIfInBounds j true).getD k true = false →
          (∀ e ∈ ok.after, Region.binds .any e = true → e.on ≠ i) → oi.apart ops ok = true := fun k ok hk hki hun hno => by
        refine hfree k ok hk hki ?_ hno
        by_cases hjk : j = k
        · subst hjk; exact hjun
        · rw [getD_set_ne true hjk] at hun; exact hun
      have hF' : ∀ w', (unl Ts ((listed.setIfInBounds i true).setIfInBounds j true) = true → F w') → unl Ts (listed.setIfInBounds j true) = true → F w' := fun w' hf hu => hf (by
        rw [Array.setIfInBounds_comm _ _ (Ne.symm hji)]
        exact unl_set' hu hiT)
      refine wpOpIn_mono (fun a' w' h3 => ⟨hF' _ h3.2.1, ih (listed.setIfInBounds j true) a' w' hfree' (ready_mono hr (Ne.symm hji)) h3.1 (hF' _ h3.2.1) ?_⟩) h2
      rw [Array.setIfInBounds_comm _ _ hji]
      exact h3.2.2
end
structure LJ (P : Program) (n : Nat) (ops : Array Oper) (Ts : List Nat) (F : World → Prop) (Q : QT) (fuel : Nat) (listed : Array Bool) (σ : Fr) (w : World) : Prop where
  run : ∀ a, Rel n a σ → wpAnyJ P ops (lift n Q) Ts F fuel listed a w
section
variable {P : Program} {n : Nat} {Q : QT} {σ : Fr} {w : World} {ops : Array Oper} {S F : World → Prop} {Ts : List Nat} {fuel : Nat} {listed : Array Bool}
/-- An operation that gives its value in every world that meets F may be taken first. -/
theorem LJ_take (i : Nat) {o : Oper} {d : Nat} {v : Value} (hi : ops[i]? = some o) (hd : o.dst = some d) (hn : Nat.blt d n = true) (hs : Region.noSelect ops = true) (hf : Region.free .any ops listed i = true)
    (hr : (Region.ready .any ops listed).contains i = true) (hw8 : wait ops Ts i = true) (hT : unl Ts listed = true) (hQ : ∀ c σ w, ¬ Q (.panic c) σ w) (hw : Want ops σ o true)
    (hv : ∀ w, F w → (execOp (ev σ) o).run P w = .ok (.value v) w) (hF : F w) (k : LJ P n ops Ts F Q fuel (listed.setIfInBounds i true) (upd σ d v) w) : LJ P n ops Ts F Q (fuel + 1) listed σ w := by
  refine ⟨fun a ha => ?_⟩
  have hp := ha.put (d := d) (by simpa using hn) v
  refine wpAnyJ_first hi (Region.noSelect_spec hs) hw8 (v := v) (fun c a w ⟨τ, _, q⟩ => absurd q (hQ c τ w)) fuel listed a w (Region.free_spec hi hf) (by simpa using hr)
    (.inl ⟨hw.wanted ha, fun w hF => by rw [ha.eval]; exact hv w hF⟩) hT hF ?_
  rw [hd]
  exact k.run _ hp
/-- An operation that gives its value in every world may be taken first. -/
theorem LJ_takeP (i : Nat) {o : Oper} {d : Nat} {v : Value} (hi : ops[i]? = some o) (hd : o.dst = some d) (hn : Nat.blt d n = true) (hs : Region.noSelect ops = true) (hf : Region.free .any ops listed i = true)
    (hr : (Region.ready .any ops listed).contains i = true) (hiT : Ts.contains i = false) (hQ : ∀ c σ w, ¬ Q (.panic c) σ w) (hw : Want ops σ o true)
    (hv : ∀ w, (execOp (ev σ) o).run P w = .ok (.value v) w) (hF : unl Ts listed = true → F w) (k : LJ P n ops Ts F Q fuel (listed.setIfInBounds i true) (upd σ d v) w) : LJ P n ops Ts F Q (fuel + 1) listed σ w := by
  refine ⟨fun a ha => ?_⟩
  have hp := ha.put (d := d) (by simpa using hn) v
  refine wpAnyJ_firstP hi (Region.noSelect_spec hs) hiT (v := v) (fun c a w ⟨τ, _, q⟩ => absurd q (hQ c τ w)) fuel listed a w (Region.free_spec hi hf) (by simpa using hr)
    (.inl ⟨hw.wanted ha, fun w _ => by rw [ha.eval]; exact hv w⟩) hF ?_
  rw [hd]
  exact k.run _ hp
theorem LJ_leaveP (i : Nat) {o : Oper} {d : Nat} (hi : ops[i]? = some o) (hd : o.dst = some d) (hn : Nat.blt d n = true) (hs : Region.noSelect ops = true) (hf : Region.free .any ops listed i = true)
    (hr : (Region.ready .any ops listed).contains i = true) (hiT : Ts.contains i = false) (hQ : ∀ c σ w, ¬ Q (.panic c) σ w) (hw : Want ops σ o false) (hF : unl Ts listed = true → F w)
    (k : LJ P n ops Ts F Q fuel (listed.setIfInBounds i true) (upd σ d undef) w) : LJ P n ops Ts F Q (fuel + 1) listed σ w := by
  refine ⟨fun a ha => ?_⟩
  have hp := ha.put (d := d) (by simpa using hn) undef
  refine wpAnyJ_firstP hi (Region.noSelect_spec hs) hiT (v := undef) (fun c a w ⟨τ, _, q⟩ => absurd q (hQ c τ w)) fuel listed a w (Region.free_spec hi hf) (by simpa using hr)
    (.inr ⟨hw.wanted ha, rfl⟩) hF ?_
  rw [hd]
  exact k.run _ hp
/-- The same three, what a program checks left to it. -/
theorem LTJ (v : Value) (i : Nat) {o : Oper} {d : Nat} (hi : ops[i]? = some o) (hd : o.dst = some d) (hn : Nat.blt d n = true)
    (hv : ∀ w, F w → (execOp (ev σ) o).run P w = .ok (.value v) w) (hF : F w) (k : LJ P n ops Ts F Q fuel (listed.setIfInBounds i true) (upd σ d v) w)
    (hw : Want ops σ o true := by exact Want.plain rfl)
    (hs : Region.noSelect ops = true := by decide +kernel) (hf : Region.free .any ops listed i = true := by decide +kernel) (hr : (Region.ready .any ops listed).contains i = true := by decide +kernel)
    (hw8 : wait ops Ts i = true := by decide +kernel) (hT : unl Ts listed = true := by decide +kernel) (hQ : ∀ c σ w, ¬ Q (.panic c) σ w := by intro _ _ _ h; exact h) : LJ P n ops Ts F Q (fuel + 1) listed σ w :=
  LJ_take i hi hd hn hs hf hr hw8 hT hQ hw hv hF k
theorem LPJ (v : Value) (i : Nat) {o : Oper} {d : Nat} (hi : ops[i]? = some o) (hd : o.dst = some d) (hn : Nat.blt d n = true)
    (hv : ∀ w, (execOp (ev σ) o).run P w = .ok (.value v) w) (hF : F w) (k : LJ P n ops Ts F Q fuel (listed.setIfInBounds i true) (upd σ d v) w)
    (hw : Want ops σ o true := by exact Want.plain rfl)
    (hs : Region.noSelect ops = true := by decide +kernel) (hf : Region.free .any ops listed i = true := by decide +kernel) (hr : (Region.ready .any ops listed).contains i = true := by decide +kernel)
    (hiT : Ts.contains i = false := by decide +kernel) (hQ : ∀ c σ w, ¬ Q (.panic c) σ w := by intro _ _ _ h; exact h) : LJ P n ops Ts F Q (fuel + 1) listed σ w :=
  LJ_takeP i hi hd hn hs hf hr hiT hQ hw hv (fun _ => hF) k
theorem LVJ (i : Nat) {o : Oper} {d : Nat} (hi : ops[i]? = some o) (hd : o.dst = some d) (hn : Nat.blt d n = true) (hF : F w)
    (k : LJ P n ops Ts F Q fuel (listed.setIfInBounds i true) (upd σ d undef) w)
    (hw : Want ops σ o false := by exact Want.plain rfl)
    (hs : Region.noSelect ops = true := by decide +kernel) (hf : Region.free .any ops listed i = true := by decide +kernel) (hr : (Region.ready .any ops listed).contains i = true := by decide +kernel)
    (hiT : Ts.contains i = false := by decide +kernel) (hQ : ∀ c σ w, ¬ Q (.panic c) σ w := by intro _ _ _ h; exact h) : LJ P n ops Ts F Q (fuel + 1) listed σ w :=
  LJ_leaveP i hi hd hn hs hf hr hiT hQ hw (fun _ => hF) k
/-- OneJ of those that may come up. -/
structure OneJ (P : Program) (n : Nat) (ops : Array Oper) (S : World → Prop) (Q : QT) (i : Nat) (K : Fr → World → Prop) (σ : Fr) (w : World) : Prop where
  run : ∀ a, Rel n a σ → wpOpIn (rof none) 0 P ops (lift n Q) i (fun a' w' => S w' ∧ ∃ σ', Rel n a' σ' ∧ K σ' w') a w
theorem LJ_all (rs : List Nat) (hr : Region.ready .any ops listed = rs) (hne : rs ≠ [])
    (h : ∀ i ∈ rs, OneJ P n ops (fun w' => unl Ts (listed.setIfInBounds i true) = true → F w') Q i (fun σ' w' => LJ P n ops Ts F Q fuel (listed.setIfInBounds i true) σ' w') σ w) : LJ P n ops Ts F Q (fuel + 1) listed σ w := by
  refine ⟨fun a ha => ⟨fun h0 => absurd (hr ▸ h0) hne, fun i hi => ?_⟩⟩
  rw [hr] at hi
  exact wpOpIn_mono (fun a' w' ⟨h1, τ, h2, h3⟩ => ⟨h1, h3.run _ h2⟩) ((h i hi).run a ha)
theorem LJ_done (hr : Region.ready .any ops listed = []) (h : Q .normal σ w) : LJ P n ops Ts F Q fuel listed σ w := by
  refine ⟨fun a ha => ?_⟩
  cases fuel with
  | zero => exact ⟨hr, σ, ha, h⟩
  | succ fuel => exact ⟨fun _ => ⟨σ, ha, h⟩, fun i hi => by rw [hr] at hi; cases hi⟩
/-- yield, called by an iterator, in a region that draws. -/
theorem OneJ_yieldS {w0 : World} {R0 R : Hp} {L0 : List Hp} (La Lb : List Hp) (hst : Step w0 R0 L0 w R (La ++ Lb)) {i : Nat} {o : Oper} {d l : Nat} {args : Array Value} {post : Bool → Hp → List Hp → Prop} {K : Fr → World → Prop} (hi : ops[i]? = some o) (hd : o.dst = some d) (hn : Nat.blt d n = true) (hw : Want ops σ o true)
    (hr : (execOp (ev σ) o).run P w = (Instr.yield l args).run P w) (hc : YieldS P l args w R La post)
    (k : ∀ b w' R' L', post b R' L' → Le R R' → Step w0 R0 L0 w' R' (L' ++ Lb) → S w' ∧ K (upd σ d (.bool b)) w') : OneJ P n ops S Q i K σ w := by
  obtain ⟨fn, tmps, assign, body, hy, hR⟩ := hc
  refine ⟨fun a ha => ?_⟩
  unfold wpOpIn
  simp only [hi, hw.wanted ha, if_true]
  refine ⟨fun _ _ => trivial, ?_⟩
  have hr2 : (o.semAt none (ev σ)).run P w = .ok (.round l fn tmps assign body) w := sem_of (hr.trans hy) (by simp)
  rw [ha.eval, hr2]
  show _ ∧ _
  refine ⟨(fun h => by cases h), ?_⟩
  have hR2 : RoundIn (rof none) 0 P l fn tmps assign body w _ := hR
  refine hR2.mono fun e w'' h => ?_
  obtain ⟨b, R', L', rfl, hs, hp⟩ := h
  obtain ⟨h1, h2⟩ := k b w'' R' L' hp hs.rle (hst.call hs)
  rw [hd]
  exact ⟨h1, _, ha.put (d := d) (by simpa using hn) (.bool b), h2⟩
theorem W_region_drawJ (Ts : List Nat) (F : World → Prop) {id : Nat} (hm : P.follows .mixedOrders = true) (h : LJ P n ops Ts F Q ops.size (Array.replicate ops.size false) σ (draws w (w.drawn + 1))) :
    W none P n (.region id ops true) Q σ w :=
  ⟨fun a ha => wpIn_region_any hm (wpAnyIn_of_J _ _ _ _ (h.run a ha))⟩
end
end Go.Fx
set_option linter.unusedSimpArgs false
set_option linter.unusedVariables false
set_option linter.unusedSectionVars false
namespace Go.Fx
open Go
/-- As Gives; the elements are ok. -/
def GivesO {α : Type} (P : Program) (g : Nat) (lb : Array Value) (N : Nat) (ok : α → Prop) (S Sp : List α → Prop) (enc : α → Array Value) (R : Hp) (Lit : List Hp) (post : Hp → List Hp → Prop) : Prop :=
  ∀ (l : Nat) (J Jx : List α → Hp → List Hp → Prop) (w : World) (Lb : List Hp), Sats w R (Lit ++ Lb) → (∀ pre R1 R2 L1, Le R1 R2 → J pre R1 L1 → J pre R2 L1) → (∀ pre R1 R2 L1, Le R1 R2 → Jx pre R1 L1 → Jx pre R2 L1) →
    (∀ pre x w1 R1 L1, ok x → J pre R1 L1 → Le R R1 → Sats w1 R1 L1 → pre.length < N → YieldS P l (enc x) w1 R1 L1 fun b R' L' => if b = true then J (pre ++ [x]) R' L' else Jx (pre ++ [x]) R' L') →
    J [] R Lb →
    Calls P g (#[.func (.yield l) #[] #[]] ++ lb) w fun e w' => (∃ v, e = .returned v) ∧ ∃ R' Lit' Lb', Step w R (Lit ++ Lb) w' R' (Lit' ++ Lb') ∧ post R' Lit' ∧
      ((∃ xs, S xs ∧ J xs R' Lb') ∨ (∃ pre, Sp pre ∧ Jx pre R' Lb'))
section
variable {P : Program} {n : Nat} {Q : QT} {σ : Fr} {w w0 : World} {R0 R : Hp} {L0 Lc : List Hp}
/-- As W_rangeFuncB, the elements known to be ok. -/
theorem W_rangeFuncO {α : Type} {g : Operand} {ps : Array Nat} {assign body : Code} {gf : Nat} {lb : Array Value} {N : Nat} {ok : α → Prop} {S Sp : List α → Prop} {enc : α → Array Value} {Lit Lb : List Hp} {post : Hp → List Hp → Prop}
    (hg : ev σ g = .func (.func gf) #[] lb) (eg : Ent P gf) (hst : Step w0 R0 L0 w R (Lit ++ Lb)) (hgives : GivesO P gf lb N ok S Sp enc R Lit post)
    (J : List α → Hp → List Hp → Prop) (Jx : Code → List α → Hp → List Hp → Prop) (hJ : ∀ pre R1 R2 L1, Le R1 R2 → J pre R1 L1 → J pre R2 L1) (hJx : ∀ c pre R1 R2 L1, Le R1 R2 → Jx c pre R1 L1 → Jx c pre R2 L1)
    (h0 : J [] R Lb) (hps : (ps.toList.all fun p => Nat.blt p n) = true) (hsz : ∀ x, (enc x).size = ps.size)
    (hround : ∀ l pre x w1 R1 L1, ok x → J pre R1 L1 → Le R R1 → pre.length < N → Sats w1 R1 L1 →
      W (some l) P n assign (thenQ (fun τ w2 => ∃ L2, Step w1 R1 L1 w2 R1 L2 ∧ ∀ w3, Sats w3 R1 L2 → W (some l) P n body (roundQ w3 R1 L2 J Jx (pre ++ [x])) τ w3) (fun _ _ _ => False)) (setp (clr σ) ps.toList (enc x).toList) w1)
    (hdone : ∀ D xs w' R' Lit' Lb', S xs → J xs R' Lb' → post R' Lit' → Le R R' → Step w0 R0 L0 w' R' (one D (.deferred (some [])) :: (Lit' ++ Lb')) → Q .normal (mark D σ) w')
    (hstop : ∀ D c pre w' R' Lit' Lb', Sp pre → Jx c pre R' Lb' → post R' Lit' → Le R R' → Step w0 R0 L0 w' R' (one D (.deferred (some [])) :: (Lit' ++ Lb')) → W none P n c Q (mark D σ) w') :
    W none P n (.rangeFunc g ps assign body) Q σ w := by
  refine ⟨fun a ha => wpIn_rangeFunc fun fn _ => ?_⟩
  obtain ⟨rec, hrec⟩ : ∃ rec : LoopState → Option Code → Loop, rec = fun st pe => { state := st, pending := pe, fn, tmps := a.tmps, params := ps, assign, body, defers := w.heap.size } := ⟨_, rfl⟩
  obtain ⟨W1, hW1⟩ : ∃ W1, (w.alloc (.deferred (some []))).alloc (.loop (rec .ready none)) = W1 := ⟨_, rfl⟩
  have hst1 : Step w0 R0 L0 W1 R (one (w.heap.size + 1) (.loop (rec .ready none)) :: one w.heap.size (.deferred (some [])) :: (Lit ++ Lb)) := by
    have h1 := (hst.push (.deferred (some []))).push (.loop (rec .ready none))
    rw [show (push w (.deferred (some []))).heap.size = w.heap.size + 1 by simp [push]] at h1
    rw [← hW1]
    exact h1
  refine ⟨w.heap.size + 1, [{ target := .collected w.heap.size, args := #[] }], W1, { target := .fn (.func gf) lb, args := #[.func (.yield (w.heap.size + 1)) #[] #[]] }, W1, gf,
    #[.func (.yield (w.heap.size + 1)) #[] #[]] ++ lb, W1, ?_, ?_, fun _ _ => trivial, ?_, (fun h => by cases h), ?_⟩
  · rw [← hW1, hrec]; exact run_enterLoop_outer _ _ _ _ _
  · simp only [resolve, ha.eval, hg]
    simp [go_sem, ev]
  · have := eg (#[.func (.yield (w.heap.size + 1)) #[] #[]] ++ lb) W1
    simp [invoke, go_sem, this]
  · generalize hl : w.heap.size + 1 = l at *
    generalize hD : w.heap.size = D at *
    have hperm : Step w0 R0 L0 W1 R (Lit ++ (one l (.loop (rec .ready none)) :: one D (.deferred (some [])) :: Lb)) := hst1.perm (by
      have := List.perm_append_comm (l₁ := [one l (.loop (rec .ready none)), one D (.deferred (some []))]) (l₂ := Lit)
      simpa using this.append_right Lb)
    refine calls_rof.2 ((hgives l (fun pre R1 L1 => ∃ Lq, L1 = one l (.loop (rec .ready none)) :: one D (.deferred (some [])) :: Lq ∧ J pre R1 Lq)
      (fun pre R1 L1 => ∃ c Lq, L1 = one l (.loop (rec .done (some c))) :: one D (.deferred (some [])) :: Lq ∧ Jx c pre R1 Lq) W1 (one l (.loop (rec .ready none)) :: one D (.deferred (some [])) :: Lb) hperm.sats
      (fun pre R1 R2 L1 hle ⟨Lq, e, h⟩ => ⟨Lq, e, hJ _ _ _ _ hle h⟩) (fun pre R1 R2 L1 hle ⟨c, Lq, e, h⟩ => ⟨c, Lq, e, hJx _ _ _ _ _ hle h⟩) ?_ ⟨Lb, rfl, h0⟩).mono ?_)
    · rintro pre x w1 R1 L1 hok ⟨Lq, rfl, hJ1⟩ hle hs hlen
      have hs1 := Step.refl hs
      have hb1 := hs1.blk (i := 0) rfl
      have hpar : (rec .ready none).params = ps := by rw [hrec]
      have htm : (rec .ready none).tmps = a.tmps := by rw [hrec]
      refine ⟨_, _, _, _, run_yield hb1 (by rw [hpar]; exact hsz x), roundIn_of_wpIn (F := rof none) trivial ?_⟩
      rw [show (rec .ready none).assign = assign by rw [hrec], show (rec .ready none).body = body by rw [hrec], htm, hpar]
      have hrel := rel_setp (n := n) ps.toList (enc x).toList _ _ hps ha.clr
      have hzip : (ps.zip (enc x)).foldl (fun tmps (t, v) => tmps.setIfInBounds t v) a.tmps = (ps.toList.zip (enc x).toList).foldl (fun t (p, v) => t.setIfInBounds p v) a.tmps := by
        rw [← Array.foldl_toList, Array.toList_zip]
      rw [hzip]
      refine wpIn_mono ((hround l pre x w1 R1 Lq hok hJ1 hle hlen hs.tail2).run _ hrel) ?_
      rintro e a1 w2 ⟨τ, hτ, q⟩
      cases e with
      | normal =>
        obtain ⟨L2, k2, hbody⟩ := q
        have hs1' := (hs1.toEnd.call k2).fromEnd
        refine ⟨_, run_beginRound (hs1'.blk (i := 0) rfl) (by rw [hrec]), ?_⟩
        have hs2 := (hs1'.set0 (.loop { rec .ready none with state := .busy }))
        refine wpIn_mono ((hbody _ hs2.sats.tail2).run _ hτ) ?_
        rintro e a2 w3 ⟨τ2, _, q2⟩
        have fin : ∀ {R' : Hp} {L' : List Hp} (jump : Option Code), Step (setB w2 l (.loop { rec .ready none with state := .busy })) R1 L2 w3 R' L' →
            ∃ w4, (Instr.endRound l jump).run P w3 = .ok (.bool jump.isNone) w4 ∧ Step w1 R1 (one l (.loop (rec .ready none)) :: one D (.deferred (some [])) :: Lq) w4 R' (one l (.loop (rec (if jump.isNone then .ready else .done) jump)) :: one D (.deferred (some [])) :: L') := by
          intro R' L' jump k
          have hs3 := (hs2.toEnd.call k).fromEnd
          refine ⟨_, run_endRound jump (hs3.blk (i := 0) rfl), ?_⟩
          have := hs3.set0 (.loop { { rec .ready none with state := .busy } with state := if jump.isNone then .ready else .done, pending := jump })
          rw [hrec] at this ⊢
          exact this
        cases e with
        | normal =>
          obtain ⟨R', L', k, hj⟩ := q2
          obtain ⟨w4, hr, hs4⟩ := fin none k
          exact ⟨_, w4, hr, true, R', _, rfl, hs4, ⟨L', rfl, hj⟩⟩
        | ret =>
          obtain ⟨R', L', k, hj⟩ := q2
          obtain ⟨w4, hr, hs4⟩ := fin (some .ret) k
          exact ⟨_, w4, hr, false, R', _, rfl, hs4, ⟨.ret, L', rfl, hj⟩⟩
        | exit id =>
          obtain ⟨R', L', k, hj⟩ := q2
          obtain ⟨w4, hr, hs4⟩ := fin (some (.exit id)) k
          exact ⟨_, w4, hr, false, R', _, rfl, hs4, ⟨.exit id, L', rfl, hj⟩⟩
        | _ => exact q2.elim
      | _ => exact q.elim
    · rintro e w2 ⟨⟨v, rfl⟩, R', Lit', Lb', hstep, hpost, hor⟩
      have hle : Le R R' := hstep.rle
      have hfull : Step w0 R0 L0 w2 R' (Lit' ++ Lb') := by
        have := Step.call (Lb := []) (by simpa using hperm) hstep
        simpa using this
      have fin : ∀ {r : Loop} {Lq : List Hp}, Lb' = one l (.loop r) :: one D (.deferred (some [])) :: Lq → r.state ≠ .busy → ∃ w3, (Instr.endLoop l).run P w2 = .ok r.pending w3 ∧ Step w0 R0 L0 w3 R' (one D (.deferred (some [])) :: (Lit' ++ Lq)) := by
        intro r Lq e hb
        subst e
        have h1 : Step w0 R0 L0 w2 R' (one l (.loop r) :: one D (.deferred (some [])) :: (Lit' ++ Lq)) := hfull.perm (by
          have := List.perm_append_comm (l₁ := Lit') (l₂ := [one l (.loop r), one D (.deferred (some []))])
          simpa using this.append_right Lq)
        exact ⟨_, run_endLoop (h1.blk (i := 0) rfl) hb, (h1.set0 (.loop { r with state := .exhausted })).drop⟩
      rcases hor with ⟨xs, hS, Lq, e, hj⟩ | ⟨pre, hSp, c, Lq, e, hj⟩
      · obtain ⟨w3, hr, hs3⟩ := fin e (by rw [hrec]; simp)
        refine ⟨none, w3, by rw [hr, hrec], ?_⟩
        exact ⟨_, ha.mark D, hdone D xs w3 R' Lit' Lq hS hj hpost hle hs3⟩
      · obtain ⟨w3, hr, hs3⟩ := fin e (by rw [hrec]; simp)
        refine ⟨some c, w3, by rw [hr, hrec], ?_⟩
        exact (hstop D c pre w3 R' Lit' Lq hSp hj hpost hle hs3).run _ (ha.mark D)
/-- The blocks of ranges that are over. -/
inductive Defs : List Nat → Hp → Prop
  | nil : Defs [] non
  | cons {D Ds c} : Defs Ds c → Dj (one D (.deferred (some []))) c → Defs (D :: Ds) (uni (one D (.deferred (some []))) c)
theorem Defs.add {D : Nat} {Ds : List Nat} {c : Hp} {Lr : List Hp} (h : Step w0 R0 L0 w R (one D (.deferred (some [])) :: c :: Lr)) (hd : Defs Ds c) : ∃ c', Step w0 R0 L0 w R (c' :: Lr) ∧ Defs (D :: Ds) c' :=
  ⟨_, h.join, .cons hd h.dj2⟩
theorem mks_mark {D : Nat} {σ : Fr} {l : List Nat} (h : mks (σ 0) = l) : mks (mark D σ 0) = D :: l := by
  show mks (pushM D (σ 0)) = _
  rw [mks_push, h]
theorem leaves_defs {fn : Func} {tmps : Array Value} {v : Value} : ∀ (Ds : List Nat) (w : World) (c : Hp) (Lr : List Hp), Step w0 R0 L0 w R (c :: Lr) → Defs Ds c →
    ∃ w', Step w0 R0 L0 w' R Lr ∧ ((∀ w2, (results fn tmps).run P w2 = .ok v w2) → ∀ Q : Ending → World → Prop, Q (.returned v) w' → LeavesInM (rof none) 0 P fn tmps Q (Ds.map mkD) .returning w)
  | [], w, c, Lr, h, hd => ⟨w, h.drop, fun hv Q hQ => ⟨v, hv w, hQ⟩⟩
  | D :: Ds, w, c, Lr, h, hd => by
    cases hd with
    | @cons _ _ c' hd' hj =>
      have h1 := h.split hj
      have hb := h1.blk (i := 0) rfl
      have h2 : Step w0 R0 L0 (w.putObj D (.deferred none)) R (c' :: Lr) := (h1.set0 (.deferred none)).drop
      obtain ⟨w', h3, h4⟩ := leaves_defs Ds _ c' Lr h2 hd'
      exact ⟨w', h3, fun hv Q hQ => ⟨by simp, .inl ⟨D, _, rfl, run_takeDeferred hb, h4 hv Q hQ⟩⟩⟩
/-- Marks of several ranges: their blocks are shut; then the results, that stand in the frame, are read. -/
theorem res_runN {fn : Func} {rs : List ResultVar} {vs : List Value} {Ds : List Nat} {c : Hp} {Lr : List Hp} (hr : fn.results = rs.toArray) (h : ∀ w2, Res P σ w2 rs vs) (hst : Step w0 R0 L0 w R (c :: Lr)) (hd : Defs Ds c) (h0 : mks (σ 0) = Ds) :
    ∃ w', Step w0 R0 L0 w' R Lr ∧ ∀ a, Rel n a σ → Leaves P fn a w (retV vs) w' := by
  have key := leaves_defs (P := P) (fn := fn) (v := retV vs) (tmps := #[]) Ds w c Lr hst hd
  clear key
  have gen : ∀ (Ds : List Nat) (w : World) (c : Hp) (Lr : List Hp), Step w0 R0 L0 w R (c :: Lr) → Defs Ds c →
      ∃ w', Step w0 R0 L0 w' R Lr ∧ ∀ tmps, (∀ w2, (results fn tmps).run P w2 = .ok (retV vs) w2) → ∀ Q : Ending → World → Prop, Q (.returned (retV vs)) w' → LeavesInM (rof none) 0 P fn tmps Q (Ds.map mkD) .returning w := by
    intro Ds
    induction Ds with
    | nil => intro w c Lr h hd; exact ⟨w, h.drop, fun tmps hv Q hQ => ⟨_, hv w, hQ⟩⟩
    | cons D Ds ih =>
      intro w c Lr h hd
      cases hd with
      | @cons _ _ c' hd' hj =>
        have h1 := h.split hj
        have hb := h1.blk (i := 0) rfl
        have h2 : Step w0 R0 L0 (w.putObj D (.deferred none)) R (c' :: Lr) := (h1.set0 (.deferred none)).drop
        obtain ⟨w', h3, h4⟩ := ih _ c' Lr h2 hd'
        exact ⟨w', h3, fun tmps hv Q hQ => ⟨by simp, .inl ⟨D, _, rfl, run_takeDeferred hb, h4 tmps hv Q hQ⟩⟩⟩
  obtain ⟨w', h1, h2⟩ := gen Ds w c Lr hst hd
  refine ⟨w', h1, fun a ha Q hQ => ?_⟩
  rw [ha.defers, h0]
  exact h2 a.tmps (fun w2 => res_run0 hr (h w2) a ha) Q hQ
end
end Go.Fx
set_option linter.unusedSimpArgs false
set_option linter.unusedVariables false
set_option linter.unusedSectionVars false
namespace Go.Fx.YtjpdhfhiimbpgaaGreatDoor
open Go Go.Fx Go.Proofs
set_option maxRecDepth 20000
abbrev Lk := Str × Int
def insL (e : Lk) : List Lk → List Lk
  | [] => [e]
  | f :: l => if ltS e.1 f.1 = true then e :: f :: l else f :: insL e l
def lks (m : List (Stp × Int)) (k : Int) : List Lk := ((m.filter fun e => decide (e.1.1 = k)).map fun e => (e.1.2, e.2)).foldr insL []
def leL (a b : Lk) : Prop := ltS b.1 a.1 = false
theorem ltS_irr (a : Str) : ltS a a = false := by unfold ltS; simp [List.lt_irrefl]
theorem ltS_asymm {a b : Str} (h : ltS a b = true) : ltS b a = false := by
  unfold ltS at *
  simp only [decide_eq_true_eq, decide_eq_false_iff_not] at *
  exact List.lt_asymm h
theorem leL_trans {a b c : Lk} (h : leL a b) (g : leL b c) : leL a c := by
  unfold leL ltS at *
  simp only [decide_eq_false_iff_not, List.not_lt] at *
  exact List.le_trans h g
theorem ltS_anti {a b : Str} (h : ltS a b = false) (g : ltS b a = false) : a = b := by
  unfold ltS at *
  simp only [decide_eq_false_iff_not, List.not_lt] at *
  exact bts_inj (List.le_antisymm g h)
theorem insL_perm (e : Lk) (l : List Lk) : (insL e l).Perm (e :: l) := by
  induction l with
  | nil => exact List.Perm.refl _
  | cons f l ih =>
    unfold insL
    split
    · exact List.Perm.refl _
    · exact (ih.cons f).trans (List.Perm.swap e f l)
theorem insL_sorted {e : Lk} {l : List Lk} (h : l.Pairwise leL) : (insL e l).Pairwise leL := by
  induction l with
  | nil => exact List.pairwise_singleton _ _
  | cons f l ih =>
    unfold insL
    have hp := List.pairwise_cons.1 h
    split
    · rename_i hlt
      have hef : leL e f := ltS_asymm hlt
      refine List.pairwise_cons.2 ⟨fun x hx => ?_, h⟩
      rcases List.mem_cons.1 hx with rfl | hx
      · exact hef
      · exact leL_trans hef (hp.1 x hx)
    · rename_i hlt
      have hfe : leL f e := by unfold leL; simpa using hlt
      refine List.pairwise_cons.2 ⟨fun x hx => ?_, ih hp.2⟩
      have := (insL_perm e l).mem_iff.1 hx
      rcases List.mem_cons.1 this with rfl | hx2
      · exact hfe
      · exact hp.1 x hx2
theorem foldr_ins (l : List Lk) : (l.foldr insL []).Perm l ∧ (l.foldr insL []).Pairwise leL := by
  induction l with
  | nil => exact ⟨List.Perm.refl _, .nil⟩
  | cons e l ih => exact ⟨(insL_perm e _).trans (ih.1.cons e), insL_sorted ih.2⟩
def lkB (m : List (Stp × Int)) (k : Int) : List Lk := (m.filter fun e => decide (e.1.1 = k)).map fun e => (e.1.2, e.2)
theorem lks_perm (m : List (Stp × Int)) (k : Int) : (lks m k).Perm (lkB m k) := (foldr_ins _).1
theorem lks_sorted (m : List (Stp × Int)) (k : Int) : (lks m k).Pairwise leL := (foldr_ins _).2
theorem lkB_nodup {m : List (Stp × Int)} (h : AL.Ok m) (k : Int) : ((lkB m k).map (·.1)).Nodup := by
  unfold lkB
  rw [List.map_map]
  have h1 : (m.map (·.1)).Nodup := h
  rw [List.Nodup, List.pairwise_map] at h1 ⊢
  refine (h1.sublist List.filter_sublist).imp_of_mem fun {a b} ha hb hne e => hne ?_
  have ea := (List.mem_filter.1 ha).2
  have eb := (List.mem_filter.1 hb).2
  rw [decide_eq_true_eq] at ea eb
  exact Prod.ext (ea.trans eb.symm) e
theorem nodup_fst {l : List Lk} (h : (l.map (·.1)).Nodup) {a b : Lk} (ha : a ∈ l) (hb : b ∈ l) (e : a.1 = b.1) : a = b := by
  induction l with
  | nil => cases ha
  | cons x l ih =>
    rw [List.map_cons, List.nodup_cons] at h
    rcases List.mem_cons.1 ha with ea | ha2
    · rcases List.mem_cons.1 hb with eb | hb2
      · rw [ea, eb]
      · refine absurd ?_ h.1; rw [← ea, e]; exact List.mem_map_of_mem hb2
    · rcases List.mem_cons.1 hb with eb | hb2
      · refine absurd ?_ h.1; rw [← eb, ← e]; exact List.mem_map_of_mem ha2
      · exact ih h.2 ha2 hb2
/-- Whatever list has these links in order is the one. -/
theorem lks_uniq {m : List (Stp × Int)} (h : AL.Ok m) {k : Int} {l : List Lk} (hp : l.Perm (lkB m k)) (hs : l.Pairwise leL) : l = lks m k := by
  have hp2 := hp.trans (lks_perm m k).symm
  refine List.Perm.eq_of_pairwise (le := leL) (fun a b ha hb h1 h2 => ?_) hs (lks_sorted m k) hp2
  exact nodup_fst (lkB_nodup h k) (hp.mem_iff.1 ha) ((lks_perm m k).mem_iff.1 hb) (ltS_anti h2 h1)
/-- What a key leads to. -/
def lkG (m : List (Stp × Int)) (y : Stp) : Lk := (y.2, (AL.get m y).getD 0)
theorem get_mem {κ β : Type} [DecidableEq κ] {m : List (κ × β)} (h : AL.Ok m) {e : κ × β} (he : e ∈ m) : AL.get m e.1 = some e.2 := by
  induction m with
  | nil => cases he
  | cons p m ih =>
    have hok : (AL.keys (p :: m)).Nodup := h
    simp only [AL.keys, List.map_cons, List.nodup_cons] at hok
    obtain ⟨a, b⟩ := p
    simp only [AL.get]
    rcases List.mem_cons.1 he with rfl | he
    · rw [if_pos rfl]
    · rw [if_neg (fun q => hok.1 (List.mem_map.2 ⟨e, he, q.symm⟩))]
      exact ih hok.2 he
theorem steps_eq {m : List (Stp × Int)} (h : AL.Ok m) {k : Int} {ys : List Stp} (hp : ys.Perm (AL.keys m)) (hs : ys.Pairwise (fun a b => ltS b.2 a.2 = false)) : (ys.filter fun y => decide (y.1 = k)).map (lkG m) = lks m k := by
  refine lks_uniq h ?_ ?_
  · have h1 := (hp.filter (fun y => decide (y.1 = k))).map (lkG m)
    refine h1.trans ?_
    have e : ((AL.keys m).filter fun y => decide (y.1 = k)).map (lkG m) = lkB m k := by
      unfold AL.keys lkB
      rw [List.filter_map, List.map_map]
      refine List.map_congr_left fun e he => ?_
      have hm := (List.mem_filter.1 he).1
      simp only [Function.comp, lkG]
      rw [get_mem h hm]
      rfl
    rw [e]
  · refine List.pairwise_map.2 ((hs.sublist List.filter_sublist).imp fun hab => ?_)
    exact hab
theorem lkG_mem {m : List (Stp × Int)} (h : AL.Ok m) {y : Stp} {k : Int} (hy : y ∈ AL.keys m) (e : y.1 = k) : lkG m y ∈ lks m k := by
  obtain ⟨x, hx, rfl⟩ := List.mem_map.1 hy
  refine (lks_perm m k).mem_iff.2 (List.mem_map.2 ⟨x, List.mem_filter.2 ⟨hx, by simpa using e⟩, ?_⟩)
  unfold lkG
  rw [get_mem h hx]
  rfl
theorem lks_of {m : List (Stp × Int)} {k : Int} {e : Lk} (h : e ∈ lks m k) : ((k, e.1), e.2) ∈ m := by
  obtain ⟨x, hx, rfl⟩ := List.mem_map.1 ((lks_perm m k).mem_iff.1 h)
  obtain ⟨h1, h2⟩ := List.mem_filter.1 hx
  rw [decide_eq_true_eq] at h2
  obtain ⟨⟨a, b⟩, c⟩ := x
  simp only at h2
  subst h2
  exact h1
/-- Those of the first keys. -/
def pre (m : List (Stp × Int)) (k : Int) (ys : List Stp) (j : Nat) : List Lk := ((ys.take j).filter fun y => decide (y.1 = k)).map (lkG m)
theorem pre_zero {m : List (Stp × Int)} {k : Int} {ys : List Stp} : pre m k ys 0 = [] := by simp [pre]
theorem pre_yes {m : List (Stp × Int)} {k : Int} {ys : List Stp} {j : Nat} (hj : j < ys.length) {y : Stp} (e : y = ys[j]) (h : y.1 = k) : pre m k ys (j + 1) = pre m k ys j ++ [lkG m y] := by
  unfold pre
  rw [List.take_succ_eq_append_getElem hj, List.filter_append, List.map_append, ← e]
  congr 1
  simp [h]
theorem pre_no {m : List (Stp × Int)} {k : Int} {ys : List Stp} {j : Nat} (hj : j < ys.length) {y : Stp} (e : y = ys[j]) (h : ¬ y.1 = k) : pre m k ys (j + 1) = pre m k ys j := by
  unfold pre
  rw [List.take_succ_eq_append_getElem hj, List.filter_append, ← e]
  simp [h]
theorem pre_len {m : List (Stp × Int)} {k : Int} {ys : List Stp} {j : Nat} (hj : j < ys.length) : (pre m k ys j).length < ys.length := by
  unfold pre
  rw [List.length_map]
  refine Nat.lt_of_le_of_lt (List.length_filter_le _ _) ?_
  rw [List.length_take]
  omega
theorem pre_all {m : List (Stp × Int)} (h : AL.Ok m) {k : Int} {ys : List Stp} (hp : ys.Perm (AL.keys m)) (hs : ys.Pairwise (fun a b => ltS b.2 a.2 = false)) {j : Nat} (hj : ys.length ≤ j) : pre m k ys j = lks m k := by
  unfold pre
  rw [List.take_of_length_le hj]
  exact steps_eq h hp hs
theorem tyStp_open {R : Hp} {x : Stp} {c : List Value} (h : tyStp.rel R x c) : c = [.int .i64 x.1, .string x.2] := by
  obtain ⟨c1, c2, rfl, e1, e2⟩ := h
  have h1 : c1 = [_] := e1
  have h2 : c2 = [_] := e2
  subst h1; subst h2
  rfl
def dec (n : Int) : Str := ⟨(Lib.decDigits n.toNat).toArray⟩
def sSp : Str := ⟨#[32]⟩
def sNl : Str := ⟨#[10]⟩
def sCo : Str := ⟨#[58]⟩
def sEq : Str := ⟨#[61]⟩
def sGt : Str := ⟨#[62]⟩
def sRo : Str := ⟨#[114, 111, 111, 116, 115]⟩
def stepW (x : Lk) : Str := x.1 ++ sCo ++ dec x.2
def wordsN (m : List (Stp × Int)) (k : Nat) (x : Nd) : List Str := ([dec (k : Int), dec x.cls] ++ x.names) ++ (if x.ali ≥ 0 then [sEq, dec x.ali] else [sGt] ++ (lks m (k : Int)).map stepW)
def joinS (l : List Str) : Str := ⟨(Lib.join (l.map bts) [32]).toArray⟩
def lineN (m : List (Stp × Int)) (k : Nat) (x : Nd) : Str := joinS (wordsN m k x) ++ sNl
def rootsT (rs : List Int) (k : Nat) : List UInt8 := bts sRo ++ (rs.take k).flatMap fun r => bts (sSp ++ dec r)
def linesT (s : TS) (k : Nat) : List UInt8 := (rootsT s.roots s.roots.length ++ bts sNl) ++ (List.range k).flatMap fun j => bts (lineN s.next j (ndL s.nodes j))
def textT (s : TS) : List UInt8 := linesT s s.nodes.length
theorem rootsT_succ {rs : List Int} {k : Nat} (hk : k < rs.length) : rootsT rs (k + 1) = rootsT rs k ++ bts (sSp ++ dec rs[k]) := by
  unfold rootsT
  rw [List.take_succ_eq_append_getElem hk, List.flatMap_append, List.append_assoc]
  simp
theorem rootsT_zero {rs : List Int} : rootsT rs 0 = bts sRo := by simp [rootsT]
theorem rootsT_all {rs : List Int} {k : Nat} (hk : rs.length ≤ k) : rootsT rs k = rootsT rs rs.length := by unfold rootsT; rw [List.take_of_length_le hk, List.take_length]
theorem linesT_succ {s : TS} {k : Nat} {x : Nd} (hk : k < s.nodes.length) (e : x = s.nodes[k]) : linesT s (k + 1) = linesT s k ++ bts (lineN s.next k x) := by
  unfold linesT
  rw [List.range_succ, List.flatMap_append, List.append_assoc (rootsT _ _ ++ _)]
  simp [ndL_eq hk, e]
theorem linesT_zero {s : TS} : linesT s 0 = rootsT s.roots s.roots.length ++ bts sNl := by simp [linesT]
structure Nice (s : TS) : Prop where
  nodes : s.nodes.length ≤ 99
  roots : s.roots.length ≤ 99
  cls : ∀ x ∈ s.nodes, 0 ≤ x.cls ∧ x.cls < 100
  names : ∀ x ∈ s.nodes, x.names.length ≤ 70
  sizes : ∀ x ∈ s.nodes, ∀ t ∈ x.names, t.size ≤ 16
  next : s.next.length ≤ 1000
  keys : ∀ e ∈ s.next, e.1.2.size ≤ 16
theorem dec_size {n : Int} (h0 : 0 ≤ n) (h : n < 100) : (dec n).size ≤ 2 := by
  have key : ∀ k : Nat, k < 100 → (Lib.decDigits k).length ≤ 2 := by decide +kernel
  have := key n.toNat (by omega)
  unfold dec
  simpa [ByteArray.size] using this
theorem size_append (a b : ByteArray) : (a ++ b).size = a.size + b.size := ByteArray.size_append
theorem bts_len (a : Str) : (bts a).length = a.size := by unfold bts; rw [Array.length_toList]; rfl
theorem bts_append (a b : Str) : bts (a ++ b) = bts a ++ bts b := by unfold bts; rw [ByteArray.data_append, Array.toList_append]
theorem tail_le (l : List (List UInt8)) {b : Nat} (h : ∀ x ∈ l, x.length ≤ b) : (Lib.joinTail [32] l).length ≤ (b + 1) * l.length := by
  induction l with
  | nil => simp [Lib.joinTail]
  | cons x l ih =>
    have hx := h x (by simp)
    have ih := ih (fun y hy => h y (by simp [hy]))
    unfold Lib.joinTail at ih ⊢
    rw [List.map_cons, List.flatten_cons, List.length_append, List.length_append, List.length_singleton, List.length_cons, Nat.mul_add, Nat.mul_one]
    omega
theorem join_le (l : List (List UInt8)) {b : Nat} (h : ∀ x ∈ l, x.length ≤ b) : (Lib.join l [32]).length ≤ (b + 1) * l.length := by
  cases l with
  | nil => simp [Lib.join_nil]
  | cons x l =>
    have hx := h x (by simp)
    have := tail_le l (fun y hy => h y (by simp [hy]))
    rw [Lib.join_cons, List.length_append, List.length_cons, Nat.mul_add, Nat.mul_one]
    omega
end Go.Fx.YtjpdhfhiimbpgaaGreatDoor
set_option linter.unusedSimpArgs false
set_option linter.unusedVariables false
namespace Go.Fx.YtjpdhfhiimbpgaaGreatDoor
open Go Go.Fx Go.Proofs
set_option maxRecDepth 20000
theorem ent_25 : Ent Tryz.prog 25 := fun _ _ => by kernel_rfl
theorem ent_26 : Ent Tryz.prog 26 := fun _ _ => by kernel_rfl
theorem ent_57 : Ent Tryz.prog 57 := fun _ _ => by kernel_rfl
theorem ent_58 : Ent Tryz.prog 58 := fun _ _ => by kernel_rfl
theorem ent_59 : Ent Tryz.prog 59 := fun _ _ => by kernel_rfl
theorem ent_71 : Ent Tryz.prog 71 := fun _ _ => by kernel_rfl
theorem ent_72 : Ent Tryz.prog 72 := fun _ _ => by kernel_rfl
theorem SortedS_spec {w : World} {R : Hp} {q : Nat} {v : Value} {names : List Str} (hs : Sats w R []) (h0 : Le (one q (.cells #[v] 42 (0, 0))) R) (hv : RdS Ty.str R v names) (hl : names.length ≤ 1000000) :
    Calls Tryz.prog 57 #[.func (.func 73) #[] #[ptr q 0]] w (Comes' w R [] fun v' R' L' => ∃ c ys, L' = [c] ∧ ys.map bts = (names.map bts).mergeSort (fun x y => decide (x ≤ y)) ∧ OwnL Ty.str 9 R' v' ys c) := by
 have hst := Step.refl hs
 refine calls_of_W (n := 9) Tryz.func57 rfl Tryz.ntmps57 (Nat.le_of_ble_eq_true rfl) ?_
 refine W_seq ?_
 refine W_region_lit ?_
 refine Lq (.slice none 0 0) rfl rfl rfl rfl ?_
 refine L_nil ?_
 refine W_seq ?_
 refine W_region_lit ?_
 refine Lq (.func (.func 73) #[] #[(ptr q 0)]) rfl rfl rfl rfl ?_
 have hst1 := hst
 refine L_callS [] [] hst1 rfl rfl rfl (x_call (vs := #[(.func (.func 73) #[] #[(ptr q 0)])]) rfl rfl (by kernel_rfl) ent_71) (CollectS_spec (N := names.length) (hst1.sats.take 0 rfl) entS73' (by omega) (fun R1 h1 => Values1_gives (Le.trans h0 h1) (RdS.mono hv h1) hl)) (fun v2 w3 R4 L5 hp6 hle7 hst8 => ?_)
 obtain ⟨c9, ys10, rfl, rfl, ho12⟩ := hp6
 refine Lq v2 rfl rfl rfl rfl ?_
 refine L_nil ?_
 refine W_seq ?_
 refine W_region_lit ?_
 refine Lq v2 rfl rfl rfl rfl ?_
 have hst13 := hst8
 refine L_callS [c9] [] hst13 rfl rfl rfl (x_call (vs := #[v2]) rfl rfl (by kernel_rfl) ent_72) (SortS_spec (hst13.sats.take 1 rfl) ho12 (by omega)) (fun v14 w15 R16 L17 hp18 hle19 hst20 => ?_)
 obtain ⟨rfl, c21, ys22, rfl, hS23, ho24⟩ := hp18
 refine L_nil ?_
 refine W_seq ?_
 refine W_region_lit ?_
 refine Lq v2 rfl rfl rfl rfl ?_
 refine Lq v2 rfl rfl rfl rfl ?_
 refine L_nil ?_
 refine W_ret ?_
 refine ⟨_, _, res_run (rs := [.tmp 2]) (vs := [v2]) Tryz.results57 (.cons (.tmp rfl) .nil) rfl, ?_⟩
 exact ⟨_, _, _, rfl, (hst20).keepN 1 rfl, _, _, rfl, hS23, ho24⟩
set_option maxHeartbeats 1000000 in
theorem Make_spec {w : World} {R c : Hp} {p : Nat} {s : TS} {v : Value} (cls : Int) (names : List Str) (hs : Sats w R [c]) (htree : Tree R p s c) (hv : RdS Ty.str R v names) (hl : names.length ≤ 2000000) (hmx : s.nodes.length ≤ 900000) :
    Calls Tryz.prog 29 #[ptr p 0, int cls, v] w (Comes' w R [c] fun v' R' L' => ∃ c', v' = .tuple #[int (s.make cls names).1, int (s.make cls names).2.1] ∧ L' = [c'] ∧ Tree R' p ((s.make cls names).2.2) c') := by
 obtain ⟨vN, vR, bm, cN, cR, cM, hce, hd1, hd2, hd3, hN, hRs, hM, hwf, hS, hrl, hbm⟩ := htree
 have hst1 : Step w R [c] w R [uni (treeB p vN vR bm) (tri cN cR cM)] := by have h0 := Step.refl hs; rw [hce] at h0 ⊢; exact h0
 have hst := Tree.opened hst1 hd1 hd2 hd3
 clear hst1 hce hd1 hd2 hd3
 have hlen := hS.len
 have hrv := hwf.root
 refine calls_of_W (n := 78) Tryz.func29 rfl Tryz.ntmps29 (Nat.le_of_ble_eq_true rfl) ?_
 refine W_seq ?_
 refine W_region_lit ?_
 refine Lq (int 0) rfl rfl rfl rfl ?_
 refine Lq (int 0) rfl rfl rfl rfl ?_
 refine L_nil ?_
 refine W_seq ?_
 refine W_seq ?_
 refine W_region_lit ?_
 refine Lq (ptr p 0) rfl rfl rfl rfl ?_
 refine Lq (.bool false) rfl rfl rfl (by kernel_rfl) ?_
 refine Lq (.bool false) rfl rfl rfl rfl ?_
 refine L_guard rfl rfl rfl rfl rfl ?_
 refine Lq (int cls) rfl rfl rfl rfl ?_
 refine L_guard rfl rfl rfl rfl rfl ?_
 refine Lq (.bool (decide (cls < 0))) rfl rfl rfl (by kernel_rfl) ?_
 refine Lq (.bool (decide (cls < 0))) rfl rfl rfl rfl ?_
 refine Lq (.bool (decide (cls < 0))) rfl rfl rfl rfl ?_
 rcases Bool.eq_false_or_eq_true (decide (cls < 0)) with c1 | c1
 ·
  have q2 := of_decide_eq_true c1
  refine L_unwanted rfl rfl rfl rfl (by rw [c1]; try rfl) rfl rfl ?_
  refine L_unwanted rfl rfl rfl rfl (by rw [c1]; try rfl) rfl rfl ?_
  refine L_unwanted rfl rfl rfl rfl (by rw [c1]; try rfl) rfl rfl ?_
  refine L_unwanted rfl rfl rfl rfl (by rw [c1]; try rfl) rfl rfl ?_
  refine L_unwanted rfl rfl rfl rfl (by rw [c1]; try rfl) rfl rfl ?_
  refine L_unwanted rfl rfl rfl rfl (by rw [c1]; try rfl) rfl rfl ?_
  refine L_unwanted rfl rfl rfl rfl (by rw [c1]; try rfl) rfl rfl ?_
  refine Lq (.bool true) rfl rfl rfl (x_pick rfl rfl (by rw [c1]; rfl)) ?_
  refine Lq (.bool true) rfl rfl rfl rfl ?_
  refine L_unwanted rfl rfl rfl rfl rfl rfl rfl ?_
  refine L_unwanted rfl rfl rfl rfl rfl rfl rfl ?_
  refine L_unwanted rfl rfl rfl rfl rfl rfl rfl ?_
  refine Lq (.bool true) rfl rfl rfl rfl ?_
  refine L_nil ?_
  refine W_cond_true (by show Value.bool _ = _; exact congrArg Value.bool rfl) ?_
  refine W_seq ?_
  refine W_region_lit ?_
  refine Lq (int 0) rfl rfl rfl rfl ?_
  refine Lq (int 1) rfl rfl rfl rfl ?_
  refine L_nil ?_
  refine W_ret ?_
  refine ⟨_, _, res_run (rs := [.tmp 6, .tmp 7]) (vs := [(int 0), (int 1)]) Tryz.results29 (.cons (.tmp rfl) (.cons (.tmp rfl) .nil)) rfl, ?_⟩
  have he := make_arg (s := s) (cls := cls) (names := names) (by first | exact .inl (by omega) | exact .inr (.inl (by omega)) | exact .inr (.inr (.inl (by omega))))
  rw [he]
  obtain ⟨c', hst', htree'⟩ := Tree.close (s := s) ((((hst.front 3 rfl rfl).front 3 rfl rfl).front 3 rfl rfl).front 3 rfl rfl) hN hRs hM hwf hS hrl hbm
  exact ⟨_, _, _, rfl, hst'.keepN 1 rfl, c', rfl, rfl, htree'⟩
 ·
  have q3 := of_decide_eq_false c1
  refine L_guard rfl rfl rfl rfl c1 ?_
  refine Lq (int cls) rfl rfl rfl rfl ?_
  refine L_guard rfl rfl rfl rfl c1 ?_
  refine Lq (ptr p 0) rfl rfl rfl rfl ?_
  refine L_guard rfl rfl rfl rfl c1 ?_
  refine Lq (ptr p 0) rfl rfl rfl rfl ?_
  refine L_guard rfl rfl rfl rfl c1 ?_
  refine Lq (ptr p 1) rfl rfl rfl (by kernel_rfl) ?_
  refine L_guard rfl rfl rfl rfl c1 ?_
  refine Lq vR rfl rfl rfl (x_load rfl rfl (run_loadVar_one ti_62 (hst.b 0) rfl)) ?_
  refine L_guard rfl rfl rfl rfl c1 ?_
  obtain ⟨a4, cap5, e6, hc7⟩ := hRs.value
  subst e6
  refine Lq (int (s.roots.length : Int)) rfl rfl rfl (x_len_slice rfl sl_62 rfl) ?_
  refine L_guard rfl rfl rfl rfl c1 ?_
  refine Lq (.bool (decide (cls ≥ (s.roots.length : Int)))) rfl rfl rfl (by kernel_rfl) ?_
  refine Lq (.bool (decide (cls ≥ (s.roots.length : Int)))) rfl rfl rfl (x_pick rfl rfl (by rw [c1]; rfl)) ?_
  refine Lq (.bool (decide (cls ≥ (s.roots.length : Int)))) rfl rfl rfl rfl ?_
  rcases Bool.eq_false_or_eq_true (decide (cls ≥ (s.roots.length : Int))) with c8 | c8
  ·
   have q9 := of_decide_eq_true c8
   refine L_unwanted rfl rfl rfl rfl (by rw [c8]; try rfl) rfl rfl ?_
   refine L_unwanted rfl rfl rfl rfl (by rw [c8]; try rfl) rfl rfl ?_
   refine L_unwanted rfl rfl rfl rfl (by rw [c8]; try rfl) rfl rfl ?_
   refine Lq (.bool true) rfl rfl rfl (x_pick rfl rfl (by rw [c8]; rfl)) ?_
   refine L_nil ?_
   refine W_cond_true (by show Value.bool _ = _; exact congrArg Value.bool rfl) ?_
   refine W_seq ?_
   refine W_region_lit ?_
   refine Lq (int 0) rfl rfl rfl rfl ?_
   refine Lq (int 1) rfl rfl rfl rfl ?_
   refine L_nil ?_
   refine W_ret ?_
   refine ⟨_, _, res_run (rs := [.tmp 6, .tmp 7]) (vs := [(int 0), (int 1)]) Tryz.results29 (.cons (.tmp rfl) (.cons (.tmp rfl) .nil)) rfl, ?_⟩
   have he := make_arg (s := s) (cls := cls) (names := names) (by first | exact .inl (by omega) | exact .inr (.inl (by omega)) | exact .inr (.inr (.inl (by omega))))
   rw [he]
   obtain ⟨c', hst', htree'⟩ := Tree.close (s := s) ((((hst.front 3 rfl rfl).front 3 rfl rfl).front 3 rfl rfl).front 3 rfl rfl) hN hRs hM hwf hS hrl hbm
   exact ⟨_, _, _, rfl, hst'.keepN 1 rfl, c', rfl, rfl, htree'⟩
  ·
   have q10 := of_decide_eq_false c8
   refine L_guard rfl rfl rfl rfl c8 ?_
   refine Lq v rfl rfl rfl rfl ?_
   refine L_guard rfl rfl rfl rfl c8 ?_
   obtain ⟨a11, cap12, e13, hc14⟩ := hv.shape
   subst e13
   refine Lq (int (names.length : Int)) rfl rfl rfl (x_len_slice rfl sl_42 rfl) ?_
   refine L_guard rfl rfl rfl rfl c8 ?_
   refine Lq (.bool (decide ((names.length : Int) > 64))) rfl rfl rfl (by kernel_rfl) ?_
   refine Lq (.bool (decide ((names.length : Int) > 64))) rfl rfl rfl (x_pick rfl rfl (by rw [c8]; rfl)) ?_
   refine L_nil ?_
   rcases Bool.eq_false_or_eq_true (decide ((names.length : Int) > 64)) with c15 | c15
   ·
    have q16 := of_decide_eq_true c15
    refine W_cond_true (by show Value.bool _ = _; exact congrArg Value.bool c15) ?_
    refine W_seq ?_
    refine W_region_lit ?_
    refine Lq (int 0) rfl rfl rfl rfl ?_
    refine Lq (int 1) rfl rfl rfl rfl ?_
    refine L_nil ?_
    refine W_ret ?_
    refine ⟨_, _, res_run (rs := [.tmp 6, .tmp 7]) (vs := [(int 0), (int 1)]) Tryz.results29 (.cons (.tmp rfl) (.cons (.tmp rfl) .nil)) rfl, ?_⟩
    have he := make_arg (s := s) (cls := cls) (names := names) (by first | exact .inl (by omega) | exact .inr (.inl (by omega)) | exact .inr (.inr (.inl (by omega))))
    rw [he]
    obtain ⟨c', hst', htree'⟩ := Tree.close (s := s) ((((hst.front 3 rfl rfl).front 3 rfl rfl).front 3 rfl rfl).front 3 rfl rfl) hN hRs hM hwf hS hrl hbm
    exact ⟨_, _, _, rfl, hst'.keepN 1 rfl, c', rfl, rfl, htree'⟩
   ·
    have q17 := of_decide_eq_false c15
    refine W_cond_false (by show Value.bool _ = _; exact congrArg Value.bool c15) ?_
    refine W_skip ?_
    refine W_seq ?_
    refine W_region_lit ?_
    refine Lq (.slice a11 names.length cap12) rfl rfl rfl rfl ?_
    refine L_call rfl rfl rfl (x_call (vs := #[(.slice a11 names.length cap12)]) rfl rfl (by kernel_rfl) ent_58) ?_ (fun _ _ h => h)
    refine calls_of_W (n := 4) Tryz.func58 rfl Tryz.ntmps58 (Nat.le_of_ble_eq_true rfl) ?_
    refine W_seq ?_
    refine W_region_lit ?_
    refine L_new hst (v := fun b => ptr b 0) (ob := .cells #[(.slice a11 names.length cap12)] 42 (0, 0)) rfl rfl rfl (by kernel_rfl) (fun b18 w19 hst20 => ?_)
    refine Lq .nilFunc rfl rfl rfl rfl ?_
    refine L_nil ?_
    refine W_seq ?_
    refine W_region_lit ?_
    refine Lq (.func (.func 73) #[] #[(ptr b18 0)]) rfl rfl rfl (by kernel_rfl) ?_
    refine Lq (.func (.func 73) #[] #[(ptr b18 0)]) rfl rfl rfl rfl ?_
    refine L_nil ?_
    refine W_ret ?_
    refine ⟨_, _, res_run (rs := [.tmp 2]) (vs := [(.func (.func 73) #[] #[(ptr b18 0)])]) Tryz.results58 (.cons (.tmp rfl) .nil) rfl, ?_⟩
    refine ⟨_, rfl, ?_⟩
    obtain ⟨R21, hst22, hle23, hc24⟩ := Step.frz hst20
    have hm25 := OwnL.mono hN hle23
    have hm26 := OwnL.mono hRs hle23
    have hst27 := hst22
    refine L_callS [] [one p (.cells #[vN, (.slice a4 s.roots.length cap5), (.map bm)] 65 (0, 0)), cN, cR, cM] hst27 rfl rfl rfl (x_call (vs := #[(.func (.func 73) #[] #[(ptr b18 0)])]) rfl rfl (by kernel_rfl) ent_57) (SortedS_spec (names := names) (hst27.sats.take 0 rfl) hc24 (RdS.mono hv hle23) (by omega)) (fun v28 w29 R30 L31 hp32 hle33 hst34 => ?_)
    have hm35 := OwnL.mono hm25 hle33
    have hm36 := OwnL.mono hm26 hle33
    obtain ⟨c37, ys38, rfl, hS39, ho40⟩ := hp32
    refine Lq v28 rfl rfl rfl rfl ?_
    refine L_nil ?_
    refine W_seq ?_
    refine W_seq ?_
    refine W_region_lit ?_
    refine Lq v28 rfl rfl rfl rfl ?_
    have hyl : ys38.length = names.length := by have h_ := congrArg List.length hS39; simpa using h_
    have hst41 := hst34
    refine L_callS [c37] [one p (.cells #[vN, (.slice a4 s.roots.length cap5), (.map bm)] 65 (0, 0)), cN, cR, cM] hst41 rfl rfl rfl (x_call (vs := #[v28]) rfl rfl (by kernel_rfl) ent_59) (CompactS_spec (hst41.sats.take 1 rfl) ho40 (by omega)) (fun v42 w43 R44 L45 hp46 hle47 hst48 => ?_)
    have hm49 := OwnL.mono hm35 hle47
    have hm50 := OwnL.mono hm36 hle47
    obtain ⟨a51, cap52, c53, rfl, rfl⟩ := hp46
    refine Lq (int (((Lib.compact (ys38.map bts)).length : Nat) : Int)) rfl rfl rfl (x_len_slice rfl sl_42 rfl) ?_
    refine Lq (.slice a11 names.length cap12) rfl rfl rfl rfl ?_
    refine Lq (int (names.length : Int)) rfl rfl rfl (x_len_slice rfl sl_42 rfl) ?_
    refine Lq (.bool ((((Lib.compact (ys38.map bts)).length : Nat) : Int) != (names.length : Int))) rfl rfl rfl (by kernel_rfl) ?_
    refine Lq (.bool ((((Lib.compact (ys38.map bts)).length : Nat) : Int) != (names.length : Int))) rfl rfl rfl rfl ?_
    rcases Bool.eq_false_or_eq_true ((((Lib.compact (ys38.map bts)).length : Nat) : Int) != (names.length : Int)) with c54 | c54
    ·
     have q55 : ¬ (((Lib.compact (ys38.map bts)).length : Nat) : Int) = (names.length : Int) := by simpa using c54
     refine L_unwanted rfl rfl rfl rfl (by rw [c54]; try rfl) rfl rfl ?_
     refine L_unwanted rfl rfl rfl rfl (by rw [c54]; try rfl) rfl rfl ?_
     refine Lq (.bool true) rfl rfl rfl (x_pick rfl rfl (by rw [c54]; rfl)) ?_
     refine L_nil ?_
     refine W_cond_true (by show Value.bool _ = _; exact congrArg Value.bool rfl) ?_
     refine W_seq ?_
     refine W_region_lit ?_
     refine Lq (int 0) rfl rfl rfl rfl ?_
     refine Lq (int 1) rfl rfl rfl rfl ?_
     refine L_nil ?_
     refine W_ret ?_
     refine ⟨_, _, res_run (rs := [.tmp 6, .tmp 7]) (vs := [(int 0), (int 1)]) Tryz.results29 (.cons (.tmp rfl) (.cons (.tmp rfl) .nil)) rfl, ?_⟩
     have he := make_arg (s := s) (cls := cls) (names := names) (.inr (.inr (.inr (.inl (sorted_ne hS39 (by simpa using c54))))))
     rw [he]
     obtain ⟨c', hst', htree'⟩ := Tree.close (s := s) ((((hst48.front 4 rfl rfl).front 4 rfl rfl).front 4 rfl rfl).front 4 rfl rfl) hm49 hm50 hM hwf hS hrl hbm
     exact ⟨_, _, _, rfl, hst'.keepN 1 rfl, c', rfl, rfl, htree'⟩
    ·
     have q56 : (((Lib.compact (ys38.map bts)).length : Nat) : Int) = (names.length : Int) := by simpa using c54
     refine L_guard rfl rfl rfl rfl c54 ?_
     refine Lq (.slice a11 names.length cap12) rfl rfl rfl rfl ?_
     refine L_guard rfl rfl rfl rfl c54 ?_
     refine L_callG hst48 (v := (.bool (decide (⟨#[]⟩ ∈ names)))) rfl rfl rfl (x_call (vs := #[(.slice a11 names.length cap12), (.string ⟨#[]⟩)]) rfl rfl (by kernel_rfl) ent_56) (Contains_spec ⟨#[]⟩ (Le.refl _) (RdS.mono hv (Le.trans hle23 (Le.trans hle33 (Le.trans hle47 hst48.rle')))) (by first | omega | assumption)) (fun w57 hst58 => ?_)
     refine Lq (.bool (decide (⟨#[]⟩ ∈ names))) rfl rfl rfl (x_pick rfl rfl (by rw [c54]; rfl)) ?_
     refine L_nil ?_
     rcases Bool.eq_false_or_eq_true (decide (⟨#[]⟩ ∈ names)) with c59 | c59
     ·
      have q60 := of_decide_eq_true c59
      refine W_cond_true (by show Value.bool _ = _; exact congrArg Value.bool c59) ?_
      refine W_seq ?_
      refine W_region_lit ?_
      refine Lq (int 0) rfl rfl rfl rfl ?_
      refine Lq (int 1) rfl rfl rfl rfl ?_
      refine L_nil ?_
      refine W_ret ?_
      refine ⟨_, _, res_run (rs := [.tmp 6, .tmp 7]) (vs := [(int 0), (int 1)]) Tryz.results29 (.cons (.tmp rfl) (.cons (.tmp rfl) .nil)) rfl, ?_⟩
      have he := make_arg (s := s) (cls := cls) (names := names) (.inr (.inr (.inr (.inr (of_decide_eq_true c59)))))
      rw [he]
      obtain ⟨c', hst', htree'⟩ := Tree.close (s := s) ((((hst58.front 4 rfl rfl).front 4 rfl rfl).front 4 rfl rfl).front 4 rfl rfl) hm49 hm50 hM hwf hS hrl hbm
      exact ⟨_, _, _, rfl, hst'.keepN 1 rfl, c', rfl, rfl, htree'⟩
     ·
      have q61 := of_decide_eq_false c59
      refine W_cond_false (by show Value.bool _ = _; exact congrArg Value.bool c59) ?_
      refine W_skip ?_
      refine W_seq ?_
      refine W_seq ?_
      obtain ⟨kn, rfl⟩ : ∃ n : Nat, cls = (n : Int) := ⟨cls.toNat, by omega⟩
      refine W_region_lit ?_
      refine Lq (ptr p 0) rfl rfl rfl rfl ?_
      refine Lq (int (kn : Int)) rfl rfl rfl rfl ?_
      have hv62 : TreeR (hp w57) p s.nodes s.roots := ⟨_, _, _, (hst58.g 1), OwnL.freeze (v := vN) hm49 hst58.rle' (hst58.g 2), OwnL.freeze (v := (.slice a4 s.roots.length cap5)) hm50 hst58.rle' (hst58.g 3), hS, hrv, hrl⟩
      refine L_callG hst58 (v := (int (rootL s.nodes s.roots (kn : Int)))) rfl rfl rfl (x_call (vs := #[(ptr p 0), (int (kn : Int))]) rfl rfl (by kernel_rfl) ent_26) (Root_spec (kn : Int) hv62 (Le.refl _)) (fun w63 hst64 => ?_)
      refine Lq (int (rootL s.nodes s.roots (kn : Int))) rfl rfl rfl rfl ?_
      refine L_nil ?_
      refine W_seq ?_
      obtain ⟨rn, hr1, hr2⟩ := rootL_nat hS.can hrv (k := kn) (by omega)
      rw [hr1]
      obtain ⟨bm0, rfl⟩ : ∃ b, bm = some b := by cases bm with | none => exact absurd (congrArg List.length (hbm rfl)) (by simp only [List.length_nil]; omega) | some b => exact ⟨b, rfl⟩
      refine W_region_lit ?_
      refine Lq (ptr p 0) rfl rfl rfl rfl ?_
      refine Lq (ptr p 0) rfl rfl rfl rfl ?_
      refine Lq (ptr p 0) rfl rfl rfl (by kernel_rfl) ?_
      refine Lq vN rfl rfl rfl (x_load rfl rfl (run_loadVar_one ti_61 (hst64.b 1) rfl)) ?_
      refine Lq (int (rn : Int)) rfl rfl rfl rfl ?_
      obtain ⟨a65, cap66, e67, hc68⟩ := hm49.value
      subst e67
      obtain ⟨b69, cap70, N71, e72, hc73, hrow74, hback75⟩ := OwnL.row hm49 (by omega)
      obtain ⟨rfl, hl76, rfl⟩ := Value.slice.inj e72
      try rw [← hl76] at hback75
      obtain ⟨cl77, cs78, hr79, hcb80, hsg81⟩ := Row.at hrow74 rn (by omega)
      obtain ⟨x82, hx83⟩ : ∃ x_, x_ = (s.nodes[rn]'(by omega)) := ⟨_, rfl⟩
      rw [← hx83] at hr79
      have hb84 : x82.names.length ≤ 1000000 := by rw [hx83]; exact hS.names _ (by omega)
      have hb85 : x82.ali = -1 ∨ 0 ≤ x82.ali := by rw [hx83]; exact hS.ali _ (by omega)
      obtain ⟨vn86, rfl, hvn87⟩ := tyNd_open hr79
      refine Lq (ptr b69 (0 + rn * 3)) rfl rfl rfl (x_indexAddr' rfl sl_61 ti_85 rfl rfl (by omega)) ?_
      refine Lq (ptr b69 (0 + rn * 3 + 2)) rfl rfl rfl (by kernel_rfl) ?_
      refine Lq vn86 rfl rfl rfl (x_load rfl rfl (run_loadVar_one ti_42 ((hst64.g 2) _ _ hcb80) (seg_get (j := 2) hsg81 rfl))) ?_
      refine Lq (.slice a11 names.length cap12) rfl rfl rfl rfl ?_
      obtain ⟨a88, cap89, e90, hc91⟩ := hvn87.shape
      subst e90
      refine L_callG hst64 (v := (.bool (decide (x82.names = names)))) rfl rfl rfl (x_call (vs := #[(.slice a88 x82.names.length cap89), (.slice a11 names.length cap12)]) rfl rfl (by kernel_rfl) ent_60) (EqualS_spec (Le.refl _) (RdS.mono hvn87 hst64.rle') (RdS.mono hv (Le.trans hle23 (Le.trans hle33 (Le.trans hle47 hst64.rle')))) (by first | omega | assumption) (by first | omega | assumption)) (fun w92 hst93 => ?_)
      refine L_nil ?_
      rcases Bool.eq_false_or_eq_true (decide (x82.names = names)) with c94 | c94
      ·
       have q95 := of_decide_eq_true c94
       refine W_cond_true (by show Value.bool _ = _; exact congrArg Value.bool c94) ?_
       refine W_seq ?_
       refine W_region_lit ?_
       refine Lq (int (rn : Int)) rfl rfl rfl rfl ?_
       refine Lq (int (rn : Int)) rfl rfl rfl rfl ?_
       refine Lq (int 0) rfl rfl rfl rfl ?_
       refine L_nil ?_
       refine W_ret ?_
       refine ⟨_, _, res_run (rs := [.tmp 6, .tmp 7]) (vs := [(int (rn : Int)), (int 0)]) Tryz.results29 (.cons (.tmp rfl) (.cons (.tmp rfl) .nil)) rfl, ?_⟩
       have hmk : Makes s kn rn names x82 := ⟨by omega, by omega, sorted_eq' hS39 (by simpa using c54), of_decide_eq_false c59, hr1, hr2, by rw [hx83]⟩
       have he := hmk.same (of_decide_eq_true c94)
       rw [he]
       obtain ⟨c', hst', htree'⟩ := Tree.close (s := s) ((((hst93.front 4 rfl rfl).front 4 rfl rfl).front 4 rfl rfl).front 4 rfl rfl) (hback75 R44 s.nodes cN (by first | rfl | (simp only [List.length_set]; done) | (simp only [List.length_set]; omega) | omega) hrow74) hm50 hM hwf hS hrl (fun h_ => by cases h_)
       exact ⟨_, _, _, rfl, hst'.keepN 1 rfl, c', rfl, rfl, htree'⟩
      ·
       have q96 := of_decide_eq_false c94
       refine W_cond_false (by show Value.bool _ = _; exact congrArg Value.bool c94) ?_
       refine W_skip ?_
       refine W_seq ?_
       refine W_seq ?_
       refine W_region_lit ?_
       refine Lq (ptr p 0) rfl rfl rfl rfl ?_
       refine Lq (int (kn : Int)) rfl rfl rfl rfl ?_
       refine Lq (.slice a11 names.length cap12) rfl rfl rfl rfl ?_
       have hv97 : TreeR (hp w92) p s.nodes s.roots := ⟨_, _, _, (hst93.g 1), OwnL.freeze (v := (.slice (some ⟨b69, 0, none⟩) s.nodes.length cap66)) (hback75 R44 s.nodes cN (by first | rfl | (simp only [List.length_set]; done) | (simp only [List.length_set]; omega) | omega) hrow74) hst93.rle' (hst93.g 2), OwnL.freeze (v := (.slice a4 s.roots.length cap5)) hm50 hst93.rle' (hst93.g 3), hS, hrv, hrl⟩
       refine L_callG hst93 (v := (.tuple #[(int ((findL s.nodes (kn : Int) names).1)), (.bool ((findL s.nodes (kn : Int) names).2))])) rfl rfl rfl (x_call (vs := #[(ptr p 0), (int (kn : Int)), (.slice a11 names.length cap12)]) rfl rfl (by kernel_rfl) ent_25) (Find_spec (kn : Int) names (RdS.mono hv (Le.trans hle23 (Le.trans hle33 (Le.trans hle47 hst93.rle')))) (by omega) hv97 (Le.refl _)) (fun w98 hst99 => ?_)
       refine Lq (.tuple #[(int ((findL s.nodes (kn : Int) names).1)), (.bool ((findL s.nodes (kn : Int) names).2))]) rfl rfl rfl rfl ?_
       refine Lq (int ((findL s.nodes (kn : Int) names).1)) rfl rfl rfl (by kernel_rfl) ?_
       refine Lq (.bool ((findL s.nodes (kn : Int) names).2)) rfl rfl rfl (by kernel_rfl) ?_
       refine Lq (int ((findL s.nodes (kn : Int) names).1)) rfl rfl rfl rfl ?_
       refine Lq (.bool ((findL s.nodes (kn : Int) names).2)) rfl rfl rfl rfl ?_
       refine L_nil ?_
       refine W_seq ?_
       refine W_region_lit ?_
       refine Lq (.bool ((findL s.nodes (kn : Int) names).2)) rfl rfl rfl rfl ?_
       refine L_nil ?_
       rcases Bool.eq_false_or_eq_true ((findL s.nodes (kn : Int) names).2) with c100 | c100
       ·
        refine W_cond_true (by show Value.bool _ = _; exact congrArg Value.bool c100) ?_
        refine W_seq ?_
        refine W_region_lit ?_
        refine Lq (int ((findL s.nodes (kn : Int) names).1)) rfl rfl rfl rfl ?_
        refine Lq (int ((findL s.nodes (kn : Int) names).1)) rfl rfl rfl rfl ?_
        refine Lq (int 0) rfl rfl rfl rfl ?_
        refine L_nil ?_
        refine W_ret ?_
        refine ⟨_, _, res_run (rs := [.tmp 6, .tmp 7]) (vs := [(int ((findL s.nodes (kn : Int) names).1)), (int 0)]) Tryz.results29 (.cons (.tmp rfl) (.cons (.tmp rfl) .nil)) rfl, ?_⟩
        have hmk : Makes s kn rn names x82 := ⟨by omega, by omega, sorted_eq' hS39 (by simpa using c54), of_decide_eq_false c59, hr1, hr2, by rw [hx83]⟩
        have he := hmk.found (of_decide_eq_false c94) c100
        rw [he]
        obtain ⟨c', hst', htree'⟩ := Tree.close (s := s) ((((hst99.front 4 rfl rfl).front 4 rfl rfl).front 4 rfl rfl).front 4 rfl rfl) (hback75 R44 s.nodes cN (by first | rfl | (simp only [List.length_set]; done) | (simp only [List.length_set]; omega) | omega) hrow74) hm50 hM hwf hS hrl (fun h_ => by cases h_)
        exact ⟨_, _, _, rfl, hst'.keepN 1 rfl, c', rfl, rfl, htree'⟩
       ·
        refine W_cond_false (by show Value.bool _ = _; exact congrArg Value.bool c100) ?_
        refine W_skip ?_
        refine W_seq ?_
        refine W_seq ?_
        refine W_region_lit ?_
        refine Lq (ptr p 0) rfl rfl rfl rfl ?_
        refine Lq (ptr p 0) rfl rfl rfl rfl ?_
        refine Lq (ptr p 0) rfl rfl rfl (by kernel_rfl) ?_
        refine Lq (.slice (some ⟨b69, 0, none⟩) s.nodes.length cap66) rfl rfl rfl (x_load rfl rfl (run_loadVar_one ti_61 (hst99.b 1) rfl)) ?_
        refine Lq (int (s.nodes.length : Int)) rfl rfl rfl (x_len_slice rfl sl_61 rfl) ?_
        refine Lq (.bool (decide ((s.nodes.length : Int) ≥ 200))) rfl rfl rfl (by kernel_rfl) ?_
        refine L_nil ?_
        rcases Bool.eq_false_or_eq_true (decide ((s.nodes.length : Int) ≥ 200)) with c101 | c101
        ·
         have q102 := of_decide_eq_true c101
         refine W_cond_true (by show Value.bool _ = _; exact congrArg Value.bool c101) ?_
         refine W_seq ?_
         refine W_region_lit ?_
         refine Lq (int 0) rfl rfl rfl rfl ?_
         refine Lq (int 2) rfl rfl rfl rfl ?_
         refine L_nil ?_
         refine W_ret ?_
         refine ⟨_, _, res_run (rs := [.tmp 6, .tmp 7]) (vs := [(int 0), (int 2)]) Tryz.results29 (.cons (.tmp rfl) (.cons (.tmp rfl) .nil)) rfl, ?_⟩
         have hmk : Makes s kn rn names x82 := ⟨by omega, by omega, sorted_eq' hS39 (by simpa using c54), of_decide_eq_false c59, hr1, hr2, by rw [hx83]⟩
         have he := hmk.full (of_decide_eq_false c94) c100 (by omega)
         rw [he]
         obtain ⟨c', hst', htree'⟩ := Tree.close (s := s) ((((hst99.front 4 rfl rfl).front 4 rfl rfl).front 4 rfl rfl).front 4 rfl rfl) (hback75 R44 s.nodes cN (by first | rfl | (simp only [List.length_set]; done) | (simp only [List.length_set]; omega) | omega) hrow74) hm50 hM hwf hS hrl (fun h_ => by cases h_)
         exact ⟨_, _, _, rfl, hst'.keepN 1 rfl, c', rfl, rfl, htree'⟩
        ·
         have q103 := of_decide_eq_false c101
         refine W_cond_false (by show Value.bool _ = _; exact congrArg Value.bool c101) ?_
         refine W_skip ?_
         refine W_seq ?_
         refine W_region_lit ?_
         refine Lq (ptr p 0) rfl rfl rfl rfl ?_
         refine Lq (int (kn : Int)) rfl rfl rfl rfl ?_
         refine Lq (.slice a11 names.length cap12) rfl rfl rfl rfl ?_
         have hst104 := ((hst99.front 2 rfl rfl).front 2 rfl rfl)
         refine L_callS [one p (.cells #[(.slice (some ⟨b69, 0, none⟩) s.nodes.length cap66), (.slice a4 s.roots.length cap5), (.map (some bm0))] 65 (0, 0)), cN] [c53, cR, cM] hst104 rfl rfl rfl (x_call (vs := #[(ptr p 0), (int (kn : Int)), (.slice a11 names.length cap12)]) rfl rfl (by kernel_rfl) ent_39) (add_spec (names := names) (kn : Int) (hst104.sats.take 2 rfl) (hback75 R44 s.nodes cN (by first | rfl | (simp only [List.length_set]; done) | (simp only [List.length_set]; omega) | omega) hrow74) (RdS.mono hv (Le.trans hle23 (Le.trans hle33 hle47))) (by first | omega | assumption | (simp only [List.length_append, List.length_cons, List.length_nil]; omega)) (by first | omega | (simp only [List.length_append, List.length_cons, List.length_nil]; omega))) (fun v105 w106 R107 L108 hp109 hle110 hst111 => ?_)
         have hm112 := OwnL.mono hm50 hle110
         obtain ⟨vN113, cN114, rfl, rfl, hN115⟩ := hp109
         refine Lq (int (s.nodes.length : Int)) rfl rfl rfl rfl ?_
         refine Lq (int 0) rfl rfl rfl rfl ?_
         refine L_nil ?_
         refine W_ret ?_
         refine ⟨_, _, res_run (rs := [.tmp 6, .tmp 7]) (vs := [(int (s.nodes.length : Int)), (int 0)]) Tryz.results29 (.cons (.tmp rfl) (.cons (.tmp rfl) .nil)) rfl, ?_⟩
         have hmk : Makes s kn rn names x82 := ⟨by omega, by omega, sorted_eq' hS39 (by simpa using c54), of_decide_eq_false c59, hr1, hr2, by rw [hx83]⟩
         have he := hmk.made (of_decide_eq_false c94) c100 (by omega)
         rw [he]
         obtain ⟨c', hst', htree'⟩ := Tree.close (s := s.addN (kn : Int) names) ((((hst111.front 4 rfl rfl).front 4 rfl rfl).front 3 rfl rfl).front 3 rfl rfl) hN115 hm112 hM (hwf.addN _ _) (hS.app (by omega) (by show names.length ≤ _; omega) rfl) hrl (fun h_ => by cases h_)
         exact ⟨_, _, _, rfl, hst'.keepN 1 rfl, c', rfl, rfl, htree'⟩
end Go.Fx.YtjpdhfhiimbpgaaGreatDoor
set_option linter.unusedSimpArgs false
set_option linter.unusedVariables false
namespace Go.Fx.YtjpdhfhiimbpgaaGreatDoor
open Go Go.Fx Go.Proofs
set_option maxRecDepth 20000
theorem ent_66 : Ent Tryz.prog 66 := fun _ _ => by kernel_rfl
theorem ent_67 : Ent Tryz.prog 67 := fun _ _ => by kernel_rfl
theorem ent_76 : Ent Tryz.prog 76 := fun _ _ => by kernel_rfl
theorem ent_77 : Ent Tryz.prog 77 := fun _ _ => by kernel_rfl
theorem sl_105 : SL Tryz.prog 105 98 := Tryz.underlying105
theorem ti_24 : TI Tryz.prog 24 false 1 8 (.pointer none) := ⟨by kernel_rfl, by kernel_rfl⟩
theorem SortedT_spec {w : World} {R cM : Hp} {q b : Nat} {m : List (Stp × Int)} (hs : Sats w R []) (h0 : Le (one q (.cells #[.map (some b)] 63 (0, 0))) R) (hM : MapC kS vI (some b) m cM) (hc : Le cM R) (hl : m.length ≤ 1000000) :
    Calls Tryz.prog 66 #[.func (.func 78) #[] #[ptr q 0], .func (.func 68) #[] #[]] w (Comes' w R [] fun v' R' L' => ∃ c ys, L' = [c] ∧ ys.Perm (AL.keys m) ∧ ys.Pairwise (fun a b => ltS b.2 a.2 = false) ∧ OwnL tyStp 98 R' v' ys c) := by
 have hst := Step.refl hs
 refine calls_of_W (n := 12) Tryz.func66 rfl Tryz.ntmps66 (Nat.le_of_ble_eq_true rfl) ?_
 refine W_seq ?_
 refine W_region_lit ?_
 refine Lq (.slice none 0 0) rfl rfl rfl rfl ?_
 refine L_nil ?_
 refine W_seq ?_
 refine W_region_lit ?_
 refine Lq (.func (.func 78) #[] #[(ptr q 0)]) rfl rfl rfl rfl ?_
 have hst1 := hst
 refine L_callS [] [] hst1 rfl rfl rfl (x_call (vs := #[(.func (.func 78) #[] #[(ptr q 0)])]) rfl rfl (by kernel_rfl) ent_76) (CollectT_spec (N := m.length) (hst1.sats.take 0 rfl) ent78 (by omega) (fun R1 h1 => KeysT_gives (Le.trans h0 h1) hM (Le.trans hc h1))) (fun v2 w3 R4 L5 hp6 hle7 hst8 => ?_)
 obtain ⟨c9, ys10, rfl, hS11, ho12⟩ := hp6
 have hyl : ys10.length ≤ 1000000 := by have h_ := hS11.length_eq; simp only [AL.keys, List.length_map] at h_; omega
 refine Lq v2 rfl rfl rfl rfl ?_
 refine L_nil ?_
 refine W_seq ?_
 refine W_region_lit ?_
 refine Lq v2 rfl rfl rfl rfl ?_
 refine Lq (.func (.func 68) #[] #[]) rfl rfl rfl rfl ?_
 have hst13 := hst8
 refine L_callS [c9] [] hst13 rfl rfl rfl (x_call (vs := #[v2, (.func (.func 68) #[] #[])]) rfl rfl (by kernel_rfl) ent_77) (SortT_spec (hst13.sats.take 1 rfl) ho12 hyl) (fun v14 w15 R16 L17 hp18 hle19 hst20 => ?_)
 obtain ⟨rfl, c21, ys22, rfl, hp23, hpw24, ho25⟩ := hp18
 refine L_nil ?_
 refine W_seq ?_
 refine W_region_lit ?_
 refine Lq v2 rfl rfl rfl rfl ?_
 refine Lq v2 rfl rfl rfl rfl ?_
 refine L_nil ?_
 refine W_ret ?_
 refine ⟨_, _, res_run (rs := [.tmp 4]) (vs := [v2]) Tryz.results66 (.cons (.tmp rfl) .nil) rfl, ?_⟩
 exact ⟨_, _, _, rfl, (hst20).keepN 1 rfl, _, _, rfl, hp23.trans hS11, hpw24, ho25⟩
theorem Steps1_gives {R cM : Hp} {p bm q1 q2 : Nat} {vN vR : Value} {m : List (Stp × Int)} {k : Int} (h1 : Le (one q1 (.cells #[ptr p 0] 24 (0, 0))) R) (h2 : Le (one q2 (.cells #[int k] 3 (0, 0))) R) (h3 : Le (treeB p vN vR (some bm)) R) (hM : MapC kS vI (some bm) m cM) (h4 : Le cM R) (hok : AL.Ok m) (hl : m.length ≤ 1000000) :
    GivesO Tryz.prog 65 #[ptr q1 0, ptr q2 0] m.length (fun e => e ∈ lks m k) (fun xs => xs = lks m k) (fun _ => True) (fun e => #[.string e.1, int e.2]) R [] (fun _ L' => L' = []) := by
 intro l J Jx w Lb hs hJ hJx hY hj0
 have hst : Step w R Lb w R Lb := Step.refl (by simpa using hs)
 refine calls_of_W (n := 37) Tryz.func65 rfl Tryz.ntmps65 (Nat.le_of_ble_eq_true rfl) ?_
 refine W_seq ?_
 refine W_region_lit ?_
 refine Lq (ptr p 0) rfl rfl rfl (x_load rfl rfl (run_loadVar_one ti_24 (hst.rle' _ _ (h1 _ _ (one_self _ _))) rfl)) ?_
 refine Lq (ptr p 0) rfl rfl rfl rfl ?_
 refine Lq (ptr p 2) rfl rfl rfl (by kernel_rfl) ?_
 refine Lq (.map (some bm)) rfl rfl rfl (x_load rfl rfl (run_loadVar_one ti_63 (hst.rle' _ _ (h3 _ _ (one_self _ _))) rfl)) ?_
 refine L_call rfl rfl rfl (x_call (vs := #[(.map (some bm))]) rfl rfl (by kernel_rfl) ent_67) ?_ (fun _ _ h => h)
 refine calls_of_W (n := 4) Tryz.func67 rfl Tryz.ntmps67 (Nat.le_of_ble_eq_true rfl) ?_
 refine W_seq ?_
 refine W_region_lit ?_
 refine L_new hst (v := fun b => ptr b 0) (ob := .cells #[(.map (some bm))] 63 (0, 0)) rfl rfl rfl (by kernel_rfl) (fun b1 w2 hst3 => ?_)
 refine Lq .nilFunc rfl rfl rfl rfl ?_
 refine L_nil ?_
 refine W_seq ?_
 refine W_region_lit ?_
 refine Lq (.func (.func 78) #[] #[(ptr b1 0)]) rfl rfl rfl (by kernel_rfl) ?_
 refine Lq (.func (.func 78) #[] #[(ptr b1 0)]) rfl rfl rfl rfl ?_
 refine L_nil ?_
 refine W_ret ?_
 refine ⟨_, _, res_run (rs := [.tmp 2]) (vs := [(.func (.func 78) #[] #[(ptr b1 0)])]) Tryz.results67 (.cons (.tmp rfl) .nil) rfl, ?_⟩
 refine ⟨_, rfl, ?_⟩
 obtain ⟨R4, hst5, hle6, hc7⟩ := Step.frz hst3
 have hst8 := hst5
 refine L_callS [] (Lb) hst8 rfl rfl rfl (x_call (vs := #[(.func (.func 78) #[] #[(ptr b1 0)]), (.func (.func 68) #[] #[])]) rfl rfl (by kernel_rfl) ent_66) (SortedT_spec (m := m) (hst8.sats.take 0 rfl) hc7 hM (Le.trans h4 hle6) hl) (fun v9 w10 R11 L12 hp13 hle14 hst15 => ?_)
 obtain ⟨c16, ys17, rfl, hperm18, hpw19, ho20⟩ := hp13
 obtain ⟨R21, hst22, hle23, hc24⟩ := Step.frz hst15
 have hrd25 := OwnL.freeze ho20 hle23 hc24
 have hyl : ys17.length = m.length := by have h_ := hperm18.length_eq; simpa [AL.keys] using h_
 refine Lq v9 rfl rfl rfl rfl ?_
 refine L_nil ?_
 refine W_seq ?_
 refine W_region_lit ?_
 refine Lq v9 rfl rfl rfl rfl ?_
 obtain ⟨a26, cap27, e28, hc29⟩ := hrd25.shape
 subst e28
 refine Lq (int (ys17.length : Int)) rfl rfl rfl (x_len_slice rfl sl_105 rfl) ?_
 refine Lq (int 0) rfl rfl rfl rfl ?_
 refine L_nil ?_
 refine W_block ?_
 refine W_loop (I := fun σ w_ m_ => ∃ (σ0 : Fr) (R_ : Hp) (k_ : Nat) (L_ : List Hp), σ = upd (upd (upd (upd (upd (upd (upd (upd (upd (upd (upd (upd (upd σ0 0 (.func (.yield l) #[] #[])) 1 (ptr q1 0)) 2 (ptr q2 0)) 4 (.slice a26 ys17.length cap27)) 7 (ptr p 0)) 8 (ptr p 0)) 9 (ptr p 2)) 10 (.map (some bm))) 11 (.func (.func 78) #[] #[(ptr b1 0)])) 12 (.slice a26 ys17.length cap27)) 13 (.slice a26 ys17.length cap27)) 14 (int (ys17.length : Int))) 15 (int (k_ : Int)) ∧ mks (σ0 0) = [] ∧ Step w R Lb w_ R_ (L_) ∧ Le R21 R_ ∧ J (pre m k ys17 k_) R_ L_ ∧ k_ ≤ ys17.length ∧ m_ = ys17.length - k_) (m := ys17.length - 0) ?_ ?_
 ·
  exact ⟨_, _, 0, Lb, (upd_of (upd_of (upd_of (upd_of (upd_of (upd_of (upd_of (upd_of (upd_of (upd_of (upd_of (upd_of (upd_of rfl rfl) rfl) rfl) rfl) rfl) rfl) rfl) rfl) rfl) rfl) rfl) rfl) rfl), rfl, hst22, Le.refl _, (by rw [pre_zero]; exact hJ _ _ _ _ (Le.trans hle6 (Le.trans hle14 hle23)) hj0), (by omega), rfl⟩
 ·
  rintro m40 σ_ w32 ⟨s36, R37, k_38, L_39, rfl, hmk30, hst31, hle33, hi34, hf35, rfl⟩
  refine W_seq ?_
  refine W_region_lit ?_
  refine Lq (.bool (decide ((k_38 : Int) < (ys17.length : Int)))) rfl rfl rfl (by kernel_rfl) ?_
  refine L_nil ?_
  refine W_seq ?_
  rcases Bool.eq_false_or_eq_true (decide ((k_38 : Int) < (ys17.length : Int))) with c41 | c41
  ·
   have q42 := of_decide_eq_true c41
   refine W_cond_true (by show Value.bool _ = _; exact congrArg Value.bool c41) ?_
   refine W_skip ?_
   refine W_seq ?_
   refine W_block ?_
   refine W_seq ?_
   refine W_region_lit ?_
   obtain ⟨b43, off44, cap45, cs46, T47, fz48, e49, hc50, hb51, he52⟩ := hrd25.open (by omega)
   cases e49
   obtain ⟨cl53, hs54, hr55⟩ := he52.at k_38 (by omega)
   obtain ⟨y56, hy57⟩ : ∃ y_, y_ = (ys17[k_38]'(by omega)) := ⟨_, rfl⟩
   rw [← hy57] at hr55
   obtain rfl := tyStp_open hr55
   refine Lq (ptr b43 (off44 + k_38 * 2)) rfl rfl rfl (x_indexAddr' rfl sl_105 ti_98 rfl rfl (by omega)) ?_
   refine Lq (.agg #[(int y56.1), (.string y56.2)]) rfl rfl rfl (x_load rfl rfl (run_loadVar_agg ti_98 ((Le.trans hle33 hst31.rle') _ _ hb51) hs54 rfl)) ?_
   refine L_new hst31 (v := fun b => ptr b 0) (ob := .cells #[(int 0), (.string ⟨#[]⟩)] 98 (0, 0)) rfl rfl rfl (by kernel_rfl) (fun b58 w59 hst60 => ?_)
   refine L_store hst60 0 ti_98 rfl rfl rfl rfl rfl rfl rfl rfl rfl rfl rfl (fun w61 hst62 => ?_)
   change Step _ _ _ _ _ (one b58 (.cells #[(int y56.1), (.string y56.2)] 98 (0, 0)) :: L_39) at hst62
   refine L_nil ?_
   refine W_seq ?_
   obtain ⟨R63, hst64, hle65, hc66⟩ := Step.frz hst62
   have hj67 := hJ _ _ _ _ hle65 hi34
   refine W_region_drawJ [] (fun w => Le R63 (hp w)) hmix ?_
   have hst69 := hst64.draws (w61.drawn + 1)
   generalize draws w61 (w61.drawn + 1) = w68 at hst69 ⊢
   refine LPJ (ptr b58 0) 0 rfl rfl rfl (fun u71 => (by kernel_rfl)) hst69.rle' ?_
   refine LTJ (int y56.1) 1 rfl rfl rfl (fun u74 hF75 => (x_load rfl rfl (run_loadVar_one ti_3 ((Le.trans hc66 hF75) _ _ (one_self _ _)) rfl))) hst69.rle' ?_
   refine LTJ (int k) 2 rfl rfl rfl (fun u77 hF78 => (x_load rfl rfl (run_loadVar_one ti_3 ((Le.trans (Le.trans (Le.trans (Le.trans (Le.trans (Le.trans h2 hle6) hle14) hle23) hle33) hle65) hF78) _ _ (one_self _ _)) rfl))) hst69.rle' ?_
   refine LPJ (.bool (y56.1 == k)) 3 rfl rfl rfl (fun u80 => (by kernel_rfl)) hst69.rle' ?_
   refine LPJ (.bool (y56.1 == k)) 4 rfl rfl rfl (fun u83 => rfl) hst69.rle' ?_
   rcases Bool.eq_false_or_eq_true (y56.1 == k) with c86 | c86
   ·
    have q87 := eq_of_beq c86
    refine LPJ (.func (.yield l) #[] #[]) 5 rfl rfl rfl (fun u89 => rfl) hst69.rle' ?_ (hw := (Want.of rfl rfl rfl rfl (by rw [c86]; rfl)))
    refine LPJ (ptr b58 1) 6 rfl rfl rfl (fun u92 => (by kernel_rfl)) hst69.rle' ?_ (hw := (Want.of rfl rfl rfl rfl (by rw [c86]; rfl)))
    refine LTJ (.string y56.2) 7 rfl rfl rfl (fun u95 hF96 => (x_load rfl rfl (run_loadVar_one ti_9 ((Le.trans hc66 hF96) _ _ (one_self _ _)) rfl))) hst69.rle' ?_ (hw := (Want.of rfl rfl rfl rfl (by rw [c86]; rfl)))
    refine LTJ (ptr p 0) 8 rfl rfl rfl (fun u98 hF99 => (x_load rfl rfl (run_loadVar_one ti_24 ((Le.trans (Le.trans (Le.trans (Le.trans (Le.trans (Le.trans h1 hle6) hle14) hle23) hle33) hle65) hF99) _ _ (one_self _ _)) rfl))) hst69.rle' ?_ (hw := (Want.of rfl rfl rfl rfl (by rw [c86]; rfl)))
    refine LPJ (ptr p 0) 9 rfl rfl rfl (fun u101 => rfl) hst69.rle' ?_ (hw := (Want.of rfl rfl rfl rfl (by rw [c86]; rfl)))
    refine LPJ (ptr p 2) 10 rfl rfl rfl (fun u104 => (by kernel_rfl)) hst69.rle' ?_ (hw := (Want.of rfl rfl rfl rfl (by rw [c86]; rfl)))
    refine LTJ (.map (some bm)) 11 rfl rfl rfl (fun u107 hF108 => (x_load rfl rfl (run_loadVar_one ti_63 ((Le.trans (Le.trans (Le.trans (Le.trans (Le.trans (Le.trans h3 hle6) hle14) hle23) hle33) hle65) hF108) _ _ (one_self _ _)) rfl))) hst69.rle' ?_ (hw := (Want.of rfl rfl rfl rfl (by rw [c86]; rfl)))
    refine LTJ (.agg #[(int y56.1), (.string y56.2)]) 12 rfl rfl rfl (fun u110 hF111 => (x_load rfl rfl (run_loadVar_agg ti_98 ((Le.trans hc66 hF111) _ _ (one_self _ _)) (l := [(int y56.1), (.string y56.2)]) rfl rfl))) hst69.rle' ?_ (hw := (Want.of rfl rfl rfl rfl (by rw [c86]; rfl)))
    refine LTJ (int ((AL.get m (y56.1, y56.2)).getD 0)) 13 rfl rfl rfl (fun u113 hF114 => x_lookup rfl rfl rfl (MapC.lookupP hM (Le.trans (Le.trans (Le.trans (Le.trans (Le.trans (Le.trans h4 hle6) hle14) hle23) hle33) hle65) hF114) law98 mt_63 ti_3 (y56.1, y56.2) false 0 rfl)) hst69.rle' ?_ (hw := (Want.of rfl rfl rfl rfl (by rw [c86]; rfl)))
    refine LJ_all [14] (by decide +kernel) (by simp) ?_
    intro i_ hi_
    simp only [List.mem_cons, List.not_mem_nil, or_false] at hi_
    subst hi_
    refine OneJ_yieldS L_39 [] (by simpa using hst69) (i := 14) rfl rfl rfl (Want.of rfl rfl rfl rfl (by rw [c86]; rfl)) (x_yield (vs := #[(.string y56.2), (int ((AL.get m (y56.1, y56.2)).getD 0))]) rfl rfl (by kernel_rfl)) (hY (pre m k ys17 k_38) (lkG m y56) _ _ _ (lkG_mem hok (hperm18.mem_iff.1 (by rw [hy57]; exact List.getElem_mem _)) (eq_of_beq c86)) hj67 (Le.trans hle6 (Le.trans hle14 (Le.trans hle23 (Le.trans hle33 hle65)))) hst69.sats (by rw [← hyl]; exact pre_len (by omega))) (fun b118 w119 R120 L121 hp122 hle123 hst124 => ?_)
    have hst125 := (by simpa using hst124 : Step w R Lb w119 R120 L121)
    refine ⟨(fun _ => (Le.trans hle123 hst125.rle')), ?_⟩
    refine LPJ (.bool (!b118)) 15 rfl rfl rfl (fun u127 => rfl) (Le.trans hle123 hst125.rle') ?_ (hw := (Want.of rfl rfl rfl rfl (by rw [c86]; rfl)))
    refine LPJ (.bool (!b118)) 16 rfl rfl rfl (fun u130 => (x_pick rfl rfl (by rw [c86]; rfl))) (Le.trans hle123 hst125.rle') ?_
    refine LJ_done (by decide +kernel) ?_
    rcases Bool.eq_false_or_eq_true b118 with c132 | c132
    ·
     refine W_cond_false (by show Value.bool _ = _; exact congrArg Value.bool (by rw [c132]; rfl)) ?_
     refine W_skip ?_
     refine W_region_lit ?_
     refine Lq (int ((k_38 + 1 : Nat) : Int)) rfl rfl rfl (x_add_nat rfl rfl rfl (by omega)) ?_
     refine Lq (int ((k_38 + 1 : Nat) : Int)) rfl rfl rfl rfl ?_
     refine L_nil ?_
     refine ⟨ys17.length - (k_38 + 1), by first | omega | (simp only [List.length_append, List.length_cons, List.length_nil]; omega), ?_⟩
     exact ⟨_, _, (k_38 + 1), L121, (upd_of (upd_of (upd_of (upd_of (upd_of (upd_of (upd_of (upd_of (upd_of (upd_of (upd_of (upd_of (upd_of rfl rfl) rfl) rfl) rfl) rfl) rfl) rfl) rfl) rfl) rfl) rfl) rfl) rfl), hmk30, hst125, (Le.trans hle33 (Le.trans hle65 hle123)), (by rw [pre_yes (by omega) hy57 (eq_of_beq c86)]; have h_ := hp122; rw [c132, if_pos rfl] at h_; exact h_), (by omega), rfl⟩
    ·
     refine W_cond_true (by show Value.bool _ = _; exact congrArg Value.bool (by rw [c132]; rfl)) ?_
     refine W_ret ?_
     refine ⟨_, _, res_run (rs := []) (vs := []) Tryz.results65 .nil hmk30, ?_⟩
     exact ⟨⟨_, rfl⟩, _, [], _, hst125, rfl, .inr ⟨_, trivial, by have h_ := hp122; rw [c132, if_neg (by decide)] at h_; exact h_⟩⟩
   ·
    have q133 := ne_of_beq_false c86
    refine LVJ 5 rfl rfl rfl hst69.rle' ?_ (hw := (Want.of rfl rfl rfl rfl (by rw [c86]; rfl)))
    refine LVJ 6 rfl rfl rfl hst69.rle' ?_ (hw := (Want.of rfl rfl rfl rfl (by rw [c86]; rfl)))
    refine LVJ 7 rfl rfl rfl hst69.rle' ?_ (hw := (Want.of rfl rfl rfl rfl (by rw [c86]; rfl)))
    refine LVJ 8 rfl rfl rfl hst69.rle' ?_ (hw := (Want.of rfl rfl rfl rfl (by rw [c86]; rfl)))
    refine LVJ 9 rfl rfl rfl hst69.rle' ?_ (hw := (Want.of rfl rfl rfl rfl (by rw [c86]; rfl)))
    refine LVJ 10 rfl rfl rfl hst69.rle' ?_ (hw := (Want.of rfl rfl rfl rfl (by rw [c86]; rfl)))
    refine LVJ 11 rfl rfl rfl hst69.rle' ?_ (hw := (Want.of rfl rfl rfl rfl (by rw [c86]; rfl)))
    refine LVJ 12 rfl rfl rfl hst69.rle' ?_ (hw := (Want.of rfl rfl rfl rfl (by rw [c86]; rfl)))
    refine LVJ 13 rfl rfl rfl hst69.rle' ?_ (hw := (Want.of rfl rfl rfl rfl (by rw [c86]; rfl)))
    refine LVJ 14 rfl rfl rfl hst69.rle' ?_ (hw := (Want.of rfl rfl rfl rfl (by rw [c86]; rfl)))
    refine LVJ 15 rfl rfl rfl hst69.rle' ?_ (hw := (Want.of rfl rfl rfl rfl (by rw [c86]; rfl)))
    refine LPJ (.bool false) 16 rfl rfl rfl (fun u146 => (x_pick rfl rfl (by rw [c86]; rfl))) hst69.rle' ?_
    refine LJ_done (by decide +kernel) ?_
    refine W_cond_false (by show Value.bool _ = _; exact congrArg Value.bool rfl) ?_
    refine W_skip ?_
    refine W_region_lit ?_
    refine Lq (int ((k_38 + 1 : Nat) : Int)) rfl rfl rfl (x_add_nat rfl rfl rfl (by omega)) ?_
    refine Lq (int ((k_38 + 1 : Nat) : Int)) rfl rfl rfl rfl ?_
    refine L_nil ?_
    refine ⟨ys17.length - (k_38 + 1), by first | omega | (simp only [List.length_append, List.length_cons, List.length_nil]; omega), ?_⟩
    exact ⟨_, _, (k_38 + 1), L_39, (upd_of (upd_of (upd_of (upd_of (upd_of (upd_of (upd_of (upd_of (upd_of (upd_of (upd_of (upd_of (upd_of rfl rfl) rfl) rfl) rfl) rfl) rfl) rfl) rfl) rfl) rfl) rfl) rfl) rfl), hmk30, hst69, (Le.trans hle33 hle65), (by rw [pre_no (by omega) hy57 (ne_of_beq_false c86)]; exact hj67), (by omega), rfl⟩
  ·
   have q148 := of_decide_eq_false c41
   refine W_cond_false (by show Value.bool _ = _; exact congrArg Value.bool c41) ?_
   refine W_exit ?_
   refine ⟨_, _, res_run (rs := []) (vs := []) Tryz.results65 .nil hmk30, ?_⟩
   exact ⟨⟨_, rfl⟩, _, [], _, hst31, rfl, .inl ⟨_, rfl, by have h_ := hi34; rw [pre_all hok hperm18 hpw19 (by omega)] at h_; exact h_⟩⟩
end Go.Fx.YtjpdhfhiimbpgaaGreatDoor
set_option linter.unusedSimpArgs false
set_option linter.unusedVariables false
set_option linter.unusedSectionVars false
namespace Go.Fx.YtjpdhfhiimbpgaaGreatDoor
open Go Go.Fx Go.Proofs
set_option maxRecDepth 20000
/-- The piece c is a builder at B that holds l. -/
def Bld (B : Nat) (l : List UInt8) (c : Hp) : Prop :=
  ∃ addr v cb, c = uni (one B (.cells #[addr, v] 79 (0, 0))) cb ∧ Dj (one B (.cells #[addr, v] 79 (0, 0))) cb ∧ (addr = .pointer none ∨ addr = ptr B 0) ∧ OwnS 5 1 v l.length (Lib.byteCells l) cb
theorem OwnS_shape {T sz : Nat} {v : Value} {n : Nat} {cells : List Value} {c : Hp} (h : OwnS T sz v n cells c) : ∃ a cap, v = .slice a n cap := by
  rcases h with ⟨rfl, rfl, _⟩ | ⟨b, cap, cs, rfl, _⟩
  · exact ⟨_, _, rfl⟩
  · exact ⟨_, _, rfl⟩
theorem infoB : ∃ j, Tryz.prog.info? 79 = some j ∧ j.size = 2 := by
  have h : (Tryz.prog.info? 79).map (·.size) = some 2 := by kernel_rfl
  obtain ⟨j, h1, h2⟩ := Option.map_eq_some_iff.1 h
  exact ⟨j, h1, h2⟩
theorem liesB : liesAt Tryz.prog Tryz.prog.depth 79 (2 / Tryz.prog.cellsOf 79) 0 79 1 = true := by kernel_rfl
theorem shapeB {w : World} {B : Nat} {x y : Value} (hb : w.heap[B]? = some (.cells #[x, y] 79 (0, 0))) : w.shape? B = some (79, 2) := by
  simp [World.shape?, hb]
theorem x_toU {w : World} {ρ : Operand → Value} {o : Oper} {x : Operand} {B : Nat} {a b : Value} (ho : o.op = .convert 76 116 x) (hx : ρ x = ptr B 0) (hb : w.heap[B]? = some (.cells #[a, b] 79 (0, 0))) : (execOp ρ o).run Tryz.prog w = .ok (.value (ptr B 0)) w := by
  obtain ⟨j, h1, h2⟩ := infoB
  have h := Lib.run_to_unsafe (P := Tryz.prog) (w := w) (src := 76) (dst := 116) ⟨B, 0, none⟩ Tryz.underlying76 Tryz.underlying116 h1 (by rw [h2]; decide) (shapeB hb) (Nat.le_of_ble_eq_true rfl)
  unfold execOp
  simp [ho, hx, h]
theorem x_fromU {w : World} {ρ : Operand → Value} {o : Oper} {x : Operand} {B : Nat} {a b : Value} (ho : o.op = .convert 116 76 x) (hx : ρ x = ptr B 0) (hb : w.heap[B]? = some (.cells #[a, b] 79 (0, 0))) : (execOp ρ o).run Tryz.prog w = .ok (.value (ptr B 0)) w := by
  obtain ⟨j, h1, h2⟩ := infoB
  have h := Lib.run_from_unsafe (P := Tryz.prog) (w := w) (src := 116) (dst := 76) ⟨B, 0, none⟩ Tryz.underlying116 Tryz.underlying76 h1 (shapeB hb) liesB
  unfold execOp
  simp [ho, hx, h]
theorem x_noesc {w : World} {ρ : Operand → Value} {o : Oper} {x : Operand} {ts : Array TypeId} {v : Value} (ho : o.op = .call { callee := .value (.func 74), args := #[x], argTypes := ts }) (hf : ρ (.func 74) = .func (.func 74) #[] #[]) (hx : ρ x = v) :
    (execOp ρ o).run Tryz.prog w = .ok (.value v) w := by
  have h : (callFunc 74 #[v]).run Tryz.prog w = .ok (.value v) w := by
    rw [run_callFunc_extern Tryz.func74 (by kernel_rfl) (by kernel_rfl) (by kernel_rfl) (e := Extern.AbiNoEscape.same) (by kernel_rfl)]
    rfl
  unfold execOp
  simp only [ho, resolve, hf, Sem.run_bind, Deferred.ofValue, Sem.run_pure, Result.andThen_ok, invoke]
  simpa [hx] using h
theorem x_same {w : World} {ρ : Operand → Value} {o : Oper} {x y : Operand} {B : Nat} {u : TypeId} (ho : o.op = .binOp .neq 76 x y u) (hx : ρ x = ptr B 0) (hy : ρ y = ptr B 0) : (execOp ρ o).run Tryz.prog w = .ok (.value (.bool false)) w := by
  obtain ⟨j, h1, h2⟩ := infoB
  have h := Lib.run_neq_ptr_same (P := Tryz.prog) w (tp := 76) ⟨B, 0, none⟩ Tryz.underlying76 h1
  have hg : (eqGuard .neq 76 x y (ptr B 0) (ptr B 0)).run Tryz.prog w = .ok () w := by kernel_rfl
  unfold execOp
  simp only [ho, hx, hy, Sem.run_bind, hg, Result.andThen_ok, h, Sem.run_pure]
theorem slB77 : SL Tryz.prog 77 5 := Tryz.underlying77
theorem strB9 : Tryz.prog.underlying 9 = some .string := Tryz.underlying9
theorem tiB5 : TI Tryz.prog 5 false 1 1 (.int .u8 0) := ⟨by kernel_rfl, by kernel_rfl⟩
theorem Grow.below_of {w0 w1 w2 : World} (g : Grow w0 w1) (h : RowKit.Below w0.heap.size w1 w2) : Grow w0 w2 :=
  ⟨h.os.trans g.os, h.tape.trans g.tape, h.output.trans g.output, Nat.le_trans g.size h.size, fun b hb => (h.block b hb).trans (g.keep b hb)⟩
theorem Bld.is {w : World} {B b : Nat} {l : List UInt8} {c : Hp} (h : Bld b l c) (hc : Le c (hp w)) (hn : ∀ x, c x ≠ none → B ≤ x) : Lib.IsBuilder 79 5 B b (Lib.byteCells l) w := by
  obtain ⟨addr, v, cb, rfl, hd, ha, ho⟩ := h
  have hb : w.heap[b]? = some (.cells #[addr, v] 79 (0, 0)) := hc _ _ (uni_l _ _ _ _ (one_self _ _))
  have hB : B ≤ b := hn b (by rw [uni_l _ _ _ _ (one_self _ _)]; simp)
  have hat : Lib.BuilderAt 79 5 B b addr (Lib.byteCells l) w := by
    refine ⟨hB, v, hb, ?_, ?_⟩
    · rw [Lib.byteCells_length]
      rcases ho with ⟨rfl, hn0, e, _⟩ | ⟨g, cap, cs, rfl, rfl, e, h1, h2, h3⟩
      · exact ⟨by rw [Lib.byteCells_length]; omega, .inl ⟨rfl, hn0⟩⟩
      · refine ⟨by rw [Lib.byteCells_length]; omega, .inr ⟨g, cap, cs, rfl, hn g (by rw [uni_r hd _ _ (one_self _ _)]; simp), hc _ _ (uni_r hd _ _ (one_self _ _)), h1, h3, h2.symm, e.symm⟩⟩
    · rcases ho with ⟨rfl, _⟩ | ⟨g, cap, cs, rfl, rfl, _⟩
      · simp [Value.ownBlock]
      · simp only [Value.ownBlock]
        rintro e
        cases e
        rcases hd b with h | h
        · rw [one_self] at h; cases h
        · rw [one_self] at h; cases h
  rcases ha with rfl | rfl
  · exact .inl hat
  · exact .inr hat
theorem Step.fresh {w0 w : World} {R : Hp} {Lc : List Hp} (h : Step w0 (hp w0) [] w R Lc) {i : Nat} {c : Hp} (hi : Lc[i]? = some c) : ∀ x, c x ≠ none → w0.heap.size ≤ x := by
  intro x hx
  have hm : c ∈ Lc := List.mem_of_getElem? hi
  rcases h.newL c hm x hx with h1 | h1 | ⟨_, h1, _⟩
  · exact h1
  · exfalso
    rcases h.sats.rd c hm x with h2 | h2
    · cases e : hp w0 x with
      | none => exact h1 e
      | some o => rw [h.rle x o e] at h2; cases h2
    · exact hx h2
  · cases h1
theorem Bld.new {w0 w : World} {R0 R : Hp} {L0 Lr : List Hp} {b : Nat} (h : Step w0 R0 L0 w R (one b (.cells #[.pointer none, .slice none 0 0] 79 (0, 0)) :: Lr)) : ∃ c, Step w0 R0 L0 w R (c :: Lr) ∧ Bld b [] c := by
  have h1 := h.nothing.front 1 rfl rfl
  have hdj := (List.pairwise_cons.1 h1.sats.dj).1 _ (List.mem_cons_self ..)
  exact ⟨_, h1.join, _, _, _, rfl, hdj, .inl rfl, OwnS.empty 5 1⟩
end Go.Fx.YtjpdhfhiimbpgaaGreatDoor
set_option linter.unusedSimpArgs false
set_option linter.unusedVariables false
set_option linter.unusedSectionVars false
namespace Go.Fx.YtjpdhfhiimbpgaaGreatDoor
open Go Go.Fx Go.Proofs
set_option maxRecDepth 20000
theorem freeze_setB {w : World} {g n : Nat} {cs : Array Value} {T : TypeId} (hb : w.heap[g]? = some (.cells cs T (0, 0))) (hn : n ≠ 0) : w.freeze ⟨g, 0, none⟩ n = setB w g (.cells cs T (0, n)) := by
  unfold World.freeze setB
  rw [if_neg hn]
  congr 1
  apply Array.ext_getElem?
  intro k
  have hlt := (Array.getElem?_eq_some_iff.1 hb).1
  rw [Array.getElem?_modify, Array.getElem?_setIfInBounds]
  by_cases hk : g = k
  · subst hk
    rw [if_pos rfl, if_pos rfl, if_pos hlt, hb]
    simp
  · rw [if_neg hk, if_neg hk]
theorem Step.freezeB {w0 w : World} {R0 R : Hp} {L0 Lr : List Hp} {g n : Nat} {cs : Array Value} {T : TypeId} (h : Step w0 R0 L0 w R (one g (.cells cs T (0, 0)) :: Lr)) (hn : n ≠ 0) : Step w0 R0 L0 (w.freeze ⟨g, 0, none⟩ n) R (one g (.cells cs T (0, n)) :: Lr) := by
  rw [freeze_setB (h.blk (i := 0) rfl) hn]
  exact h.set0 _
theorem x_usd {P : Program} {w : World} {ρ : Operand → Value} {o : Oper} {x : Operand} {ts : Array TypeId} {a : Addr} {n c : Nat} (ho : o.op = .call { callee := .builtin .unsafeSliceData, args := #[x], argTypes := ts }) (hx : ρ x = .slice (some a) n c) (hc : c ≠ 0) :
    (execOp ρ o).run P w = .ok (.value (.pointer (some a))) w := by
  have h := Lib.run_unsafeSliceData_row (P := P) (w := w) ts o.type a n c hc
  unfold execOp
  simp only [ho, resolve, invoke, List.map_toArray, List.map_cons, List.map_nil, hx, Sem.run_bind, Sem.run_pure, Result.andThen_ok, builtin]
  simp [h]
theorem x_us {w : World} {ρ : Operand → Value} {o : Oper} {x y : Operand} {g : Nat} {cs : Array Value} {l : List UInt8} (ho : o.op = .call { callee := .builtin .unsafeString, args := #[x, y], argTypes := #[113, 3] }) (hx : ρ x = ptr g 0) (hy : ρ y = int (l.length : Int))
    (hb : w.heap[g]? = some (.cells cs 5 (0, 0))) (hc : Lib.byteCells l = cs.toList.take (l.length * 1)) (hle : l.length ≤ cs.size) (h0 : l ≠ []) (h63 : l.length ≤ 140737488355328) :
    (execOp ρ o).run Tryz.prog w = .ok (.value (.string ⟨l.toArray⟩)) (w.freeze ⟨g, 0, none⟩ l.length) := by
  have hp : Tryz.prog.underlying 113 = some (.pointer 5) := Tryz.underlying113
  have hcell : ∀ j x, l[j]? = some x → w.cell? ((⟨g, 0, none⟩ : Addr).add j) = some (.int .u8 x.toNat) := fun j x hj => by
    have hlt : j < l.length := (List.getElem?_eq_some_iff.1 hj).1
    have e : (Lib.byteCells l)[j]? = some (.int .u8 x.toNat) := by unfold Lib.byteCells; rw [List.getElem?_map, hj]; rfl
    rw [add_zero_spot, cell_at hb, Nat.zero_add]
    rw [hc, List.getElem?_take] at e
    split at e
    · simpa using e
    · cases e
  have h := Lib.run_unsafeString_row (P := Tryz.prog) (w := w) 113 3 o.type 5 hp (by kernel_rfl) g cs.size (by simp [World.shape?, hb]) l h0 hle (by omega) hcell
  unfold execOp
  simp only [ho, resolve, invoke, List.map_toArray, List.map_cons, List.map_nil, hx, hy, Sem.run_bind, Sem.run_pure, Result.andThen_ok, builtin]
  simp [h]
theorem Bld.open {B : Nat} {l : List UInt8} {c : Hp} (h : Bld B l c) (h0 : l ≠ []) : ∃ addr g cap cs, c = uni (one B (.cells #[addr, .slice (some ⟨g, 0, none⟩) l.length cap] 79 (0, 0))) (one g (.cells cs 5 (0, 0))) ∧
    Dj (one B (.cells #[addr, .slice (some ⟨g, 0, none⟩) l.length cap] 79 (0, 0))) (one g (.cells cs 5 (0, 0))) ∧ Lib.byteCells l = cs.toList.take (l.length * 1) ∧ l.length ≤ cs.size ∧ cap ≠ 0 := by
  obtain ⟨addr, v, cb, rfl, hd, ha, ho⟩ := h
  have hl : l.length ≠ 0 := by simpa using h0
  rcases ho with ⟨rfl, hn0, _⟩ | ⟨g, cap, cs, rfl, rfl, e, h1, h2, h3⟩
  · exact absurd hn0 hl
  · exact ⟨addr, g, cap, cs, rfl, hd, e, by omega, by omega⟩
end Go.Fx.YtjpdhfhiimbpgaaGreatDoor
set_option linter.unusedSimpArgs false
set_option linter.unusedVariables false
set_option linter.unusedSectionVars false
namespace Go.Fx
open Go
section
variable {α : Type} {ty : Ty α} {P : Program} {w w0 : World} {R R0 : Hp} {L0 Lr : List Hp} {t e : TypeId} {agg : Bool} {sz bytes : Nat} {z v y : Value} {xs ys : List α} {c : Hp}
theorem run_sliceLo {k len cap : Nat} {a : Option Addr} (hu : SL P t e) (he : TI P e agg sz bytes z) (hk : k ≤ len) (hc : len ≤ cap) :
    (Instr.slice t (.slice a len cap) (some (int (k : Int))) none none).run P w = .ok (.slice (if cap = k then a else a.map (·.add (k * sz))) (len - k) (cap - k)) w := by
  unfold Instr.slice
  simp only [Sem.run_bind, run_underlying hu, Result.andThen_ok]
  have h1 : ∀ b, k ≤ b → (Instr.sliceBound (int (k : Int)) b .sliceB).run P w = .ok k w := by
    intro b hb
    unfold Instr.sliceBound
    simp [asIntOf, hb]
  have h2 : (Instr.sliceBounds true len cap (some (int (k : Int))) none none).run P w = .ok (k, len, cap) w := by
    unfold Instr.sliceBounds
    simp [h1 _ hk]
  simp only [h2, Result.andThen_ok, he.run_size, Sem.run_pure, Sem.run_bind]
theorem RdS.dropK {k cap : Nat} {a : Option Addr} (h : RdS ty R (.slice a xs.length cap) xs) (hk : k ≤ xs.length) : RdS ty R (.slice (if cap = k then a else a.map (·.add (k * ty.sz))) (xs.length - k) (cap - k)) (xs.drop k) := by
  obtain ⟨a', cap', e, hc, h⟩ := h
  cases e
  refine ⟨_, _, by rw [List.length_drop], by rw [List.length_drop]; omega, fun hne => ?_⟩
  have hlt : k < xs.length := by
    rcases Nat.lt_or_ge k xs.length with h1 | h1
    · exact h1
    · exact absurd (List.drop_eq_nil_of_le h1) hne
  have hx : xs ≠ [] := by rintro rfl; simp at hlt
  obtain ⟨b, off, cs, T, fz, rfl, hb, he⟩ := h hx
  refine ⟨b, off + k * ty.sz, cs, T, fz, by rw [if_neg (by omega)]; simp [Addr.add], hb, ?_⟩
  have h2 := he.drop k
  have e : (seg cs off (xs.length * ty.sz)).drop (k * ty.sz) = seg cs (off + k * ty.sz) ((xs.drop k).length * ty.sz) := by
    simp only [seg, List.length_drop, List.drop_take, List.drop_drop]
    rw [Nat.mul_sub_right_distrib]
  rw [e] at h2
  exact h2
theorem RdS.takeK {k cap : Nat} {a : Option Addr} (h : RdS ty R (.slice a xs.length cap) xs) (hk : k ≤ xs.length) : RdS ty R (.slice a k cap) (xs.take k) := by
  obtain ⟨a', cap', e, hc, h'⟩ := h.take k hk
  cases e
  exact h'
/-- append of what has long been read, and of what is one's own. -/
theorem run_appendM {tt : TypeId} (hu : SL P t e) (he : TI P e agg ty.sz bytes z) (hz : z.cells.size = ty.sz) (how : OwnL ty e R v xs c) (hst : Step w0 R0 L0 w R (c :: Lr)) (hy : RdS ty R y ys) (hR : Le R (hp w))
    (hroom : (xs.length + ys.length) * bytes ≤ 2 ^ 47) (hmax : xs.length + ys.length ≤ maxLen) :
    ∃ v' c' w', (Builtin.append_ #[t, t] tt #[v, y]).run P w = .ok v' w' ∧ OwnL ty e R v' (xs ++ ys) c' ∧ Step w0 R0 L0 w' R (c' :: Lr) := by
  have hy0 := hy
  obtain ⟨a, cap, rfl, hc, h⟩ := hy
  obtain ⟨cells, h1, h2⟩ := how
  cases a with
  | none =>
    have hn := RdS.nil hy0
    subst hn
    exact ⟨v, c, w, run_append_zero hu he h1, ⟨cells, by simpa using h1, by simpa using h2⟩, hst⟩
  | some a =>
    obtain ⟨src, hs2, hsrc⟩ := RdS.src hy0 hR
    obtain ⟨v', c', w', hr, ho', hst'⟩ := run_append (ty := tt) (cap2 := cap) hu he hz h1 hst hs2.len hsrc hs2.ones hroom hmax
    exact ⟨v', c', w', hr, ⟨cells ++ src, by simpa using ho', h2.append hs2⟩, hst'⟩
theorem run_appendO {tt : TypeId} {c2 : Hp} (hu : SL P t e) (he : TI P e agg ty.sz bytes z) (hz : z.cells.size = ty.sz) (how : OwnL ty e R v xs c) (hst : Step w0 R0 L0 w R (c :: Lr)) (hy : OwnL ty e R y ys c2) (hR : Le c2 (hp w))
    (hroom : (xs.length + ys.length) * bytes ≤ 2 ^ 47) (hmax : xs.length + ys.length ≤ maxLen) :
    ∃ v' c' w', (Builtin.append_ #[t, t] tt #[v, y]).run P w = .ok v' w' ∧ OwnL ty e R v' (xs ++ ys) c' ∧ Step w0 R0 L0 w' R (c' :: Lr) := by
  obtain ⟨cs2, g1, g2⟩ := hy
  obtain ⟨cells, h1, h2⟩ := how
  rcases g1 with ⟨rfl, hn, rfl, rfl⟩ | ⟨b, cap, cs, rfl, rfl, rfl, hc, hs, hm⟩
  · have hx : ys = [] := List.eq_nil_of_length_eq_zero hn
    subst hx
    exact ⟨v, c, w, run_append_zero hu he h1, ⟨cells, by simpa using h1, by simpa using h2⟩, hst⟩
  · have hb : w.heap[b]? = some (.cells cs e (0, 0)) := hR b _ (one_self _ _)
    have hl := g2.len
    obtain ⟨v', c', w', hr, ho', hst'⟩ := run_append (ty := tt) (cap2 := cap) (a := ⟨b, 0, none⟩) hu he hz h1 hst hl (fun j u hj => by
      have hlt : j < (cs.toList.take (ys.length * ty.sz)).length := (List.getElem?_eq_some_iff.1 hj).1
      rw [add_zero_spot, cell_at hb]
      rw [List.getElem?_take] at hj
      split at hj
      · simpa using hj
      · cases hj) g2.ones hroom hmax
    exact ⟨v', c', w', hr, ⟨_, by simpa using ho', h2.append g2⟩, hst'⟩
variable {ρ : Operand → Value} {o : Oper} {x h1 : Operand}
theorem x_sliceLo {b v' : Value} (ho : o.op = .slice t x (some h1) none none) (hx : ρ x = v) (hh : ρ h1 = b) (hu : SL P t e) (h : (Instr.slice t v (some b) none none).run P w = .ok v' w) : (execOp ρ o).run P w = .ok (.value v') w := by
  unfold execOp
  simp [ho, hx, hh, Instr.sliceAt, run_underlying hu, h]
end
end Go.Fx
set_option linter.unusedSimpArgs false
set_option linter.unusedVariables false
namespace Go.Fx.YtjpdhfhiimbpgaaGreatDoor
open Go Go.Fx Go.Proofs
set_option maxRecDepth 20000
theorem ent_63 : Ent Tryz.prog 63 := fun _ _ => by kernel_rfl
theorem sl_77 : SL Tryz.prog 77 5 := Tryz.underlying77
theorem ti_76 : TI Tryz.prog 76 false 1 8 (.pointer none) := ⟨by kernel_rfl, by kernel_rfl⟩
theorem ti_77 : TI Tryz.prog 77 false 1 24 (.slice none 0 0) := ⟨by kernel_rfl, by kernel_rfl⟩
theorem WriteString_new {w : World} {R cb : Hp} {B : Nat} {l : List UInt8} {a : Option Addr} {cap : Nat} (t : ByteArray) (hs : Sats w R [uni (one B (.cells #[(.pointer none), .slice a l.length cap] 79 (0, 0))) cb]) (hd : Dj (one B (.cells #[(.pointer none), .slice a l.length cap] 79 (0, 0))) cb) (ho : OwnS 5 1 (.slice a l.length cap) l.length (Lib.byteCells l) cb) (hroom : l.length + t.size ≤ 140737488355328) :
    Calls Tryz.prog 40 #[ptr B 0, .string t] w (Comes' w R [uni (one B (.cells #[(.pointer none), .slice a l.length cap] 79 (0, 0))) cb] fun v' R' L' => ∃ c', v' = .tuple #[int (t.size : Int), .nilIface] ∧ L' = [c'] ∧ Bld B (l ++ bts t) c') := by
 have hst := (Step.refl hs).split hd
 refine calls_of_W (n := 19) Tryz.func40 rfl Tryz.ntmps40 (Nat.le_of_ble_eq_true rfl) ?_
 refine W_seq ?_
 refine W_region_lit ?_
 refine Lq (int 0) rfl rfl rfl rfl ?_
 refine Lq .nilIface rfl rfl rfl rfl ?_
 refine L_nil ?_
 refine W_seq ?_
 refine W_region_lit ?_
 refine Lq (ptr B 0) rfl rfl rfl rfl ?_
 refine L_call rfl rfl rfl (x_call (vs := #[(ptr B 0)]) rfl rfl (by kernel_rfl) ent_63) ?_ (fun _ _ h => h)
 refine calls_of_W (n := 20) Tryz.func63 rfl Tryz.ntmps63 (Nat.le_of_ble_eq_true rfl) ?_
 refine W_seq ?_
 refine W_region_lit ?_
 refine Lq (ptr B 0) rfl rfl rfl rfl ?_
 refine Lq (ptr B 0) rfl rfl rfl rfl ?_
 refine Lq (ptr B 0) rfl rfl rfl (by kernel_rfl) ?_
 refine Lq (.pointer none) rfl rfl rfl (x_load rfl rfl (run_loadVar_one ti_76 (hst.b 0) rfl)) ?_
 refine Lq (.bool true) rfl rfl rfl (by kernel_rfl) ?_
 refine L_nil ?_
 refine W_cond_true (by show Value.bool _ = _; exact congrArg Value.bool rfl) ?_
 refine W_region_lit ?_
 refine Lq (ptr B 0) rfl rfl rfl rfl ?_
 refine Lq (ptr B 0) rfl rfl rfl rfl ?_
 refine L_val (v := (ptr B 0)) (w' := w) rfl rfl rfl (x_toU rfl rfl (hst.b 0)) ?_
 refine L_val (v := (ptr B 0)) (w' := w) rfl rfl rfl (x_noesc rfl rfl rfl) ?_
 refine L_val (v := (ptr B 0)) (w' := w) rfl rfl rfl (x_fromU rfl rfl (hst.b 0)) ?_
 refine Lq (ptr B 0) rfl rfl rfl rfl ?_
 refine Lq (ptr B 0) rfl rfl rfl (by kernel_rfl) ?_
 refine L_store hst 0 ti_76 rfl rfl rfl rfl rfl rfl rfl rfl rfl rfl rfl (fun w1 hst2 => ?_)
 change Step _ _ _ _ _ [one B (.cells #[(ptr B 0), (.slice a l.length cap)] 79 (0, 0)), cb] at hst2
 refine L_nil ?_
 refine ⟨_, _, res_run (rs := []) (vs := []) Tryz.results63 .nil rfl, ?_⟩
 refine ⟨_, rfl, ?_⟩
 refine L_nil ?_
 refine W_seq ?_
 refine W_region_lit ?_
 refine Lq (ptr B 0) rfl rfl rfl rfl ?_
 refine Lq (ptr B 0) rfl rfl rfl rfl ?_
 refine Lq (ptr B 0) rfl rfl rfl rfl ?_
 refine Lq (ptr B 1) rfl rfl rfl (by kernel_rfl) ?_
 refine Lq (.slice a l.length cap) rfl rfl rfl (x_load rfl rfl (run_loadVar_one ti_77 (hst2.b 0) rfl)) ?_
 refine Lq (.string t) rfl rfl rfl rfl ?_
 refine L_appendStr hst2 (s := t) 1 rfl rfl rfl rfl rfl rfl slB77 strB9 tiB5 rfl rfl ho hroom (fun v3 c4 w5 ho6 hst7 => ?_)
 obtain ⟨a8, cap9, rfl⟩ := OwnS_shape ho6
 refine Lq (ptr B 0) rfl rfl rfl rfl ?_
 refine Lq (ptr B 1) rfl rfl rfl (by kernel_rfl) ?_
 refine L_store hst7 1 ti_77 rfl rfl rfl rfl rfl rfl rfl rfl rfl rfl rfl (fun w10 hst11 => ?_)
 change Step _ _ _ _ _ [c4, one B (.cells #[(ptr B 0), (.slice a8 (l.length + t.size) cap9)] 79 (0, 0))] at hst11
 refine L_nil ?_
 refine W_seq ?_
 refine W_region_lit ?_
 refine Lq (.string t) rfl rfl rfl rfl ?_
 refine Lq (int (t.size : Int)) rfl rfl rfl (x_len_string rfl (by kernel_rfl) rfl) ?_
 refine Lq (int (t.size : Int)) rfl rfl rfl rfl ?_
 refine Lq .nilIface rfl rfl rfl rfl ?_
 refine L_nil ?_
 refine W_ret ?_
 refine ⟨_, _, res_run (rs := [.tmp 4, .tmp 5]) (vs := [(int (t.size : Int)), .nilIface]) Tryz.results40 (.cons (.tmp rfl) (.cons (.tmp rfl) .nil)) rfl, ?_⟩
 have hsz : l.length + t.size = (l ++ bts t).length := by rw [List.length_append, bts_len]
 have hf := (hst11.front 1 rfl rfl)
 have hdj := (List.pairwise_cons.1 hf.sats.dj).1 _ (List.mem_cons_self ..)
 exact ⟨_, _, _, rfl, hf.join.keepN 1 rfl, _, rfl, rfl, ptr B 0, _, _, rfl, hdj, .inr rfl, by rw [Lib.byteCells_append, ← hsz]; exact ho6⟩
theorem WriteString_old {w : World} {R cb : Hp} {B : Nat} {l : List UInt8} {a : Option Addr} {cap : Nat} (t : ByteArray) (hs : Sats w R [uni (one B (.cells #[(ptr B 0), .slice a l.length cap] 79 (0, 0))) cb]) (hd : Dj (one B (.cells #[(ptr B 0), .slice a l.length cap] 79 (0, 0))) cb) (ho : OwnS 5 1 (.slice a l.length cap) l.length (Lib.byteCells l) cb) (hroom : l.length + t.size ≤ 140737488355328) :
    Calls Tryz.prog 40 #[ptr B 0, .string t] w (Comes' w R [uni (one B (.cells #[(ptr B 0), .slice a l.length cap] 79 (0, 0))) cb] fun v' R' L' => ∃ c', v' = .tuple #[int (t.size : Int), .nilIface] ∧ L' = [c'] ∧ Bld B (l ++ bts t) c') := by
 have hst := (Step.refl hs).split hd
 refine calls_of_W (n := 19) Tryz.func40 rfl Tryz.ntmps40 (Nat.le_of_ble_eq_true rfl) ?_
 refine W_seq ?_
 refine W_region_lit ?_
 refine Lq (int 0) rfl rfl rfl rfl ?_
 refine Lq .nilIface rfl rfl rfl rfl ?_
 refine L_nil ?_
 refine W_seq ?_
 refine W_region_lit ?_
 refine Lq (ptr B 0) rfl rfl rfl rfl ?_
 refine L_call rfl rfl rfl (x_call (vs := #[(ptr B 0)]) rfl rfl (by kernel_rfl) ent_63) ?_ (fun _ _ h => h)
 refine calls_of_W (n := 20) Tryz.func63 rfl Tryz.ntmps63 (Nat.le_of_ble_eq_true rfl) ?_
 refine W_seq ?_
 refine W_region_lit ?_
 refine Lq (ptr B 0) rfl rfl rfl rfl ?_
 refine Lq (ptr B 0) rfl rfl rfl rfl ?_
 refine Lq (ptr B 0) rfl rfl rfl (by kernel_rfl) ?_
 refine Lq (ptr B 0) rfl rfl rfl (x_load rfl rfl (run_loadVar_one ti_76 (hst.b 0) rfl)) ?_
 refine Lq (.bool false) rfl rfl rfl (by kernel_rfl) ?_
 refine L_nil ?_
 refine W_cond_false (by show Value.bool _ = _; exact congrArg Value.bool rfl) ?_
 refine W_seq ?_
 refine W_region_lit ?_
 refine Lq (ptr B 0) rfl rfl rfl rfl ?_
 refine Lq (ptr B 0) rfl rfl rfl rfl ?_
 refine Lq (ptr B 0) rfl rfl rfl (by kernel_rfl) ?_
 refine Lq (ptr B 0) rfl rfl rfl (x_load rfl rfl (run_loadVar_one ti_76 (hst.b 0) rfl)) ?_
 refine Lq (ptr B 0) rfl rfl rfl rfl ?_
 refine L_val (v := (.bool false)) (w' := w) rfl rfl rfl (x_same rfl rfl rfl) ?_
 refine L_nil ?_
 refine W_cond_false (by show Value.bool _ = _; exact congrArg Value.bool rfl) ?_
 refine W_skip ?_
 refine ⟨_, _, res_run (rs := []) (vs := []) Tryz.results63 .nil rfl, ?_⟩
 refine ⟨_, rfl, ?_⟩
 refine L_nil ?_
 refine W_seq ?_
 refine W_region_lit ?_
 refine Lq (ptr B 0) rfl rfl rfl rfl ?_
 refine Lq (ptr B 0) rfl rfl rfl rfl ?_
 refine Lq (ptr B 0) rfl rfl rfl rfl ?_
 refine Lq (ptr B 1) rfl rfl rfl (by kernel_rfl) ?_
 refine Lq (.slice a l.length cap) rfl rfl rfl (x_load rfl rfl (run_loadVar_one ti_77 (hst.b 0) rfl)) ?_
 refine Lq (.string t) rfl rfl rfl rfl ?_
 refine L_appendStr hst (s := t) 1 rfl rfl rfl rfl rfl rfl slB77 strB9 tiB5 rfl rfl ho hroom (fun v1 c2 w3 ho4 hst5 => ?_)
 obtain ⟨a6, cap7, rfl⟩ := OwnS_shape ho4
 refine Lq (ptr B 0) rfl rfl rfl rfl ?_
 refine Lq (ptr B 1) rfl rfl rfl (by kernel_rfl) ?_
 refine L_store hst5 1 ti_77 rfl rfl rfl rfl rfl rfl rfl rfl rfl rfl rfl (fun w8 hst9 => ?_)
 change Step _ _ _ _ _ [c2, one B (.cells #[(ptr B 0), (.slice a6 (l.length + t.size) cap7)] 79 (0, 0))] at hst9
 refine L_nil ?_
 refine W_seq ?_
 refine W_region_lit ?_
 refine Lq (.string t) rfl rfl rfl rfl ?_
 refine Lq (int (t.size : Int)) rfl rfl rfl (x_len_string rfl (by kernel_rfl) rfl) ?_
 refine Lq (int (t.size : Int)) rfl rfl rfl rfl ?_
 refine Lq .nilIface rfl rfl rfl rfl ?_
 refine L_nil ?_
 refine W_ret ?_
 refine ⟨_, _, res_run (rs := [.tmp 4, .tmp 5]) (vs := [(int (t.size : Int)), .nilIface]) Tryz.results40 (.cons (.tmp rfl) (.cons (.tmp rfl) .nil)) rfl, ?_⟩
 have hsz : l.length + t.size = (l ++ bts t).length := by rw [List.length_append, bts_len]
 have hf := (hst9.front 1 rfl rfl)
 have hdj := (List.pairwise_cons.1 hf.sats.dj).1 _ (List.mem_cons_self ..)
 exact ⟨_, _, _, rfl, hf.join.keepN 1 rfl, _, rfl, rfl, ptr B 0, _, _, rfl, hdj, .inr rfl, by rw [Lib.byteCells_append, ← hsz]; exact ho4⟩
theorem WriteString_spec {w : World} {R c : Hp} {B : Nat} {l : List UInt8} (t : ByteArray) (hs : Sats w R [c]) (h : Bld B l c) (hroom : l.length + t.size ≤ 140737488355328) :
    Calls Tryz.prog 40 #[ptr B 0, .string t] w (Comes' w R [c] fun v' R' L' => ∃ c', v' = .tuple #[int (t.size : Int), .nilIface] ∧ L' = [c'] ∧ Bld B (l ++ bts t) c') := by
  obtain ⟨addr, v, cb, rfl, hd, ha, ho⟩ := h
  obtain ⟨a, cap, rfl⟩ := OwnS_shape ho
  rcases ha with rfl | rfl
  · exact WriteString_new t hs hd ho hroom
  · exact WriteString_old t hs hd ho hroom
theorem String_spec {w : World} {R c : Hp} {B : Nat} {l : List UInt8} (hs : Sats w R [c]) (h : Bld B l c) (h0 : l ≠ []) (hroom : l.length ≤ 140737488355328) :
    Calls Tryz.prog 44 #[ptr B 0] w (Comes' w R [c] fun v' R' L' => v' = .string ⟨l.toArray⟩ ∧ ∃ c', L' = [c']) := by
 obtain ⟨addr, g, cap, cs, rfl, hd, hbc, hle, hcap⟩ := h.open h0
 have hst := (Step.refl hs).split hd
 refine calls_of_W (n := 14) Tryz.func44 rfl Tryz.ntmps44 (Nat.le_of_ble_eq_true rfl) ?_
 refine W_seq ?_
 refine W_region_lit ?_
 refine Lq (.string ⟨#[]⟩) rfl rfl rfl rfl ?_
 refine L_nil ?_
 refine W_seq ?_
 refine W_region_draw [] (fun w => Le R (hp w) ∧ Le (one B (.cells #[addr, (.slice (some ⟨g, 0, none⟩) l.length cap)] 79 (0, 0))) (hp w)) hmix (by decide +kernel) (fun _ _ h => h) ?_
 have hst2 := hst.draws (w.drawn + 1)
 generalize draws w (w.drawn + 1) = w1 at hst2 ⊢
 refine LP (ptr B 0) 0 rfl rfl rfl (fun u4 => rfl) ⟨hst2.rle', hst2.g 0⟩ ?_
 refine LP (ptr B 0) 1 rfl rfl rfl (fun u7 => rfl) ⟨hst2.rle', hst2.g 0⟩ ?_
 refine LP (ptr B 1) 2 rfl rfl rfl (fun u10 => (by kernel_rfl)) ⟨hst2.rle', hst2.g 0⟩ ?_
 refine LT (.slice (some ⟨g, 0, none⟩) l.length cap) 3 rfl rfl rfl (fun u13 hF14 => (x_load rfl rfl (run_loadVar_one ti_77 (hF14.2 _ _ (one_self _ _)) rfl))) ⟨hst2.rle', hst2.g 0⟩ ?_
 refine LT (ptr g 0) 4 rfl rfl rfl (fun u16 hF17 => (x_usd rfl rfl hcap)) ⟨hst2.rle', hst2.g 0⟩ ?_
 refine LP (ptr B 0) 5 rfl rfl rfl (fun u19 => rfl) ⟨hst2.rle', hst2.g 0⟩ ?_
 refine LP (ptr B 0) 6 rfl rfl rfl (fun u22 => rfl) ⟨hst2.rle', hst2.g 0⟩ ?_
 refine LP (ptr B 1) 7 rfl rfl rfl (fun u25 => (by kernel_rfl)) ⟨hst2.rle', hst2.g 0⟩ ?_
 refine LT (.slice (some ⟨g, 0, none⟩) l.length cap) 8 rfl rfl rfl (fun u28 hF29 => (x_load rfl rfl (run_loadVar_one ti_77 (hF29.2 _ _ (one_self _ _)) rfl))) ⟨hst2.rle', hst2.g 0⟩ ?_
 refine LT (int (l.length : Int)) 9 rfl rfl rfl (fun u31 hF32 => (x_len_slice rfl sl_77 rfl)) ⟨hst2.rle', hst2.g 0⟩ ?_
 refine LA_all [10] (by decide +kernel) (by simp) ?_
 intro i_ hi_
 simp only [List.mem_cons, List.not_mem_nil, or_false] at hi_
 subst hi_
 have hst37 := (hst2.front 1 rfl rfl)
 have hst36 := Step.freezeB (n := l.length) hst37 (by simpa using h0)
 refine One_val (i := 10) (v := .string ⟨l.toArray⟩) rfl rfl rfl (Want.plain rfl) (x_us rfl rfl rfl (hst37.b 0) hbc hle h0 hroom) (fun _ => ⟨hst36.rle', hst36.g 1⟩) ?_
 refine LP (.string ⟨l.toArray⟩) 11 rfl rfl rfl (fun u39 => rfl) ⟨hst36.rle', hst36.g 1⟩ ?_
 refine LA_done (by decide +kernel) ?_
 refine W_ret ?_
 refine ⟨_, _, res_run (rs := [.tmp 2]) (vs := [(.string ⟨l.toArray⟩)]) Tryz.results44 (.cons (.tmp rfl) .nil) rfl, ?_⟩
 exact ⟨_, _, _, rfl, ((hst36.front 1 rfl rfl)).join, rfl, _, rfl⟩
end Go.Fx.YtjpdhfhiimbpgaaGreatDoor
set_option linter.unusedSimpArgs false
set_option linter.unusedVariables false
set_option linter.unusedSectionVars false
namespace Go.Fx.YtjpdhfhiimbpgaaGreatDoor
open Go Go.Fx Go.Proofs
set_option maxRecDepth 20000
theorem Itoa_G {w : World} {n : Int} (h0 : 0 ≤ n) (h1 : n < 100) : Calls Tryz.prog 41 #[int n] w fun e w' => e = .returned (.string (dec n)) ∧ Grow w w' := by
  obtain ⟨k, rfl⟩ : ∃ k : Nat, n = (k : Int) := ⟨n.toNat, by omega⟩
  refine (Tryz.strconv_Itoa_small k (by omega) w).mono ?_
  rintro e w' ⟨rfl, rfl⟩
  exact ⟨rfl, Grow.refl _⟩
theorem Join_G {w : World} {R c : Hp} {v : Value} {xs : List Str} {T : Nat} (h : OwnL Ty.str T R v xs c) (hc : Le c (hp w)) (hl : xs.length ≤ 1048576) (hlen : (joinS xs).size ≤ 140737488355328) :
    Calls Tryz.prog 43 #[v, .string ⟨#[32]⟩] w fun e w' => e = .returned (.string (joinS xs)) ∧ Grow w w' := by
  by_cases hx : xs = []
  · subst hx
    obtain ⟨a, cap, rfl, _⟩ := h.value
    refine (Tryz.strings_Join_none a cap ⟨#[32]⟩ w).mono ?_
    rintro e w' ⟨rfl, rfl⟩
    exact ⟨rfl, Grow.refl _⟩
  · obtain ⟨b, cap, rfl, hcap, hb, hcells⟩ := h.strCells hc (List.length_pos_iff.2 hx)
    refine (Tryz.strings_Join b 0 cap xs ⟨#[32]⟩ w hcells hb (by omega) hcap hlen).mono ?_
    rintro e w' ⟨rfl, hg⟩
    exact ⟨rfl, Go.Fx.YtjpdhfhiimbpgaaGreatDoor.Grow.below_of (Go.Fx.Grow.refl _) hg⟩
theorem size_app_le {a b : ByteArray} {n m : Nat} (h : a.size ≤ n) (k : b.size ≤ m) : (a ++ b).size ≤ n + m := by rw [size_append]; omega
theorem lks_len (m : List (Stp × Int)) (k : Int) : (lks m k).length ≤ m.length := by
  rw [(lks_perm m k).length_eq]
  unfold lkB
  rw [List.length_map]
  exact List.length_filter_le _ _
theorem joinS_size {l : List Str} {b : Nat} (h : ∀ x ∈ l, x.size ≤ b) : (joinS l).size ≤ (b + 1) * l.length := by
  have := join_le (l.map bts) (b := b) (fun x hx => by
    obtain ⟨y, hy, rfl⟩ := List.mem_map.1 hx
    rw [bts_len]; exact h y hy)
  rw [List.length_map] at this
  simpa [joinS, ByteArray.size] using this
variable {s : TS} (hw : WF s) (hn : Nice s)
include hw hn
theorem lks_ok {k : Int} {e : Lk} (h : e ∈ lks s.next k) : e.1.size ≤ 16 ∧ 0 ≤ e.2 ∧ e.2 < 100 := by
  have hm := lks_of h
  have h1 := hn.keys _ hm
  obtain ⟨j, h2, h3⟩ := hw.next _ hm
  have := hn.nodes
  refine ⟨h1, ?_, ?_⟩
  · simp only at h2; omega
  · simp only at h2; omega
theorem ali_ok {k : Nat} (hk : k < s.nodes.length) : s.nodes[k].ali < 100 := by
  obtain ⟨d, c, hc⟩ := hw.can k hk
  have := hn.nodes
  cases hc with
  | here _ h => omega
  | step _ h hc => have := hc.fst; omega
theorem root_ok {r : Int} (h : r ∈ s.roots) : 0 ≤ r ∧ r < 100 := by
  obtain ⟨k, rfl, h2⟩ := hw.root r h
  have := hn.nodes
  omega
theorem words_ok {k : Nat} (hk : k < s.nodes.length) : (wordsN s.next k s.nodes[k]).length ≤ 1073 ∧ ∀ t ∈ wordsN s.next k s.nodes[k], t.size ≤ 32 := by
  have hx : s.nodes[k] ∈ s.nodes := List.getElem_mem hk
  have h1 := hn.names _ hx
  have h2 := hn.sizes _ hx
  have h3 := hn.cls _ hx
  have h4 := ali_ok hw hn hk
  have h5 := hn.nodes
  have h6 := lks_len s.next (k : Int)
  have h7 := hn.next
  have hk2 := dec_size (n := (k : Int)) (by omega) (by omega)
  have hc2 := dec_size h3.1 h3.2
  constructor
  · unfold wordsN
    split <;> simp <;> omega
  · intro t ht
    unfold wordsN at ht
    rcases List.mem_append.1 ht with ht | ht
    · rcases List.mem_append.1 ht with ht | ht
      · rcases List.mem_cons.1 ht with rfl | ht
        · omega
        · obtain rfl := List.mem_singleton.1 ht; omega
      · have := h2 t ht; omega
    · split at ht
      · rename_i ha
        rcases List.mem_cons.1 ht with rfl | ht
        · decide
        · obtain rfl := List.mem_singleton.1 ht
          have := dec_size ha h4; omega
      · rcases List.mem_append.1 ht with ht | ht
        · obtain rfl := List.mem_singleton.1 ht; decide
        · obtain ⟨e, he, rfl⟩ := List.mem_map.1 ht
          obtain ⟨g1, g2, g3⟩ := lks_ok hw hn he
          have g4 := dec_size g2 g3
          have g5 : sCo.size ≤ 1 := by decide
          exact Nat.le_trans (size_app_le (size_app_le g1 g5) g4) (by decide)
theorem line_size {k : Nat} (hk : k < s.nodes.length) : (joinS (wordsN s.next k s.nodes[k])).size ≤ 35409 := by
  obtain ⟨h1, h2⟩ := words_ok hw hn hk
  have := joinS_size h2
  omega
theorem rootsT_len {k : Nat} (hk : k ≤ s.roots.length) : (rootsT s.roots k).length ≤ 5 + 3 * k := by
  induction k with
  | zero => rw [rootsT_zero]; decide
  | succ k ih =>
    have ih := ih (by omega)
    rw [rootsT_succ (by omega), List.length_append, bts_len]
    obtain ⟨g1, g2⟩ := root_ok hw hn (List.getElem_mem (l := s.roots) (n := k) (by omega))
    have g4 := dec_size g1 g2
    have g5 : sSp.size ≤ 1 := by decide
    have := size_app_le g5 g4
    omega
theorem linesT_len {k : Nat} (hk : k ≤ s.nodes.length) : (linesT s k).length ≤ 400 + 35410 * k := by
  induction k with
  | zero =>
    rw [linesT_zero, List.length_append, bts_len]
    have h1 := rootsT_len hw hn (Nat.le_refl _)
    have h2 := hn.roots
    have h3 : sNl.size ≤ 1 := by decide
    omega
  | succ k ih =>
    have ih := ih (by omega)
    rw [linesT_succ (by omega) rfl, List.length_append, bts_len]
    have h1 := line_size hw hn (k := k) (by omega)
    have h3 : sNl.size ≤ 1 := by decide
    have := size_app_le h1 h3
    unfold lineN
    omega
omit hw hn
theorem linesT_ne {k : Nat} : linesT s k ≠ [] := by
  intro h
  have := congrArg List.length h
  unfold linesT at this
  rw [List.length_append, List.length_append] at this
  have h3 : (bts sNl).length = 1 := by decide
  simp only [List.length_nil] at this
  omega
/-- The tree at p as Text reads it. -/
def TreeM (R : Hp) (p : Nat) (s : TS) : Prop :=
  ∃ vN vR bm cM, Le (treeB p vN vR (some bm)) R ∧ RdS tyNd R vN s.nodes ∧ RdS Ty.int R vR s.roots ∧ MapC kS vI (some bm) s.next cM ∧ Le cM R ∧ WF s ∧ Nice s ∧ Small s.nodes
theorem Tree.viewM {R c : Hp} {p : Nat} {w : World} (h : Tree R p s c) (hc : Le c (hp w)) (hR : Le R (hp w)) (hne : s.nodes ≠ []) (hn : Nice s) : TreeM (hp w) p s := by
  obtain ⟨vN, vR, bm, cN, cR, cM, rfl, h1, h2, h3, hN, hRs, hM, hw, hs, hr, hb⟩ := h
  have e1 := (uni_l _ _).trans hc
  have e2 := (uni_r h1).trans hc
  cases bm with
  | none => exact absurd (hb rfl) hne
  | some bm => exact ⟨vN, vR, bm, cM, e1, hN.freeze hR ((tri_1 _ _ _).trans e2), hRs.freeze hR ((tri_2 h2).trans e2), hM, (tri_3 h2 h3).trans e2, hw, hn, hs⟩
/-- Builders of longer texts. -/
theorem Bld.app {B : Nat} {l m : List UInt8} {c : Hp} (h : Bld B l c) (e : l = m) : Bld B m c := e ▸ h
end Go.Fx.YtjpdhfhiimbpgaaGreatDoor
set_option linter.unusedSimpArgs false
set_option linter.unusedVariables false
set_option linter.unusedSectionVars false
namespace Go.Fx.YtjpdhfhiimbpgaaGreatDoor
open Go Go.Fx Go.Proofs
set_option maxRecDepth 20000
theorem ret_N {P : Program} {n : Nat} {σ : Fr} {w w0 : World} {R R0 : Hp} {L0 Lr : List Hp} {fn : Func} {rs : List ResultVar} {vs : List Value} {Ds : List Nat} {c : Hp} {post : Value → World → Prop} (hr : fn.results = rs.toArray) (h : ∀ w2, Res P σ w2 rs vs)
    (hst : Step w0 R0 L0 w R (c :: Lr)) (hd : Defs Ds c) (h0 : mks (σ 0) = Ds) (hp : ∀ w', Step w0 R0 L0 w' R Lr → post (retV vs) w') : ∃ v w', (∀ a, Rel n a σ → Leaves P fn a w v w') ∧ post v w' := by
  obtain ⟨w', h1, h2⟩ := res_runN (n := n) hr h hst hd h0
  exact ⟨_, w', h2, hp w' h1⟩
theorem strs_mk2 (R : Hp) (a b : Str) : Encs Ty.str R [a, b] [.string a, .string b] := (Encs.one (t := Ty.str) (x := a) rfl).append (Encs.one (t := Ty.str) (x := b) rfl)
theorem words_yes {m : List (Stp × Int)} {k : Nat} {x : Nd} (h : x.ali ≥ 0) : (([dec (k : Int), dec x.cls] ++ x.names) ++ [⟨#[61]⟩, dec x.ali]) = wordsN m k x := by
  unfold wordsN
  rw [if_pos h]
  rfl
theorem words_no {m : List (Stp × Int)} {k : Nat} {x : Nd} (h : ¬ x.ali ≥ 0) : ((([dec (k : Int), dec x.cls] ++ x.names) ++ [⟨#[62]⟩]) ++ (lks m (k : Int)).map stepW) = wordsN m k x := by
  unfold wordsN
  rw [if_neg h, List.append_assoc]
  rfl
theorem Bld.same {B : Nat} {l m : List UInt8} {c : Hp} (h : Bld B l c) (e : l = m) : Bld B m c := e ▸ h
end Go.Fx.YtjpdhfhiimbpgaaGreatDoor
set_option linter.unusedSimpArgs false
set_option linter.unusedVariables false
namespace Go.Fx.YtjpdhfhiimbpgaaGreatDoor
open Go Go.Fx Go.Proofs
set_option maxRecDepth 20000
theorem ent_40 : Ent Tryz.prog 40 := fun _ _ => by kernel_rfl
theorem ent_41 : Ent Tryz.prog 41 := fun _ _ => by kernel_rfl
theorem ent_42 : Ent Tryz.prog 42 := fun _ _ => by kernel_rfl
theorem ent_43 : Ent Tryz.prog 43 := fun _ _ => by kernel_rfl
theorem ent_44 : Ent Tryz.prog 44 := fun _ _ => by kernel_rfl
theorem ent_65 : Ent Tryz.prog 65 := fun _ _ => by kernel_rfl
theorem Text_spec {w : World} {p : Nat} {s : TS} (hT : TreeM (hp w) p s) :
    Calls Tryz.prog 14 #[ptr p 0] w fun e w' => e = .returned (.string ⟨(textT s).toArray⟩) ∧ Grow w w' := by
 obtain ⟨vN, vR, bm, cM, hp0, hN, hRs, hM, hcM, hwf, hn, hS⟩ := hT
 have hnl := hn.nodes
 have hrl := hn.roots
 have hnx := hn.next
 have hst := Step.ro (Le.refl (hp w))
 refine calls_of_W (n := 86) Tryz.func14 rfl Tryz.ntmps14 (Nat.le_of_ble_eq_true rfl) ?_
 refine W_seq ?_
 refine W_region_lit ?_
 refine Lq (.string ⟨#[]⟩) rfl rfl rfl rfl ?_
 refine L_nil ?_
 refine W_seq ?_
 refine W_seq ?_
 refine W_region_lit ?_
 refine Lq (ptr p 0) rfl rfl rfl rfl ?_
 refine Lq (.bool false) rfl rfl rfl (by kernel_rfl) ?_
 refine Lq (.bool false) rfl rfl rfl rfl ?_
 refine L_guard rfl rfl rfl rfl rfl ?_
 refine Lq (ptr p 0) rfl rfl rfl rfl ?_
 refine L_guard rfl rfl rfl rfl rfl ?_
 refine Lq (ptr p 0) rfl rfl rfl rfl ?_
 refine L_guard rfl rfl rfl rfl rfl ?_
 refine Lq (ptr p 2) rfl rfl rfl (by kernel_rfl) ?_
 refine L_guard rfl rfl rfl rfl rfl ?_
 refine Lq (.map (some bm)) rfl rfl rfl (x_load rfl rfl (run_loadVar_one ti_63 (hst.rle' _ _ (hp0 _ _ (one_self _ _))) rfl)) ?_
 refine L_guard rfl rfl rfl rfl rfl ?_
 refine Lq (.bool false) rfl rfl rfl (by kernel_rfl) ?_
 refine Lq (.bool false) rfl rfl rfl rfl ?_
 refine L_nil ?_
 refine W_cond_false (by show Value.bool _ = _; exact congrArg Value.bool rfl) ?_
 refine W_skip ?_
 refine W_seq ?_
 refine W_region_lit ?_
 refine L_new hst (v := fun b => ptr b 0) (ob := .cells #[(.pointer none), (.slice none 0 0)] 79 (0, 0)) rfl rfl rfl (by kernel_rfl) (fun b1 w2 hst3 => ?_)
 refine L_nil ?_
 refine W_seq ?_
 obtain ⟨c4, hst5, hB6⟩ := Bld.new hst3
 refine W_region_lit ?_
 have hst7 := hst5
 refine L_callS [c4] [] hst7 rfl rfl rfl (x_call (vs := #[(ptr b1 0), (.string ⟨#[114, 111, 111, 116, 115]⟩)]) rfl rfl (by kernel_rfl) ent_40) (WriteString_spec ⟨#[114, 111, 111, 116, 115]⟩ (hst7.sats.take 1 rfl) hB6 (by have hz_ := (show ByteArray.size ⟨#[114, 111, 111, 116, 115]⟩ ≤ 5 from by decide); simp only [List.length_nil]; omega)) (fun v8 w9 R10 L11 hp12 hle13 hst14 => ?_)
 obtain ⟨c15, rfl, rfl, hB16⟩ := hp12
 refine L_nil ?_
 refine W_seq ?_
 refine W_seq ?_
 refine W_region_lit ?_
 refine Lq (ptr p 0) rfl rfl rfl rfl ?_
 refine Lq (ptr p 0) rfl rfl rfl rfl ?_
 refine Lq (ptr p 1) rfl rfl rfl (by kernel_rfl) ?_
 refine Lq vR rfl rfl rfl (x_load rfl rfl (run_loadVar_one ti_62 (hst14.rle' _ _ ((Le.trans hp0 hle13) _ _ (one_self _ _))) rfl)) ?_
 obtain ⟨a17, cap18, e19, hc20⟩ := hRs.shape
 subst e19
 refine Lq (int (s.roots.length : Int)) rfl rfl rfl (x_len_slice rfl sl_62 rfl) ?_
 refine Lq (int 0) rfl rfl rfl rfl ?_
 refine L_nil ?_
 refine W_block ?_
 refine W_loop (I := fun σ w_ m_ => ∃ (σ0 : Fr) (R_ : Hp) (k_ : Nat) (cB : Hp), σ = upd (upd (upd (upd (upd (upd (upd (upd (upd (upd (upd (upd (upd (upd (upd (upd (upd (upd σ0 0 (ptr p 0)) 2 (.string ⟨#[]⟩)) 3 (ptr b1 0)) 11 (ptr p 0)) 12 (.bool false)) 13 (.bool false)) 14 (ptr p 0)) 15 (ptr p 0)) 16 (ptr p 2)) 17 (.map (some bm))) 18 (.bool false)) 19 (.bool false)) 21 (ptr p 0)) 22 (ptr p 0)) 23 (ptr p 1)) 24 (.slice a17 s.roots.length cap18)) 25 (int (s.roots.length : Int))) 26 (int (k_ : Int)) ∧ mks (σ0 0) = [] ∧ Step w (hp w) [] w_ R_ [cB] ∧ Le R10 R_ ∧ Bld b1 (rootsT s.roots k_) cB ∧ k_ ≤ s.roots.length ∧ m_ = s.roots.length - k_) (m := s.roots.length - 0) ?_ ?_
 ·
  exact ⟨_, _, 0, c15, (upd_of (upd_of (upd_of (upd_of (upd_of (upd_of (upd_of (upd_of (upd_of (upd_of (upd_of (upd_of (upd_of (upd_of (upd_of (upd_of (upd_of (upd_of rfl rfl) rfl) rfl) rfl) rfl) rfl) rfl) rfl) rfl) rfl) rfl) rfl) rfl) rfl) rfl) rfl) rfl) rfl), rfl, hst14, Le.refl _, (hB16.same (by rw [rootsT_zero, List.nil_append]; rfl)), (by omega), rfl⟩
 ·
  rintro m31 σ_ w23 ⟨s27, R28, k_29, cB30, rfl, hmk21, hst22, hle24, hi25, hf26, rfl⟩
  have hlr := rootsT_len hwf hn (k := k_29) (by omega)
  refine W_seq ?_
  refine W_region_lit ?_
  refine Lq (.bool (decide ((k_29 : Int) < (s.roots.length : Int)))) rfl rfl rfl (by kernel_rfl) ?_
  refine L_nil ?_
  refine W_seq ?_
  rcases Bool.eq_false_or_eq_true (decide ((k_29 : Int) < (s.roots.length : Int))) with c32 | c32
  ·
   have q33 := of_decide_eq_true c32
   refine W_cond_true (by show Value.bool _ = _; exact congrArg Value.bool c32) ?_
   refine W_skip ?_
   refine W_seq ?_
   refine W_block ?_
   refine W_seq ?_
   refine W_region_lit ?_
   obtain ⟨b34, off35, cap36, cs37, T38, fz39, e40, hc41, hb42, he43⟩ := hRs.open (by omega)
   cases e40
   obtain ⟨cl44, hs45, hr46⟩ := he43.at k_29 (by omega)
   have hx47 : cl44 = [.int .i64 (s.roots[k_29]'(by omega))] := hr46
   subst hx47
   refine Lq (ptr b34 (off35 + k_29 * 1)) rfl rfl rfl (x_indexAddr' rfl sl_62 ti_3 rfl rfl (by omega)) ?_
   refine Lq (int (s.roots[k_29]'(by omega))) rfl rfl rfl (x_load rfl rfl (run_loadVar_one ti_3 ((Le.trans hle13 (Le.trans hle24 hst22.rle')) _ _ hb42) (seg_get (j := 0) hs45 rfl))) ?_
   refine Lq (int (s.roots[k_29]'(by omega))) rfl rfl rfl rfl ?_
   refine L_nil ?_
   have hrk := root_ok hwf hn (List.getElem_mem (l := s.roots) (n := k_29) (by omega))
   refine W_region_lit ?_
   refine Lq (int (s.roots[k_29]'(by omega))) rfl rfl rfl rfl ?_
   have hd48 := dec_size (n := (s.roots[k_29]'(by omega))) (by omega) (by omega)
   refine L_callG hst22 (v := (.string (dec (s.roots[k_29]'(by omega))))) rfl rfl rfl (x_call (vs := #[(int (s.roots[k_29]'(by omega)))]) rfl rfl (by kernel_rfl) ent_41) (Itoa_G (n := (s.roots[k_29]'(by omega))) (by omega) (by omega)) (fun w49 hst50 => ?_)
   obtain ⟨t51, ht52⟩ : ∃ t_ : ByteArray, t_ = ⟨#[32]⟩ ++ (dec (s.roots[k_29]'(by omega))) := ⟨_, rfl⟩
   have ht52z := size_app_le (show ByteArray.size ⟨#[32]⟩ ≤ 1 from by decide) hd48
   rw [← ht52] at ht52z
   simp only [Nat.reduceAdd] at ht52z
   refine Lq (.string t51) rfl rfl rfl (by rw [ht52]; exact (x_strcat rfl rfl rfl (by have h1_ := (show ByteArray.size ⟨#[32]⟩ ≤ 1 from by decide); have h2_ := hd48; omega))) ?_
   have hst53 := hst50
   refine L_callS [cB30] [] hst53 rfl rfl rfl (x_call (vs := #[(ptr b1 0), (.string t51)]) rfl rfl (by kernel_rfl) ent_40) (WriteString_spec t51 (hst53.sats.take 1 rfl) hi25 (by have hz_ := ht52z; omega)) (fun v54 w55 R56 L57 hp58 hle59 hst60 => ?_)
   obtain ⟨c61, rfl, rfl, hB62⟩ := hp58
   refine L_nil ?_
   refine W_region_lit ?_
   refine Lq (int ((k_29 + 1 : Nat) : Int)) rfl rfl rfl (x_add_nat rfl rfl rfl (by omega)) ?_
   refine Lq (int ((k_29 + 1 : Nat) : Int)) rfl rfl rfl rfl ?_
   refine L_nil ?_
   refine ⟨s.roots.length - (k_29 + 1), by first | omega | (simp only [List.length_append, List.length_cons, List.length_nil]; omega), ?_⟩
   exact ⟨_, _, (k_29 + 1), c61, (upd_of (upd_of (upd_of (upd_of (upd_of (upd_of (upd_of (upd_of (upd_of (upd_of (upd_of (upd_of (upd_of (upd_of (upd_of (upd_of (upd_of (upd_of rfl rfl) rfl) rfl) rfl) rfl) rfl) rfl) rfl) rfl) rfl) rfl) rfl) rfl) rfl) rfl) rfl) rfl) rfl), hmk21, hst60, (Le.trans hle24 hle59), (hB62.same (by rw [rootsT_succ (by omega), ht52]; rfl)), (by omega), rfl⟩
  ·
   have q63 := of_decide_eq_false c32
   refine W_cond_false (by show Value.bool _ = _; exact congrArg Value.bool c32) ?_
   refine W_exit ?_
   refine W_seq ?_
   have hB64 := hi25.same (rootsT_all (by omega))
   have hlr := rootsT_len hwf hn (Nat.le_refl s.roots.length)
   refine W_region_lit ?_
   have hst65 := hst22
   refine L_callS [cB30] [] hst65 rfl rfl rfl (x_call (vs := #[(ptr b1 0), (.string ⟨#[10]⟩)]) rfl rfl (by kernel_rfl) ent_40) (WriteString_spec ⟨#[10]⟩ (hst65.sats.take 1 rfl) hB64 (by have hz_ := (show ByteArray.size ⟨#[10]⟩ ≤ 1 from by decide); omega)) (fun v66 w67 R68 L69 hp70 hle71 hst72 => ?_)
   obtain ⟨c73, rfl, rfl, hB74⟩ := hp70
   refine L_nil ?_
   refine W_seq ?_
   refine W_seq ?_
   have hst75 := hst72.nothing
   refine W_region_lit ?_
   refine Lq (ptr p 0) rfl rfl rfl rfl ?_
   refine Lq (ptr p 0) rfl rfl rfl rfl ?_
   refine Lq (ptr p 0) rfl rfl rfl (by kernel_rfl) ?_
   refine Lq vN rfl rfl rfl (x_load rfl rfl (run_loadVar_one ti_61 (hst75.rle' _ _ ((Le.trans (Le.trans (Le.trans hp0 hle13) hle24) hle71) _ _ (one_self _ _))) rfl)) ?_
   obtain ⟨a76, cap77, e78, hc79⟩ := hN.shape
   subst e78
   refine Lq (int (s.nodes.length : Int)) rfl rfl rfl (x_len_slice rfl sl_61 rfl) ?_
   refine Lq (int 0) rfl rfl rfl rfl ?_
   refine L_nil ?_
   refine W_block ?_
   refine W_loop (I := fun σ w_ m_ => ∃ (σ0 : Fr) (R_ : Hp) (k_ : Nat) (ds_ : List Nat) (cB : Hp) (cD : Hp), σ = upd (upd (upd (upd (upd (upd (upd (upd (upd (upd (upd (upd (upd (upd (upd (upd (upd (upd (upd (upd (upd (upd (upd (upd (upd σ0 0 (ptr p 0)) 2 (.string ⟨#[]⟩)) 3 (ptr b1 0)) 11 (ptr p 0)) 12 (.bool false)) 13 (.bool false)) 14 (ptr p 0)) 15 (ptr p 0)) 16 (ptr p 2)) 17 (.map (some bm))) 18 (.bool false)) 19 (.bool false)) 21 (ptr p 0)) 22 (ptr p 0)) 23 (ptr p 1)) 24 (.slice a17 s.roots.length cap18)) 25 (int (s.roots.length : Int))) 26 (int (k_29 : Int))) 27 (.bool (decide ((k_29 : Int) < (s.roots.length : Int))))) 36 (ptr p 0)) 37 (ptr p 0)) 38 (ptr p 0)) 39 (.slice a76 s.nodes.length cap77)) 40 (int (s.nodes.length : Int))) 41 (int (k_ : Int)) ∧ mks (σ0 0) = ds_ ∧ Step w (hp w) [] w_ R_ [cB, cD] ∧ Le R68 R_ ∧ Bld b1 (linesT s k_) cB ∧ Defs ds_ cD ∧ k_ ≤ s.nodes.length ∧ m_ = s.nodes.length - k_) (m := s.nodes.length - 0) ?_ ?_
   ·
    exact ⟨_, _, 0, [], c73, non, (upd_of (upd_of (upd_of (upd_of (upd_of (upd_of (upd_of (upd_of (upd_of (upd_of (upd_of (upd_of (upd_of (upd_of (upd_of (upd_of (upd_of (upd_of (upd_of (upd_of (upd_of (upd_of (upd_of (upd_of (upd_of rfl rfl) rfl) rfl) rfl) rfl) rfl) rfl) rfl) rfl) rfl) rfl) rfl) rfl) rfl) rfl) rfl) rfl) rfl) rfl) rfl) rfl) rfl) rfl) rfl) rfl), hmk21, (hst75.front 1 rfl rfl), Le.refl _, (hB74.same (by rw [linesT_zero]; rfl)), Defs.nil, (by omega), rfl⟩
   ·
    rintro m93 σ_ w82 ⟨s87, R88, k_89, ds_90, cB91, cD92, rfl, hmk80, hst81, hle83, hi84, hi85, hf86, rfl⟩
    have hll := linesT_len hwf hn (k := k_89) (by omega)
    refine W_seq ?_
    refine W_region_lit ?_
    refine Lq (.bool (decide ((k_89 : Int) < (s.nodes.length : Int)))) rfl rfl rfl (by kernel_rfl) ?_
    refine L_nil ?_
    refine W_seq ?_
    rcases Bool.eq_false_or_eq_true (decide ((k_89 : Int) < (s.nodes.length : Int))) with c94 | c94
    ·
     have q95 := of_decide_eq_true c94
     refine W_cond_true (by show Value.bool _ = _; exact congrArg Value.bool c94) ?_
     refine W_skip ?_
     refine W_seq ?_
     refine W_block ?_
     refine W_seq ?_
     refine W_region_lit ?_
     refine Lq (int (k_89 : Int)) rfl rfl rfl rfl ?_
     obtain ⟨b96, off97, cap98, cs99, T100, fz101, e102, hc103, hb104, he105⟩ := hN.open (by omega)
     cases e102
     obtain ⟨cl106, hs107, hr108⟩ := he105.at k_89 (by omega)
     obtain ⟨x109, hx110⟩ : ∃ x_, x_ = (s.nodes[k_89]'(by omega)) := ⟨_, rfl⟩
     rw [← hx110] at hr108
     have hb111 : x109.names.length ≤ 1000000 := by rw [hx110]; exact hS.names _ (by omega)
     have hb112 : x109.ali = -1 ∨ 0 ≤ x109.ali := by rw [hx110]; exact hS.ali _ (by omega)
     obtain ⟨vn113, rfl, hvn114⟩ := tyNd_open hr108
     refine Lq (ptr b96 (off97 + k_89 * 3)) rfl rfl rfl (x_indexAddr' rfl sl_61 ti_85 rfl rfl (by omega)) ?_
     refine Lq (.agg #[(int x109.cls), (int x109.ali), vn113]) rfl rfl rfl (x_load rfl rfl (run_loadVar_agg ti_85 ((Le.trans hle13 (Le.trans hle24 (Le.trans hle71 (Le.trans hle83 hst81.rle')))) _ _ hb104) hs107 rfl)) ?_
     refine L_new hst81 (v := fun b => ptr b 0) (ob := .cells #[(int 0), (int 0), (.slice none 0 0)] 85 (0, 0)) rfl rfl rfl (by kernel_rfl) (fun b115 w116 hst117 => ?_)
     refine Lq (int (k_89 : Int)) rfl rfl rfl rfl ?_
     obtain ⟨a118, cap119, e120, hc121⟩ := hvn114.shape
     subst e120
     refine L_store hst117 0 ti_85 rfl rfl rfl rfl rfl rfl rfl rfl rfl rfl rfl (fun w122 hst123 => ?_)
     change Step _ _ _ _ _ [one b115 (.cells #[(int x109.cls), (int x109.ali), (.slice a118 x109.names.length cap119)] 85 (0, 0)), cB91, cD92] at hst123
     refine L_nil ?_
     have hxm : x109 ∈ s.nodes := by rw [hx110]; exact List.getElem_mem _
     obtain ⟨hxc1, hxc2⟩ := hn.cls _ hxm
     have hxn := hn.names _ hxm
     have hxa := ali_ok hwf hn (k := k_89) (by omega)
     rw [← hx110] at hxa
     obtain ⟨hwl, hws⟩ := words_ok hwf hn (k := k_89) (by omega)
     have hjs := line_size hwf hn (k := k_89) (by omega)
     rw [← hx110] at hwl hws hjs
     refine W_seq_k (fun σ w_ => ∃ (σ0 : Fr) (R_ : Hp) (b8_ : Nat) (v_ : Value) (cB : Hp) (cW : Hp) (cD : Hp), σ = upd (upd (upd (upd (upd (upd (upd (upd (upd (upd (upd (upd (upd (upd (upd (upd (upd (upd (upd (upd (upd (upd (upd (upd (upd (upd (upd (upd (upd (upd (upd (upd σ0 0 (ptr p 0)) 2 (.string ⟨#[]⟩)) 3 (ptr b1 0)) 6 (int (k_89 : Int))) 7 (ptr b115 0)) 8 (ptr b8_ 0)) 11 (ptr p 0)) 12 (.bool false)) 13 (.bool false)) 14 (ptr p 0)) 15 (ptr p 0)) 16 (ptr p 2)) 17 (.map (some bm))) 18 (.bool false)) 19 (.bool false)) 21 (ptr p 0)) 22 (ptr p 0)) 23 (ptr p 1)) 24 (.slice a17 s.roots.length cap18)) 25 (int (s.roots.length : Int))) 26 (int (k_29 : Int))) 27 (.bool (decide ((k_29 : Int) < (s.roots.length : Int))))) 36 (ptr p 0)) 37 (ptr p 0)) 38 (ptr p 0)) 39 (.slice (some ⟨b96, off97, none⟩) s.nodes.length cap77)) 40 (int (s.nodes.length : Int))) 41 (int (k_89 : Int))) 42 (.bool (decide ((k_89 : Int) < (s.nodes.length : Int))))) 43 (int (k_89 : Int))) 44 (ptr b96 (off97 + k_89 * 3))) 45 (.agg #[(int x109.cls), (int x109.ali), (.slice a118 x109.names.length cap119)]) ∧ mks (σ0 0) = ds_90 ∧ Step w (hp w) [] w_ R_ [cB, one b115 (.cells #[(int x109.cls), (int x109.ali), (.slice a118 x109.names.length cap119)] 85 (0, 0)), one b8_ (.cells #[v_] 42 (0, 0)), cW, cD] ∧ Le R88 R_ ∧ Bld b1 (linesT s k_89) cB ∧ OwnL Ty.str 9 R_ v_ ([dec (k_89 : Int), dec x109.cls] ++ x109.names) cW ∧ Defs ds_90 cD) ?_ ?_
     ·
      rintro σ_ w133 ⟨s129, R130, b8_124, v_125, cB126, cW127, cD128, rfl, hmk131, hst132, hle134, hi135, hi136, hi137⟩
      refine W_seq_k (fun σ w_ => ∃ (σ0 : Fr) (R_ : Hp) (ds_ : List Nat) (b8_ : Nat) (v_ : Value) (cB : Hp) (cW : Hp) (cD : Hp), σ = upd (upd (upd (upd (upd (upd (upd (upd (upd (upd (upd (upd (upd (upd (upd (upd (upd (upd (upd (upd (upd (upd (upd (upd (upd (upd (upd (upd (upd (upd (upd (upd σ0 0 (ptr p 0)) 2 (.string ⟨#[]⟩)) 3 (ptr b1 0)) 6 (int (k_89 : Int))) 7 (ptr b115 0)) 8 (ptr b8_ 0)) 11 (ptr p 0)) 12 (.bool false)) 13 (.bool false)) 14 (ptr p 0)) 15 (ptr p 0)) 16 (ptr p 2)) 17 (.map (some bm))) 18 (.bool false)) 19 (.bool false)) 21 (ptr p 0)) 22 (ptr p 0)) 23 (ptr p 1)) 24 (.slice a17 s.roots.length cap18)) 25 (int (s.roots.length : Int))) 26 (int (k_29 : Int))) 27 (.bool (decide ((k_29 : Int) < (s.roots.length : Int))))) 36 (ptr p 0)) 37 (ptr p 0)) 38 (ptr p 0)) 39 (.slice (some ⟨b96, off97, none⟩) s.nodes.length cap77)) 40 (int (s.nodes.length : Int))) 41 (int (k_89 : Int))) 42 (.bool (decide ((k_89 : Int) < (s.nodes.length : Int))))) 43 (int (k_89 : Int))) 44 (ptr b96 (off97 + k_89 * 3))) 45 (.agg #[(int x109.cls), (int x109.ali), (.slice a118 x109.names.length cap119)]) ∧ mks (σ0 0) = ds_ ∧ Step w (hp w) [] w_ R_ [cB, one b115 (.cells #[(int x109.cls), (int x109.ali), (.slice a118 x109.names.length cap119)] 85 (0, 0)), one b8_ (.cells #[v_] 42 (0, 0)), cW, cD] ∧ Le R130 R_ ∧ Bld b1 (linesT s k_89) cB ∧ OwnL Ty.str 9 R_ v_ (wordsN s.next k_89 x109) cW ∧ Defs ds_ cD) ?_ ?_
      ·
       rintro σ_ w148 ⟨s144, R145, ds_138, b8_139, v_140, cB141, cW142, cD143, rfl, hmk146, hst147, hle149, hi150, hi151, hi152⟩
       refine W_region_lit ?_
       refine Lq v_140 rfl rfl rfl (x_load rfl rfl (run_loadVar_one ti_42 (hst147.b 2) rfl)) ?_
       refine L_callG hst147 (v := (.string (joinS (wordsN s.next k_89 x109)))) rfl rfl rfl (x_call (vs := #[v_140, (.string ⟨#[32]⟩)]) rfl rfl (by kernel_rfl) ent_43) (Join_G hi151 (hst147.g 3) (by omega) (by omega)) (fun w153 hst154 => ?_)
       obtain ⟨t155, ht156⟩ : ∃ t_ : ByteArray, t_ = (joinS (wordsN s.next k_89 x109)) ++ ⟨#[10]⟩ := ⟨_, rfl⟩
       have ht156z := size_app_le hjs (show ByteArray.size ⟨#[10]⟩ ≤ 1 from by decide)
       rw [← ht156] at ht156z
       simp only [Nat.reduceAdd] at ht156z
       refine Lq (.string t155) rfl rfl rfl (by rw [ht156]; exact (x_strcat rfl rfl rfl (by have h1_ := hjs; have h2_ := (show ByteArray.size ⟨#[10]⟩ ≤ 1 from by decide); omega))) ?_
       have hst157 := hst154
       refine L_callS [cB141] [one b115 (.cells #[(int x109.cls), (int x109.ali), (.slice a118 x109.names.length cap119)] 85 (0, 0)), one b8_139 (.cells #[v_140] 42 (0, 0)), cW142, cD143] hst157 rfl rfl rfl (x_call (vs := #[(ptr b1 0), (.string t155)]) rfl rfl (by kernel_rfl) ent_40) (WriteString_spec t155 (hst157.sats.take 1 rfl) hi150 (by have hz_ := ht156z; omega)) (fun v158 w159 R160 L161 hp162 hle163 hst164 => ?_)
       have hm165 := OwnL.mono hi151 hle163
       obtain ⟨c166, rfl, rfl, hB167⟩ := hp162
       refine L_nil ?_
       refine W_region_lit ?_
       refine Lq (int ((k_89 + 1 : Nat) : Int)) rfl rfl rfl (x_add_nat rfl rfl rfl (by omega)) ?_
       refine Lq (int ((k_89 + 1 : Nat) : Int)) rfl rfl rfl rfl ?_
       refine L_nil ?_
       refine ⟨s.nodes.length - (k_89 + 1), by first | omega | (simp only [List.length_append, List.length_cons, List.length_nil]; omega), ?_⟩
       exact ⟨_, _, (k_89 + 1), ds_138, c166, cD143, (upd_of (upd_of (upd_of (upd_of (upd_of (upd_of (upd_of (upd_of (upd_of (upd_of (upd_of (upd_of (upd_of (upd_of (upd_of (upd_of (upd_of (upd_of (upd_of (upd_of (upd_of (upd_of (upd_of (upd_of (upd_of rfl rfl) rfl) rfl) rfl) rfl) rfl) rfl) rfl) rfl) rfl) rfl) rfl) rfl) rfl) rfl) rfl) rfl) rfl) rfl) rfl) rfl) rfl) rfl) rfl) rfl), hmk146, (((hst164.front 4 rfl rfl).front 1 rfl rfl).keepN 2 rfl), (Le.trans hle83 (Le.trans hle134 (Le.trans hle149 hle163))), (hB167.same (by rw [linesT_succ (by omega) hx110, ht156]; rfl)), hi152, (by omega), rfl⟩
      ·
       refine W_seq ?_
       refine W_region_lit ?_
       refine Lq (ptr b115 1) rfl rfl rfl (by kernel_rfl) ?_
       refine Lq (int x109.ali) rfl rfl rfl (x_load rfl rfl (run_loadVar_one ti_3 (hst132.b 1) rfl)) ?_
       refine Lq (.bool (decide (x109.ali ≥ 0))) rfl rfl rfl (by kernel_rfl) ?_
       refine L_nil ?_
       rcases Bool.eq_false_or_eq_true (decide (x109.ali ≥ 0)) with c168 | c168
       ·
        have q169 := of_decide_eq_true c168
        refine W_cond_true (by show Value.bool _ = _; exact congrArg Value.bool c168) ?_
        refine W_region_draw [6] (fun w => Le R130 (hp w) ∧ Le (one b115 (.cells #[(int x109.cls), (int x109.ali), (.slice a118 x109.names.length cap119)] 85 (0, 0))) (hp w) ∧ Le (one b8_124 (.cells #[v_125] 42 (0, 0))) (hp w)) hmix (by decide +kernel) (fun _ _ h => h) ?_
        have hst171 := hst132.draws (w133.drawn + 1)
        generalize draws w133 (w133.drawn + 1) = w170 at hst171 ⊢
        refine LT v_125 0 rfl rfl rfl (fun u173 hF174 => (x_load rfl rfl (run_loadVar_one ti_42 (hF174.2.2 _ _ (one_self _ _)) rfl))) ⟨hst171.rle', hst171.g 1, hst171.g 2⟩ ?_
        refine LP (ptr b115 1) 1 rfl rfl rfl (fun u176 => (by kernel_rfl)) ⟨hst171.rle', hst171.g 1, hst171.g 2⟩ ?_
        refine LT (int x109.ali) 2 rfl rfl rfl (fun u179 hF180 => (x_load rfl rfl (run_loadVar_one ti_3 (hF180.2.1 _ _ (one_self _ _)) rfl))) ⟨hst171.rle', hst171.g 1, hst171.g 2⟩ ?_
        refine LA_all [3] (by decide +kernel) (by simp) ?_
        intro i_ hi_
        simp only [List.mem_cons, List.not_mem_nil, or_false] at hi_
        subst hi_
        have hd184 := dec_size (n := x109.ali) (by omega) (by omega)
        refine One_call (i := 3) rfl rfl rfl (Want.plain rfl) (x_call (vs := #[(int x109.ali)]) rfl rfl (by kernel_rfl) ent_41) (Itoa_G (n := x109.ali) (by omega) (by omega)) ?_
        rintro e187 w185 ⟨rfl, hw188⟩
        have hst186 := hst171.grown hw188
        refine ⟨_, rfl, (fun _ => ⟨hst186.rle', hst186.g 1, hst186.g 2⟩), ?_⟩
        refine LA_all [4] (by decide +kernel) (by simp) ?_
        intro i_ hi_
        simp only [List.mem_cons, List.not_mem_nil, or_false] at hi_
        subst hi_
        refine One_new hst186 (i := 4) (v := fun b => .slice (some ⟨b, 0, none⟩) 2 2) (ob := .cells #[(.string ⟨#[61]⟩), (.string (dec x109.ali))] 9 (0, 0)) rfl rfl rfl (Want.plain rfl) (by kernel_rfl) (fun b192 w193 hst194 => ?_)
        refine ⟨(fun _ => ⟨hst194.rle', hst194.g 2, hst194.g 3⟩), ?_⟩
        refine LA_all [5] (by decide +kernel) (by simp) ?_
        intro i_ hi_
        simp only [List.mem_cons, List.not_mem_nil, or_false] at hi_
        subst hi_
        refine One_append (j := 5) hst194 (t := 42) (e := 9) (ys := [(⟨#[61]⟩ : Str), (dec x109.ali)]) (src := [(.string ⟨#[61]⟩), (.string (dec x109.ali))]) 4 rfl rfl rfl (Want.plain rfl) rfl rfl rfl sl_42 ti_9 rfl rfl rfl hi136 (src_own (hst194.b 0)) (strs_mk2 _ _ _) rfl (by first | omega | (simp only [List.length_append, List.length_cons, List.length_nil]; omega)) (by first | (simp only [maxLen]; omega) | (simp only [List.length_append, List.length_cons, List.length_nil, maxLen]; omega)) (fun v198 c199 w200 ho201 hst202 => ?_)
        refine ⟨(fun _ => ⟨hst202.rle', hst202.g 3, hst202.g 4⟩), ?_⟩
        refine LA_all [6] (by decide +kernel) (by simp) ?_
        intro i_ hi_
        simp only [List.mem_cons, List.not_mem_nil, or_false] at hi_
        subst hi_
        obtain ⟨a204, cap205, e206, hc207⟩ := ho201.value
        subst e206
        obtain ⟨w208, hr210, hst209⟩ := run_storeW (P := Tryz.prog) (b := b8_124) (off := 0) (v := (.slice a204 ((([dec (k_89 : Int), dec x109.cls] ++ x109.names) ++ [(⟨#[61]⟩ : Str), (dec x109.ali)]).length) cap205)) hst202 4 ti_42 rfl rfl rfl rfl rfl rfl
        change Step _ _ _ _ _ [c199, one b192 (.cells #[(.string ⟨#[61]⟩), (.string (dec x109.ali))] 9 (0, 0)), cB126, one b115 (.cells #[(int x109.cls), (int x109.ali), (.slice a118 x109.names.length cap119)] 85 (0, 0)), one b8_124 (.cells #[(.slice a204 ((([dec (k_89 : Int), dec x109.cls] ++ x109.names) ++ [(⟨#[61]⟩ : Str), (dec x109.ali)]).length) cap205)] 42 (0, 0)), cD128] at hst209
        refine One_skip (i := 6) rfl rfl (Want.plain rfl) (x_store rfl rfl rfl hr210) (fun h => absurd h (by decide +kernel)) ?_
        refine LA_done (by decide +kernel) ?_
        exact ⟨_, _, ds_90, b8_124, (.slice a204 ((([dec (k_89 : Int), dec x109.cls] ++ x109.names) ++ [(⟨#[61]⟩ : Str), (dec x109.ali)]).length) cap205), cB126, c199, cD128, (upd_of (upd_of (upd_of (upd_of (upd_of (upd_of (upd_of (upd_of (upd_of (upd_of (upd_of (upd_of (upd_of (upd_of (upd_of (upd_of (upd_of (upd_of (upd_of (upd_of (upd_of (upd_of (upd_of (upd_of (upd_of (upd_of (upd_of (upd_of (upd_of (upd_of (upd_of (upd_of rfl rfl) rfl) rfl) rfl) rfl) rfl) rfl) rfl) rfl) rfl) rfl) rfl) rfl) rfl) rfl) rfl) rfl) rfl) rfl) rfl) rfl) rfl) rfl) rfl) rfl) rfl) rfl) rfl) rfl) rfl) rfl) rfl), hmk131, ((((((hst209.front 5 rfl rfl).front 1 rfl rfl).front 5 rfl rfl).front 5 rfl rfl).front 5 rfl rfl).keepN 5 rfl), (Le.refl _), hi135, (Eq.mp (congrArg (fun l_ => OwnL Ty.str 9 R130 (.slice a204 ((([dec (k_89 : Int), dec x109.cls] ++ x109.names) ++ [(⟨#[61]⟩ : Str), (dec x109.ali)]).length) cap205) l_ c199) (words_yes (m := s.next) (of_decide_eq_true c168))) ho201), hi137⟩
       ·
        have q211 := of_decide_eq_false c168
        refine W_cond_false (by show Value.bool _ = _; exact congrArg Value.bool c168) ?_
        refine W_seq ?_
        refine W_region_lit ?_
        refine Lq v_125 rfl rfl rfl (x_load rfl rfl (run_loadVar_one ti_42 (hst132.b 2) rfl)) ?_
        refine L_new hst132 (v := fun b => .slice (some ⟨b, 0, none⟩) 1 1) (ob := .cells #[(.string ⟨#[62]⟩)] 9 (0, 0)) rfl rfl rfl (by kernel_rfl) (fun b212 w213 hst214 => ?_)
        refine L_append hst214 (t := 42) (e := 9) (ys := [(⟨#[62]⟩ : Str)]) (src := [(.string ⟨#[62]⟩)]) 4 rfl rfl rfl rfl rfl rfl sl_42 ti_9 rfl rfl rfl hi136 (src_own (hst214.b 0)) (str_mk _ _) rfl (by first | omega | (simp only [List.length_append, List.length_cons, List.length_nil]; omega)) (by first | (simp only [maxLen]; omega) | (simp only [List.length_append, List.length_cons, List.length_nil, maxLen]; omega)) (fun v215 c216 w217 ho218 hst219 => ?_)
        obtain ⟨a220, cap221, e222, hc223⟩ := ho218.value
        subst e222
        refine L_store hst219 4 ti_42 rfl rfl rfl rfl rfl rfl rfl rfl rfl rfl rfl (fun w224 hst225 => ?_)
        change Step _ _ _ _ _ [c216, one b212 (.cells #[(.string ⟨#[62]⟩)] 9 (0, 0)), cB126, one b115 (.cells #[(int x109.cls), (int x109.ali), (.slice a118 x109.names.length cap119)] 85 (0, 0)), one b8_124 (.cells #[(.slice a220 ((([dec (k_89 : Int), dec x109.cls] ++ x109.names) ++ [(⟨#[62]⟩ : Str)]).length) cap221)] 42 (0, 0)), cD128] at hst225
        refine L_nil ?_
        refine W_seq ?_
        refine W_region_lit ?_
        refine Lq (ptr p 0) rfl rfl rfl rfl ?_
        refine Lq (int (k_89 : Int)) rfl rfl rfl rfl ?_
        refine L_call rfl rfl rfl (x_call (vs := #[(ptr p 0), (int (k_89 : Int))]) rfl rfl (by kernel_rfl) ent_42) ?_ (fun _ _ h => h)
        refine calls_of_W (n := 6) Tryz.func42 rfl Tryz.ntmps42 (Nat.le_of_ble_eq_true rfl) ?_
        refine W_seq ?_
        refine W_region_lit ?_
        refine L_new hst225 (v := fun b => ptr b 0) (ob := .cells #[(ptr p 0)] 24 (0, 0)) rfl rfl rfl (by kernel_rfl) (fun b226 w227 hst228 => ?_)
        refine L_new hst228 (v := fun b => ptr b 0) (ob := .cells #[(int (k_89 : Int))] 3 (0, 0)) rfl rfl rfl (by kernel_rfl) (fun b229 w230 hst231 => ?_)
        refine Lq .nilFunc rfl rfl rfl rfl ?_
        refine L_nil ?_
        refine W_seq ?_
        refine W_region_lit ?_
        refine Lq (.func (.func 65) #[] #[(ptr b226 0), (ptr b229 0)]) rfl rfl rfl (by kernel_rfl) ?_
        refine Lq (.func (.func 65) #[] #[(ptr b226 0), (ptr b229 0)]) rfl rfl rfl rfl ?_
        refine L_nil ?_
        refine W_ret ?_
        refine ⟨_, _, res_run (rs := [.tmp 4]) (vs := [(.func (.func 65) #[] #[(ptr b226 0), (ptr b229 0)])]) Tryz.results42 (.cons (.tmp rfl) .nil) rfl, ?_⟩
        refine ⟨_, rfl, ?_⟩
        refine L_nil ?_
        refine W_block ?_
        obtain ⟨R232, hst233, hle234, hc235⟩ := Step.frz (hst231.front 1 rfl rfl)
        have hm236 := OwnL.mono ho218 hle234
        obtain ⟨R237, hst238, hle239, hc240⟩ := Step.frz hst233
        have hm241 := OwnL.mono hm236 hle239
        have hst242 := ((((((hst238.front 5 rfl rfl).front 1 rfl rfl).front 5 rfl rfl).front 5 rfl rfl).front 5 rfl rfl)).keepN 5 rfl
        refine W_rangeFuncO (α := Lk) (gf := 65) (lb := #[ptr b226 0, ptr b229 0]) (Lit := []) (Lb := [cB126, one b115 (.cells #[(int x109.cls), (int x109.ali), (.slice a118 x109.names.length cap119)] 85 (0, 0)), one b8_124 (.cells #[(.slice a220 ((([dec (k_89 : Int), dec x109.cls] ++ x109.names) ++ [(⟨#[62]⟩ : Str)]).length) cap221)] 42 (0, 0)), c216, cD128]) rfl ent_65 hst242 (Steps1_gives (k := (k_89 : Int)) (Le.trans hc235 hle239) hc240 (Le.trans (Le.trans (Le.trans (Le.trans (Le.trans (Le.trans (Le.trans hp0 hle13) hle24) hle71) hle83) hle134) hle234) hle239) hM (Le.trans (Le.trans (Le.trans (Le.trans (Le.trans (Le.trans (Le.trans hcM hle13) hle24) hle71) hle83) hle134) hle234) hle239) hwf.ok (by omega)) (fun pre R1 L1 => ∃ v_ c_, L1 = [cB126, one b115 (.cells #[(int x109.cls), (int x109.ali), (.slice a118 x109.names.length cap119)] 85 (0, 0)), one b8_124 (.cells #[v_] 42 (0, 0)), c_, cD128] ∧ OwnL Ty.str 9 R1 v_ ((([dec (k_89 : Int), dec x109.cls] ++ x109.names) ++ [(⟨#[62]⟩ : Str)]) ++ pre.map stepW) c_) (fun _ _ _ _ => False) (fun pre R1 R2 L1 hle ⟨v, c, e, h⟩ => ⟨v, c, e, h.mono hle⟩) (fun _ _ _ _ _ _ h => h) ⟨_, _, rfl, by rw [List.map_nil, List.append_nil]; exact hm241⟩ rfl (fun _ => rfl) ?_ ?_ (fun _ _ _ _ _ _ _ _ h => h.elim)
        ·
         rintro l243 pre244 x245 w246 R247 L248 hok249 ⟨v250, c251, rfl, ho252⟩ hle253 hlen254 hs255
         have hst256 := Step.refl hs255
         obtain ⟨xs257, hxs258⟩ : ∃ xs_, xs_ = (([dec (k_89 : Int), dec x109.cls] ++ x109.names) ++ [(⟨#[62]⟩ : Str)]) ++ List.map stepW pre244 := ⟨_, rfl⟩
         rw [← hxs258] at ho252
         have hxl : xs257.length ≤ 1100 := by rw [hxs258]; simp only [List.length_append, List.length_map, List.length_cons, List.length_nil]; omega
         obtain ⟨hk1, hk2, hk3⟩ := lks_ok hwf hn hok249
         refine W_seq ?_
         refine W_region_lit ?_
         refine Lq (.string x245.1) rfl rfl rfl rfl ?_
         refine L_nil ?_
         refine W_region_lit ?_
         refine Lq (int x245.2) rfl rfl rfl rfl ?_
         refine L_nil ?_
         refine ⟨_, hst256, fun w_259 hs_260 => ?_⟩
         have hst261 := Step.refl hs_260
         refine W_block ?_
         refine W_region_draw [8] (fun w => Le R247 (hp w) ∧ Le (one b115 (.cells #[(int x109.cls), (int x109.ali), (.slice a118 x109.names.length cap119)] 85 (0, 0))) (hp w) ∧ Le (one b8_124 (.cells #[v250] 42 (0, 0))) (hp w)) hmix (by decide +kernel) (fun _ _ h => h) ?_
         have hst263 := hst261.draws (w_259.drawn + 1)
         generalize draws w_259 (w_259.drawn + 1) = w262 at hst263 ⊢
         refine LT v250 0 rfl rfl rfl (fun u265 hF266 => (x_load rfl rfl (run_loadVar_one ti_42 (hF266.2.2 _ _ (one_self _ _)) rfl))) ⟨hst263.rle', hst263.g 1, hst263.g 2⟩ ?_
         refine LP (.string x245.1) 1 rfl rfl rfl (fun u268 => rfl) ⟨hst263.rle', hst263.g 1, hst263.g 2⟩ ?_
         obtain ⟨t273, ht274⟩ : ∃ t_ : ByteArray, t_ = x245.1 ++ ⟨#[58]⟩ := ⟨_, rfl⟩
         have ht274z := size_app_le hk1 (show ByteArray.size ⟨#[58]⟩ ≤ 1 from by decide)
         rw [← ht274] at ht274z
         simp only [Nat.reduceAdd] at ht274z
         refine LP (.string t273) 2 rfl rfl rfl (fun u271 => (by rw [ht274]; exact (x_strcat rfl rfl rfl (by have h1_ := hk1; have h2_ := (show ByteArray.size ⟨#[58]⟩ ≤ 1 from by decide); omega)))) ⟨hst263.rle', hst263.g 1, hst263.g 2⟩ ?_
         refine LP (int x245.2) 3 rfl rfl rfl (fun u276 => rfl) ⟨hst263.rle', hst263.g 1, hst263.g 2⟩ ?_
         refine LA_all [4] (by decide +kernel) (by simp) ?_
         intro i_ hi_
         simp only [List.mem_cons, List.not_mem_nil, or_false] at hi_
         subst hi_
         have hd281 := dec_size (n := x245.2) (by omega) (by omega)
         refine One_call (i := 4) rfl rfl rfl (Want.plain rfl) (x_call (vs := #[(int x245.2)]) rfl rfl (by kernel_rfl) ent_41) (Itoa_G (n := x245.2) (by omega) (by omega)) ?_
         rintro e284 w282 ⟨rfl, hw285⟩
         have hst283 := hst263.grown hw285
         refine ⟨_, rfl, (fun _ => ⟨hst283.rle', hst283.g 1, hst283.g 2⟩), ?_⟩
         obtain ⟨t289, ht290⟩ : ∃ t_ : ByteArray, t_ = t273 ++ (dec x245.2) := ⟨_, rfl⟩
         have ht290z := size_app_le ht274z hd281
         rw [← ht290] at ht290z
         simp only [Nat.reduceAdd] at ht290z
         refine LP (.string t289) 5 rfl rfl rfl (fun u287 => (by rw [ht290]; exact (x_strcat rfl rfl rfl (by have h1_ := ht274z; have h2_ := hd281; omega)))) ⟨hst283.rle', hst283.g 1, hst283.g 2⟩ ?_
         refine LA_all [6] (by decide +kernel) (by simp) ?_
         intro i_ hi_
         simp only [List.mem_cons, List.not_mem_nil, or_false] at hi_
         subst hi_
         refine One_new hst283 (i := 6) (v := fun b => .slice (some ⟨b, 0, none⟩) 1 1) (ob := .cells #[(.string t289)] 9 (0, 0)) rfl rfl rfl (Want.plain rfl) (by kernel_rfl) (fun b294 w295 hst296 => ?_)
         refine ⟨(fun _ => ⟨hst296.rle', hst296.g 2, hst296.g 3⟩), ?_⟩
         refine LA_all [7] (by decide +kernel) (by simp) ?_
         intro i_ hi_
         simp only [List.mem_cons, List.not_mem_nil, or_false] at hi_
         subst hi_
         refine One_append (j := 7) hst296 (t := 42) (e := 9) (ys := [t289]) (src := [(.string t289)]) 4 rfl rfl rfl (Want.plain rfl) rfl rfl rfl sl_42 ti_9 rfl rfl rfl ho252 (src_own (hst296.b 0)) (str_mk _ _) rfl (by first | omega | (simp only [List.length_append, List.length_cons, List.length_nil]; omega)) (by first | (simp only [maxLen]; omega) | (simp only [List.length_append, List.length_cons, List.length_nil, maxLen]; omega)) (fun v300 c301 w302 ho303 hst304 => ?_)
         refine ⟨(fun _ => ⟨hst304.rle', hst304.g 3, hst304.g 4⟩), ?_⟩
         refine LA_all [8] (by decide +kernel) (by simp) ?_
         intro i_ hi_
         simp only [List.mem_cons, List.not_mem_nil, or_false] at hi_
         subst hi_
         obtain ⟨a306, cap307, e308, hc309⟩ := ho303.value
         subst e308
         obtain ⟨w310, hr312, hst311⟩ := run_storeW (P := Tryz.prog) (b := b8_124) (off := 0) (v := (.slice a306 ((xs257 ++ [t289]).length) cap307)) hst304 4 ti_42 rfl rfl rfl rfl rfl rfl
         change Step _ _ _ _ _ [c301, one b294 (.cells #[(.string t289)] 9 (0, 0)), cB126, one b115 (.cells #[(int x109.cls), (int x109.ali), (.slice a118 x109.names.length cap119)] 85 (0, 0)), one b8_124 (.cells #[(.slice a306 ((xs257 ++ [t289]).length) cap307)] 42 (0, 0)), cD128] at hst311
         refine One_skip (i := 8) rfl rfl (Want.plain rfl) (x_store rfl rfl rfl hr312) (fun h => absurd h (by decide +kernel)) ?_
         refine LA_done (by decide +kernel) ?_
         have he_ : (xs257 ++ [t289]) = (([dec (k_89 : Int), dec x109.cls] ++ x109.names) ++ [(⟨#[62]⟩ : Str)]) ++ List.map stepW (pre244 ++ [x245]) := by rw [hxs258, ht290, ht274, List.map_append, ← List.append_assoc]; rfl
         exact ⟨_, _, ((((((hst311.front 5 rfl rfl).front 1 rfl rfl).front 5 rfl rfl).front 5 rfl rfl).front 5 rfl rfl)).keepN 5 rfl, _, _, rfl, Eq.mp (congrArg (fun l_ => OwnL Ty.str 9 R247 (.slice a306 ((xs257 ++ [t289]).length) cap307) l_ c301) he_) ho303⟩
        ·
         rintro D313 xs314 w315 R316 Li317 L318 rfl ⟨v319, c320, rfl, ho321⟩ rfl hle322 hst323
         have hst6324 : Step w (hp w) [] w315 R316 [one D313 (.deferred (some [])), cB126, one b115 (.cells #[(int x109.cls), (int x109.ali), (.slice a118 x109.names.length cap119)] 85 (0, 0)), one b8_124 (.cells #[v319] 42 (0, 0)), c320, cD128] := hst323
         obtain ⟨cD325, hst7326, hD327⟩ := Defs.add ((hst6324.front 5 rfl rfl).front 1 rfl rfl) hi137
         exact ⟨_, _, (D313 :: ds_90), b8_124, v319, cB126, c320, cD325, (upd_of (upd_of (upd_of (upd_of (upd_of (upd_of (upd_of (upd_of (upd_of (upd_of (upd_of (upd_of (upd_of (upd_of (upd_of (upd_of (upd_of (upd_of (upd_of (upd_of (upd_of (upd_of (upd_of (upd_of (upd_of (upd_of (upd_of (upd_of (upd_of (upd_of (upd_of (upd_of rfl rfl) rfl) rfl) rfl) rfl) rfl) rfl) rfl) rfl) rfl) rfl) rfl) rfl) rfl) rfl) rfl) rfl) rfl) rfl) rfl) rfl) rfl) rfl) rfl) rfl) rfl) rfl) rfl) rfl) rfl) rfl) rfl), (mks_mark hmk131), ((((hst7326.front 4 rfl rfl).front 4 rfl rfl).front 4 rfl rfl).front 4 rfl rfl), (Le.trans hle234 (Le.trans hle239 hle322)), hi135, (Eq.mp (congrArg (fun l_ => OwnL Ty.str 9 R316 v319 l_ c320) (words_no (m := s.next) (of_decide_eq_false c168))) ho321), hD327⟩
     ·
      refine W_region_draw [10] (fun w => Le R88 (hp w) ∧ Le (one b115 (.cells #[(int x109.cls), (int x109.ali), (.slice a118 x109.names.length cap119)] 85 (0, 0))) (hp w)) hmix (by decide +kernel) (fun _ _ h => h) ?_
      have hst329 := hst123.draws (w122.drawn + 1)
      generalize draws w122 (w122.drawn + 1) = w328 at hst329 ⊢
      refine LP (int (k_89 : Int)) 0 rfl rfl rfl (fun u331 => rfl) ⟨hst329.rle', hst329.g 0⟩ ?_
      refine LP (ptr b115 0) 2 rfl rfl rfl (fun u336 => (by kernel_rfl)) ⟨hst329.rle', hst329.g 0⟩ ?_
      refine LT (int x109.cls) 3 rfl rfl rfl (fun u341 hF342 => (x_load rfl rfl (run_loadVar_one ti_3 (hF342.2 _ _ (one_self _ _)) rfl))) ⟨hst329.rle', hst329.g 0⟩ ?_
      refine LP (ptr b115 2) 6 rfl rfl rfl (fun u346 => (by kernel_rfl)) ⟨hst329.rle', hst329.g 0⟩ ?_
      refine LT (.slice a118 x109.names.length cap119) 7 rfl rfl rfl (fun u351 hF352 => (x_load rfl rfl (run_loadVar_one ti_42 (hF352.2 _ _ (one_self _ _)) rfl))) ⟨hst329.rle', hst329.g 0⟩ ?_
      refine LA_all [1, 9] (by decide +kernel) (by simp) ?_
      intro i_ hi_
      simp only [List.mem_cons, List.not_mem_nil, or_false] at hi_
      rcases hi_ with rfl | rfl
      ·
       have hd358 := dec_size (n := (k_89 : Int)) (by omega) (by omega)
       refine One_call (i := 1) rfl rfl rfl (Want.plain rfl) (x_call (vs := #[(int (k_89 : Int))]) rfl rfl (by kernel_rfl) ent_41) (Itoa_G (n := (k_89 : Int)) (by omega) (by omega)) ?_
       rintro e361 w359 ⟨rfl, hw362⟩
       have hst360 := hst329.grown hw362
       refine ⟨_, rfl, (fun _ => ⟨hst360.rle', hst360.g 0⟩), ?_⟩
       refine LA_all [4, 9] (by decide +kernel) (by simp) ?_
       intro i_ hi_
       simp only [List.mem_cons, List.not_mem_nil, or_false] at hi_
       rcases hi_ with rfl | rfl
       ·
        have hd368 := dec_size (n := x109.cls) (by omega) (by omega)
        refine One_call (i := 4) rfl rfl rfl (Want.plain rfl) (x_call (vs := #[(int x109.cls)]) rfl rfl (by kernel_rfl) ent_41) (Itoa_G (n := x109.cls) (by omega) (by omega)) ?_
        rintro e371 w369 ⟨rfl, hw372⟩
        have hst370 := hst360.grown hw372
        refine ⟨_, rfl, (fun _ => ⟨hst370.rle', hst370.g 0⟩), ?_⟩
        refine LA_all [5, 9] (by decide +kernel) (by simp) ?_
        intro i_ hi_
        simp only [List.mem_cons, List.not_mem_nil, or_false] at hi_
        rcases hi_ with rfl | rfl
        ·
         refine One_new hst370 (i := 5) (v := fun b => .slice (some ⟨b, 0, none⟩) 2 2) (ob := .cells #[(.string (dec (k_89 : Int))), (.string (dec x109.cls))] 9 (0, 0)) rfl rfl rfl (Want.plain rfl) (by kernel_rfl) (fun b378 w379 hst380 => ?_)
         refine ⟨(fun _ => ⟨hst380.rle', hst380.g 1⟩), ?_⟩
         refine LA_all [8, 9] (by decide +kernel) (by simp) ?_
         intro i_ hi_
         simp only [List.mem_cons, List.not_mem_nil, or_false] at hi_
         rcases hi_ with rfl | rfl
         ·
          have ho386 : OwnL Ty.str 9 R88 (.slice (some ⟨b378, 0, none⟩) 2 2) [(dec (k_89 : Int)), (dec x109.cls)] (one b378 (.cells #[(.string (dec (k_89 : Int))), (.string (dec x109.cls))] 9 (0, 0))) := OwnL.lit (cs := [(.string (dec (k_89 : Int))), (.string (dec x109.cls))]) (strs_mk2 _ _ _) rfl (by decide)
          obtain ⟨v387, c388, w389, hr390, ho391, hst392⟩ := run_appendM (P := Tryz.prog) (tt := 42) sl_42 ti_9 rfl ho386 hst380 (RdS.mono hvn114 (Le.trans hle13 (Le.trans hle24 (Le.trans hle71 hle83)))) hst380.rle' (by simp only [List.length_append, List.length_cons, List.length_nil]; omega) (by simp only [List.length_append, List.length_cons, List.length_nil, maxLen]; omega)
          refine One_val (i := 8) (v := v387) rfl rfl rfl (Want.plain rfl) (x_append rfl rfl rfl hr390) (fun _ => ⟨hst392.rle', hst392.g 1⟩) ?_
          refine LA_all [9] (by decide +kernel) (by simp) ?_
          intro i_ hi_
          simp only [List.mem_cons, List.not_mem_nil, or_false] at hi_
          subst hi_
          refine One_new hst392 (i := 9) (v := fun b => ptr b 0) (ob := .cells #[(.slice none 0 0)] 42 (0, 0)) rfl rfl rfl (Want.plain rfl) (by kernel_rfl) (fun b396 w397 hst398 => ?_)
          refine ⟨(fun _ => ⟨hst398.rle', hst398.g 2⟩), ?_⟩
          refine LA_all [10] (by decide +kernel) (by simp) ?_
          intro i_ hi_
          simp only [List.mem_cons, List.not_mem_nil, or_false] at hi_
          subst hi_
          obtain ⟨a400, cap401, e402, hc403⟩ := ho391.value
          subst e402
          obtain ⟨w404, hr406, hst405⟩ := run_storeW (P := Tryz.prog) (b := b396) (off := 0) (v := (.slice a400 (([(dec (k_89 : Int)), (dec x109.cls)] ++ x109.names).length) cap401)) hst398 0 ti_42 rfl rfl rfl rfl rfl rfl
          change Step _ _ _ _ _ [one b396 (.cells #[(.slice a400 (([(dec (k_89 : Int)), (dec x109.cls)] ++ x109.names).length) cap401)] 42 (0, 0)), c388, one b115 (.cells #[(int x109.cls), (int x109.ali), (.slice a118 x109.names.length cap119)] 85 (0, 0)), cB91, cD92] at hst405
          refine One_skip (i := 10) rfl rfl (Want.plain rfl) (x_store rfl rfl rfl hr406) (fun h => absurd h (by decide +kernel)) ?_
          refine LA_done (by decide +kernel) ?_
          exact ⟨_, _, b396, (.slice a400 (([(dec (k_89 : Int)), (dec x109.cls)] ++ x109.names).length) cap401), cB91, c388, cD92, (upd_of (upd_of (upd_of (upd_of (upd_of (upd_of (upd_of (upd_of (upd_of (upd_of (upd_of (upd_of (upd_of (upd_of (upd_of (upd_of (upd_of (upd_of (upd_of (upd_of (upd_of (upd_of (upd_of (upd_of (upd_of (upd_of (upd_of (upd_of (upd_of (upd_of (upd_of (upd_of rfl rfl) rfl) rfl) rfl) rfl) rfl) rfl) rfl) rfl) rfl) rfl) rfl) rfl) rfl) rfl) rfl) rfl) rfl) rfl) rfl) rfl) rfl) rfl) rfl) rfl) rfl) rfl) rfl) rfl) rfl) rfl) rfl), hmk80, (((((hst405.front 4 rfl rfl).front 2 rfl rfl).front 2 rfl rfl).front 3 rfl rfl).front 4 rfl rfl), (Le.refl _), hi84, ho391, hi85⟩
         ·
          refine One_new hst380 (i := 9) (v := fun b => ptr b 0) (ob := .cells #[(.slice none 0 0)] 42 (0, 0)) rfl rfl rfl (Want.plain rfl) (by kernel_rfl) (fun b407 w408 hst409 => ?_)
          refine ⟨(fun _ => ⟨hst409.rle', hst409.g 2⟩), ?_⟩
          refine LA_all [8] (by decide +kernel) (by simp) ?_
          intro i_ hi_
          simp only [List.mem_cons, List.not_mem_nil, or_false] at hi_
          subst hi_
          have ho413 : OwnL Ty.str 9 R88 (.slice (some ⟨b378, 0, none⟩) 2 2) [(dec (k_89 : Int)), (dec x109.cls)] (one b378 (.cells #[(.string (dec (k_89 : Int))), (.string (dec x109.cls))] 9 (0, 0))) := OwnL.lit (cs := [(.string (dec (k_89 : Int))), (.string (dec x109.cls))]) (strs_mk2 _ _ _) rfl (by decide)
          obtain ⟨v414, c415, w416, hr417, ho418, hst419⟩ := run_appendM (P := Tryz.prog) (tt := 42) sl_42 ti_9 rfl ho413 (hst409.front 1 rfl rfl) (RdS.mono hvn114 (Le.trans hle13 (Le.trans hle24 (Le.trans hle71 hle83)))) hst409.rle' (by simp only [List.length_append, List.length_cons, List.length_nil]; omega) (by simp only [List.length_append, List.length_cons, List.length_nil, maxLen]; omega)
          refine One_val (i := 8) (v := v414) rfl rfl rfl (Want.plain rfl) (x_append rfl rfl rfl hr417) (fun _ => ⟨hst419.rle', hst419.g 2⟩) ?_
          refine LA_all [10] (by decide +kernel) (by simp) ?_
          intro i_ hi_
          simp only [List.mem_cons, List.not_mem_nil, or_false] at hi_
          subst hi_
          obtain ⟨a421, cap422, e423, hc424⟩ := ho418.value
          subst e423
          obtain ⟨w425, hr427, hst426⟩ := run_storeW (P := Tryz.prog) (b := b407) (off := 0) (v := (.slice a421 (([(dec (k_89 : Int)), (dec x109.cls)] ++ x109.names).length) cap422)) hst419 1 ti_42 rfl rfl rfl rfl rfl rfl
          change Step _ _ _ _ _ [c415, one b407 (.cells #[(.slice a421 (([(dec (k_89 : Int)), (dec x109.cls)] ++ x109.names).length) cap422)] 42 (0, 0)), one b115 (.cells #[(int x109.cls), (int x109.ali), (.slice a118 x109.names.length cap119)] 85 (0, 0)), cB91, cD92] at hst426
          refine One_skip (i := 10) rfl rfl (Want.plain rfl) (x_store rfl rfl rfl hr427) (fun h => absurd h (by decide +kernel)) ?_
          refine LA_done (by decide +kernel) ?_
          exact ⟨_, _, b407, (.slice a421 (([(dec (k_89 : Int)), (dec x109.cls)] ++ x109.names).length) cap422), cB91, c415, cD92, (upd_of (upd_of (upd_of (upd_of (upd_of (upd_of (upd_of (upd_of (upd_of (upd_of (upd_of (upd_of (upd_of (upd_of (upd_of (upd_of (upd_of (upd_of (upd_of (upd_of (upd_of (upd_of (upd_of (upd_of (upd_of (upd_of (upd_of (upd_of (upd_of (upd_of (upd_of (upd_of rfl rfl) rfl) rfl) rfl) rfl) rfl) rfl) rfl) rfl) rfl) rfl) rfl) rfl) rfl) rfl) rfl) rfl) rfl) rfl) rfl) rfl) rfl) rfl) rfl) rfl) rfl) rfl) rfl) rfl) rfl) rfl) rfl), hmk80, (((((hst426.front 4 rfl rfl).front 1 rfl rfl).front 2 rfl rfl).front 3 rfl rfl).front 4 rfl rfl), (Le.refl _), hi84, ho418, hi85⟩
        ·
         refine One_new hst370 (i := 9) (v := fun b => ptr b 0) (ob := .cells #[(.slice none 0 0)] 42 (0, 0)) rfl rfl rfl (Want.plain rfl) (by kernel_rfl) (fun b428 w429 hst430 => ?_)
         refine ⟨(fun _ => ⟨hst430.rle', hst430.g 1⟩), ?_⟩
         refine LA_all [5] (by decide +kernel) (by simp) ?_
         intro i_ hi_
         simp only [List.mem_cons, List.not_mem_nil, or_false] at hi_
         subst hi_
         refine One_new hst430 (i := 5) (v := fun b => .slice (some ⟨b, 0, none⟩) 2 2) (ob := .cells #[(.string (dec (k_89 : Int))), (.string (dec x109.cls))] 9 (0, 0)) rfl rfl rfl (Want.plain rfl) (by kernel_rfl) (fun b434 w435 hst436 => ?_)
         refine ⟨(fun _ => ⟨hst436.rle', hst436.g 2⟩), ?_⟩
         refine LA_all [8] (by decide +kernel) (by simp) ?_
         intro i_ hi_
         simp only [List.mem_cons, List.not_mem_nil, or_false] at hi_
         subst hi_
         have ho440 : OwnL Ty.str 9 R88 (.slice (some ⟨b434, 0, none⟩) 2 2) [(dec (k_89 : Int)), (dec x109.cls)] (one b434 (.cells #[(.string (dec (k_89 : Int))), (.string (dec x109.cls))] 9 (0, 0))) := OwnL.lit (cs := [(.string (dec (k_89 : Int))), (.string (dec x109.cls))]) (strs_mk2 _ _ _) rfl (by decide)
         obtain ⟨v441, c442, w443, hr444, ho445, hst446⟩ := run_appendM (P := Tryz.prog) (tt := 42) sl_42 ti_9 rfl ho440 hst436 (RdS.mono hvn114 (Le.trans hle13 (Le.trans hle24 (Le.trans hle71 hle83)))) hst436.rle' (by simp only [List.length_append, List.length_cons, List.length_nil]; omega) (by simp only [List.length_append, List.length_cons, List.length_nil, maxLen]; omega)
         refine One_val (i := 8) (v := v441) rfl rfl rfl (Want.plain rfl) (x_append rfl rfl rfl hr444) (fun _ => ⟨hst446.rle', hst446.g 2⟩) ?_
         refine LA_all [10] (by decide +kernel) (by simp) ?_
         intro i_ hi_
         simp only [List.mem_cons, List.not_mem_nil, or_false] at hi_
         subst hi_
         obtain ⟨a448, cap449, e450, hc451⟩ := ho445.value
         subst e450
         obtain ⟨w452, hr454, hst453⟩ := run_storeW (P := Tryz.prog) (b := b428) (off := 0) (v := (.slice a448 (([(dec (k_89 : Int)), (dec x109.cls)] ++ x109.names).length) cap449)) hst446 1 ti_42 rfl rfl rfl rfl rfl rfl
         change Step _ _ _ _ _ [c442, one b428 (.cells #[(.slice a448 (([(dec (k_89 : Int)), (dec x109.cls)] ++ x109.names).length) cap449)] 42 (0, 0)), one b115 (.cells #[(int x109.cls), (int x109.ali), (.slice a118 x109.names.length cap119)] 85 (0, 0)), cB91, cD92] at hst453
         refine One_skip (i := 10) rfl rfl (Want.plain rfl) (x_store rfl rfl rfl hr454) (fun h => absurd h (by decide +kernel)) ?_
         refine LA_done (by decide +kernel) ?_
         exact ⟨_, _, b428, (.slice a448 (([(dec (k_89 : Int)), (dec x109.cls)] ++ x109.names).length) cap449), cB91, c442, cD92, (upd_of (upd_of (upd_of (upd_of (upd_of (upd_of (upd_of (upd_of (upd_of (upd_of (upd_of (upd_of (upd_of (upd_of (upd_of (upd_of (upd_of (upd_of (upd_of (upd_of (upd_of (upd_of (upd_of (upd_of (upd_of (upd_of (upd_of (upd_of (upd_of (upd_of (upd_of (upd_of rfl rfl) rfl) rfl) rfl) rfl) rfl) rfl) rfl) rfl) rfl) rfl) rfl) rfl) rfl) rfl) rfl) rfl) rfl) rfl) rfl) rfl) rfl) rfl) rfl) rfl) rfl) rfl) rfl) rfl) rfl) rfl) rfl), hmk80, (((((hst453.front 4 rfl rfl).front 1 rfl rfl).front 2 rfl rfl).front 3 rfl rfl).front 4 rfl rfl), (Le.refl _), hi84, ho445, hi85⟩
       ·
        refine One_new hst360 (i := 9) (v := fun b => ptr b 0) (ob := .cells #[(.slice none 0 0)] 42 (0, 0)) rfl rfl rfl (Want.plain rfl) (by kernel_rfl) (fun b455 w456 hst457 => ?_)
        refine ⟨(fun _ => ⟨hst457.rle', hst457.g 1⟩), ?_⟩
        refine LA_all [4] (by decide +kernel) (by simp) ?_
        intro i_ hi_
        simp only [List.mem_cons, List.not_mem_nil, or_false] at hi_
        subst hi_
        have hd461 := dec_size (n := x109.cls) (by omega) (by omega)
        refine One_call (i := 4) rfl rfl rfl (Want.plain rfl) (x_call (vs := #[(int x109.cls)]) rfl rfl (by kernel_rfl) ent_41) (Itoa_G (n := x109.cls) (by omega) (by omega)) ?_
        rintro e464 w462 ⟨rfl, hw465⟩
        have hst463 := hst457.grown hw465
        refine ⟨_, rfl, (fun _ => ⟨hst463.rle', hst463.g 1⟩), ?_⟩
        refine LA_all [5] (by decide +kernel) (by simp) ?_
        intro i_ hi_
        simp only [List.mem_cons, List.not_mem_nil, or_false] at hi_
        subst hi_
        refine One_new hst463 (i := 5) (v := fun b => .slice (some ⟨b, 0, none⟩) 2 2) (ob := .cells #[(.string (dec (k_89 : Int))), (.string (dec x109.cls))] 9 (0, 0)) rfl rfl rfl (Want.plain rfl) (by kernel_rfl) (fun b469 w470 hst471 => ?_)
        refine ⟨(fun _ => ⟨hst471.rle', hst471.g 2⟩), ?_⟩
        refine LA_all [8] (by decide +kernel) (by simp) ?_
        intro i_ hi_
        simp only [List.mem_cons, List.not_mem_nil, or_false] at hi_
        subst hi_
        have ho475 : OwnL Ty.str 9 R88 (.slice (some ⟨b469, 0, none⟩) 2 2) [(dec (k_89 : Int)), (dec x109.cls)] (one b469 (.cells #[(.string (dec (k_89 : Int))), (.string (dec x109.cls))] 9 (0, 0))) := OwnL.lit (cs := [(.string (dec (k_89 : Int))), (.string (dec x109.cls))]) (strs_mk2 _ _ _) rfl (by decide)
        obtain ⟨v476, c477, w478, hr479, ho480, hst481⟩ := run_appendM (P := Tryz.prog) (tt := 42) sl_42 ti_9 rfl ho475 hst471 (RdS.mono hvn114 (Le.trans hle13 (Le.trans hle24 (Le.trans hle71 hle83)))) hst471.rle' (by simp only [List.length_append, List.length_cons, List.length_nil]; omega) (by simp only [List.length_append, List.length_cons, List.length_nil, maxLen]; omega)
        refine One_val (i := 8) (v := v476) rfl rfl rfl (Want.plain rfl) (x_append rfl rfl rfl hr479) (fun _ => ⟨hst481.rle', hst481.g 2⟩) ?_
        refine LA_all [10] (by decide +kernel) (by simp) ?_
        intro i_ hi_
        simp only [List.mem_cons, List.not_mem_nil, or_false] at hi_
        subst hi_
        obtain ⟨a483, cap484, e485, hc486⟩ := ho480.value
        subst e485
        obtain ⟨w487, hr489, hst488⟩ := run_storeW (P := Tryz.prog) (b := b455) (off := 0) (v := (.slice a483 (([(dec (k_89 : Int)), (dec x109.cls)] ++ x109.names).length) cap484)) hst481 1 ti_42 rfl rfl rfl rfl rfl rfl
        change Step _ _ _ _ _ [c477, one b455 (.cells #[(.slice a483 (([(dec (k_89 : Int)), (dec x109.cls)] ++ x109.names).length) cap484)] 42 (0, 0)), one b115 (.cells #[(int x109.cls), (int x109.ali), (.slice a118 x109.names.length cap119)] 85 (0, 0)), cB91, cD92] at hst488
        refine One_skip (i := 10) rfl rfl (Want.plain rfl) (x_store rfl rfl rfl hr489) (fun h => absurd h (by decide +kernel)) ?_
        refine LA_done (by decide +kernel) ?_
        exact ⟨_, _, b455, (.slice a483 (([(dec (k_89 : Int)), (dec x109.cls)] ++ x109.names).length) cap484), cB91, c477, cD92, (upd_of (upd_of (upd_of (upd_of (upd_of (upd_of (upd_of (upd_of (upd_of (upd_of (upd_of (upd_of (upd_of (upd_of (upd_of (upd_of (upd_of (upd_of (upd_of (upd_of (upd_of (upd_of (upd_of (upd_of (upd_of (upd_of (upd_of (upd_of (upd_of (upd_of (upd_of (upd_of rfl rfl) rfl) rfl) rfl) rfl) rfl) rfl) rfl) rfl) rfl) rfl) rfl) rfl) rfl) rfl) rfl) rfl) rfl) rfl) rfl) rfl) rfl) rfl) rfl) rfl) rfl) rfl) rfl) rfl) rfl) rfl) rfl), hmk80, (((((hst488.front 4 rfl rfl).front 1 rfl rfl).front 2 rfl rfl).front 3 rfl rfl).front 4 rfl rfl), (Le.refl _), hi84, ho480, hi85⟩
      ·
       refine One_new hst329 (i := 9) (v := fun b => ptr b 0) (ob := .cells #[(.slice none 0 0)] 42 (0, 0)) rfl rfl rfl (Want.plain rfl) (by kernel_rfl) (fun b490 w491 hst492 => ?_)
       refine ⟨(fun _ => ⟨hst492.rle', hst492.g 1⟩), ?_⟩
       refine LA_all [1] (by decide +kernel) (by simp) ?_
       intro i_ hi_
       simp only [List.mem_cons, List.not_mem_nil, or_false] at hi_
       subst hi_
       have hd496 := dec_size (n := (k_89 : Int)) (by omega) (by omega)
       refine One_call (i := 1) rfl rfl rfl (Want.plain rfl) (x_call (vs := #[(int (k_89 : Int))]) rfl rfl (by kernel_rfl) ent_41) (Itoa_G (n := (k_89 : Int)) (by omega) (by omega)) ?_
       rintro e499 w497 ⟨rfl, hw500⟩
       have hst498 := hst492.grown hw500
       refine ⟨_, rfl, (fun _ => ⟨hst498.rle', hst498.g 1⟩), ?_⟩
       refine LA_all [4] (by decide +kernel) (by simp) ?_
       intro i_ hi_
       simp only [List.mem_cons, List.not_mem_nil, or_false] at hi_
       subst hi_
       have hd504 := dec_size (n := x109.cls) (by omega) (by omega)
       refine One_call (i := 4) rfl rfl rfl (Want.plain rfl) (x_call (vs := #[(int x109.cls)]) rfl rfl (by kernel_rfl) ent_41) (Itoa_G (n := x109.cls) (by omega) (by omega)) ?_
       rintro e507 w505 ⟨rfl, hw508⟩
       have hst506 := hst498.grown hw508
       refine ⟨_, rfl, (fun _ => ⟨hst506.rle', hst506.g 1⟩), ?_⟩
       refine LA_all [5] (by decide +kernel) (by simp) ?_
       intro i_ hi_
       simp only [List.mem_cons, List.not_mem_nil, or_false] at hi_
       subst hi_
       refine One_new hst506 (i := 5) (v := fun b => .slice (some ⟨b, 0, none⟩) 2 2) (ob := .cells #[(.string (dec (k_89 : Int))), (.string (dec x109.cls))] 9 (0, 0)) rfl rfl rfl (Want.plain rfl) (by kernel_rfl) (fun b512 w513 hst514 => ?_)
       refine ⟨(fun _ => ⟨hst514.rle', hst514.g 2⟩), ?_⟩
       refine LA_all [8] (by decide +kernel) (by simp) ?_
       intro i_ hi_
       simp only [List.mem_cons, List.not_mem_nil, or_false] at hi_
       subst hi_
       have ho518 : OwnL Ty.str 9 R88 (.slice (some ⟨b512, 0, none⟩) 2 2) [(dec (k_89 : Int)), (dec x109.cls)] (one b512 (.cells #[(.string (dec (k_89 : Int))), (.string (dec x109.cls))] 9 (0, 0))) := OwnL.lit (cs := [(.string (dec (k_89 : Int))), (.string (dec x109.cls))]) (strs_mk2 _ _ _) rfl (by decide)
       obtain ⟨v519, c520, w521, hr522, ho523, hst524⟩ := run_appendM (P := Tryz.prog) (tt := 42) sl_42 ti_9 rfl ho518 hst514 (RdS.mono hvn114 (Le.trans hle13 (Le.trans hle24 (Le.trans hle71 hle83)))) hst514.rle' (by simp only [List.length_append, List.length_cons, List.length_nil]; omega) (by simp only [List.length_append, List.length_cons, List.length_nil, maxLen]; omega)
       refine One_val (i := 8) (v := v519) rfl rfl rfl (Want.plain rfl) (x_append rfl rfl rfl hr522) (fun _ => ⟨hst524.rle', hst524.g 2⟩) ?_
       refine LA_all [10] (by decide +kernel) (by simp) ?_
       intro i_ hi_
       simp only [List.mem_cons, List.not_mem_nil, or_false] at hi_
       subst hi_
       obtain ⟨a526, cap527, e528, hc529⟩ := ho523.value
       subst e528
       obtain ⟨w530, hr532, hst531⟩ := run_storeW (P := Tryz.prog) (b := b490) (off := 0) (v := (.slice a526 (([(dec (k_89 : Int)), (dec x109.cls)] ++ x109.names).length) cap527)) hst524 1 ti_42 rfl rfl rfl rfl rfl rfl
       change Step _ _ _ _ _ [c520, one b490 (.cells #[(.slice a526 (([(dec (k_89 : Int)), (dec x109.cls)] ++ x109.names).length) cap527)] 42 (0, 0)), one b115 (.cells #[(int x109.cls), (int x109.ali), (.slice a118 x109.names.length cap119)] 85 (0, 0)), cB91, cD92] at hst531
       refine One_skip (i := 10) rfl rfl (Want.plain rfl) (x_store rfl rfl rfl hr532) (fun h => absurd h (by decide +kernel)) ?_
       refine LA_done (by decide +kernel) ?_
       exact ⟨_, _, b490, (.slice a526 (([(dec (k_89 : Int)), (dec x109.cls)] ++ x109.names).length) cap527), cB91, c520, cD92, (upd_of (upd_of (upd_of (upd_of (upd_of (upd_of (upd_of (upd_of (upd_of (upd_of (upd_of (upd_of (upd_of (upd_of (upd_of (upd_of (upd_of (upd_of (upd_of (upd_of (upd_of (upd_of (upd_of (upd_of (upd_of (upd_of (upd_of (upd_of (upd_of (upd_of (upd_of (upd_of rfl rfl) rfl) rfl) rfl) rfl) rfl) rfl) rfl) rfl) rfl) rfl) rfl) rfl) rfl) rfl) rfl) rfl) rfl) rfl) rfl) rfl) rfl) rfl) rfl) rfl) rfl) rfl) rfl) rfl) rfl) rfl) rfl), hmk80, (((((hst531.front 4 rfl rfl).front 1 rfl rfl).front 2 rfl rfl).front 3 rfl rfl).front 4 rfl rfl), (Le.refl _), hi84, ho523, hi85⟩
    ·
     have q533 := of_decide_eq_false c94
     refine W_cond_false (by show Value.bool _ = _; exact congrArg Value.bool c94) ?_
     refine W_exit ?_
     refine W_seq ?_
     have hkl : k_89 = s.nodes.length := by omega
     have hll := linesT_len hwf hn (Nat.le_refl s.nodes.length)
     have hB534 : Bld b1 (textT s) cB91 := by have h_ := hi84; rw [hkl] at h_; exact h_
     have hlt : (textT s).length ≤ 400 + 35410 * s.nodes.length := hll
     refine W_region_lit ?_
     have hst535 := hst81
     refine L_callS [cB91] [cD92] hst535 rfl rfl rfl (x_call (vs := #[(ptr b1 0)]) rfl rfl (by kernel_rfl) ent_44) (String_spec (hst535.sats.take 1 rfl) hB534 linesT_ne (by omega)) (fun v536 w537 R538 L539 hp540 hle541 hst542 => ?_)
     obtain ⟨rfl, c543, rfl⟩ := hp540
     refine Lq (.string ⟨((textT s)).toArray⟩) rfl rfl rfl rfl ?_
     refine L_nil ?_
     refine W_ret ?_
     refine ret_N (rs := [.tmp 2]) (vs := [(.string ⟨((textT s)).toArray⟩)]) Tryz.results14 (fun _ => .cons (.tmp rfl) .nil) (hst542.front 1 rfl rfl) hi85 hmk80 (fun w544 hst545 => ?_)
     exact ⟨rfl, hst545.grow⟩
end Go.Fx.YtjpdhfhiimbpgaaGreatDoor
set_option linter.unusedSimpArgs false
set_option linter.unusedVariables false
set_option linter.unusedSectionVars false
namespace Go.Fx.YtjpdhfhiimbpgaaGreatDoor
open Go Go.Fx Go.Proofs
set_option maxRecDepth 20000
def and1 (a : Int) : Int := IntKind.i64.wrap ((BitVec.ofInt 64 a &&& BitVec.ofInt 64 1).toNat : Int)
theorem and1_bd (a : Int) : 0 ≤ and1 a ∧ and1 a ≤ 1 := by
  have h : (BitVec.ofInt 64 a &&& BitVec.ofInt 64 1).toNat < 2 := by
    rw [BitVec.toNat_and, show (BitVec.ofInt 64 1).toNat = 1 by decide, Nat.and_one_is_mod]
    exact Nat.mod_lt _ (by decide)
  unfold and1
  generalize (BitVec.ofInt 64 a &&& BitVec.ofInt 64 1).toNat = k at h ⊢
  have hk : k = 0 ∨ k = 1 := by omega
  rcases hk with rfl | rfl <;> decide
theorem x_and1 {P : Program} {w : World} {ρ : Operand → Value} {o : Oper} {t yt : TypeId} {p q : Operand} {a : Int} (ho : o.op = .binOp .and t p q yt) (hx : ρ p = int a) (hy : ρ q = int 1) : (execOp ρ o).run P w = .ok (.value (int (and1 a))) w := by
  unfold execOp
  simp only [ho, hx, hy, eqGuard, binOp, Sem.run_bind, Sem.run_pure, Result.andThen_ok]
  rfl
theorem tmod_bd (a : Int) {m : Int} (hm : 0 < m) : -m < Int.tmod a m ∧ Int.tmod a m < m := ⟨by have := Int.lt_tmod_of_pos a hm; omega, Int.tmod_lt_of_pos a hm⟩
def kN (m n : Int) : Nat := (Int.tmod (Int.tmod n m + m) m).toNat
theorem kN_eq {m : Int} (n : Int) (hm : 0 < m) : Int.tmod (Int.tmod n m + m) m = (kN m n : Int) := by
  unfold kN
  obtain ⟨h1, h2⟩ := tmod_bd n hm
  have h3 : 0 ≤ Int.tmod (Int.tmod n m + m) m := Int.tmod_nonneg _ (by omega)
  omega
theorem kN_lt {m : Int} (n : Int) (hm : 0 < m) : (kN m n : Int) < m := by
  rw [← kN_eq n hm]
  exact (tmod_bd _ hm).2
def names6 : List Str := [⟨#[120]⟩, ⟨#[121]⟩, ⟨#[122]⟩, ⟨#[119]⟩, ⟨#[118]⟩, ⟨#[]⟩]
def nameOf (n : Int) : Str := names6.getD (kN 6 n) eStr
theorem nameOf_eq {n : Int} (h : kN 6 n < names6.length) : nameOf n = names6[kN 6 n] := by
  unfold nameOf; rw [List.getD_eq_getElem?_getD, List.getElem?_eq_getElem h]; rfl
theorem nameOf_size (n : Int) : (nameOf n).size ≤ 1 := by
  have h := kN_lt n (m := 6) (by decide)
  rw [nameOf_eq (by have : names6.length = 6 := rfl; omega)]
  have key : ∀ x ∈ names6, x.size ≤ 1 := by decide
  exact key _ (List.getElem_mem _)
def someN (n : Nat) : List Str := if h : n = 0 then [] else nameOf (n : Int) :: someN (n / 6)
termination_by n
decreasing_by omega
theorem someN_zero : someN 0 = [] := by rw [someN]; rfl
theorem someN_pos {n : Nat} (h : 0 < n) : someN n = nameOf (n : Int) :: someN (n / 6) := by rw [someN, dif_neg (by omega)]
theorem someN_len : ∀ (k n : Nat), n < 6 ^ k → (someN n).length ≤ k
  | 0, n, h => by obtain rfl : n = 0 := by simpa using h
                  rw [someN_zero]; exact Nat.le_refl _
  | k + 1, n, h => by
    by_cases h0 : n = 0
    · subst h0; rw [someN_zero]; exact Nat.zero_le _
    · rw [someN_pos (by omega), List.length_cons]
      have := someN_len k (n / 6) (by rw [Nat.pow_succ] at h; omega)
      omega
theorem someN_size : ∀ n : Nat, ∀ t ∈ someN n, t.size ≤ 1 := by
  intro n
  induction n using Nat.strongRecOn with
  | ind n ih =>
    intro t ht
    by_cases h0 : n = 0
    · subst h0; rw [someN_zero] at ht; cases ht
    · rw [someN_pos (by omega)] at ht
      rcases List.mem_cons.1 ht with rfl | ht
      · exact nameOf_size _
      · exact ih (n / 6) (by omega) t ht
def someL (x : Int) : List Str := someN (kN 216 x)
theorem someL_len (x : Int) : (someL x).length ≤ 3 := someN_len 3 _ (by have := kN_lt x (m := 216) (by decide); omega)
theorem someN_app {n : Nat} {out xs : List Str} (h : 0 < n) (e : out ++ someN n = xs) : (out ++ [nameOf (n : Int)]) ++ someN (n / 6) = xs := by
  rw [someN_pos h] at e
  rw [← e, List.append_assoc]
  rfl
def cls3 : List Cls := [⟨⟨#[80]⟩, [⟨#[120]⟩]⟩, ⟨⟨#[81]⟩, []⟩, ⟨⟨#[82]⟩, [⟨#[120]⟩]⟩]
def clsOf (n : Int) : List Cls := cls3.take (1 + kN 3 n)
theorem kN3 (n : Int) : kN 3 n ≤ 2 := by have := kN_lt n (m := 3) (by decide); omega
theorem clsOf_len (n : Int) : (clsOf n).length = 1 + kN 3 n := by
  have h := kN3 n
  unfold clsOf
  rw [List.length_take]
  have : cls3.length = 3 := rfl
  omega
theorem clsOf_mem {n : Int} {x : Cls} (h : x ∈ clsOf n) : x.fields.length ≤ 1 ∧ ∀ t ∈ x.fields, t.size ≤ 1 := by
  have h2 : x ∈ cls3 := List.mem_of_mem_take h
  have key : ∀ x ∈ cls3, x.fields.length ≤ 1 ∧ ∀ t ∈ x.fields, t.size ≤ 1 := by decide
  exact key x h2
structure Ac where
  what : Int
  x : Int
  y : Int
  nm : Int
def tyAc : Ty Ac := (Ty.int.pair (Ty.int.pair (Ty.int.pair Ty.int))).via (fun a => (a.what, a.x, a.y, a.nm))
theorem tyAc_open {R : Hp} {a : Ac} {c : List Value} (h : tyAc.rel R a c) : c = [.int .i64 a.what, .int .i64 a.x, .int .i64 a.y, .int .i64 a.nm] := by
  obtain ⟨c1, c2, rfl, e1, c3, c4, rfl, e3, c5, c6, rfl, e5, e6⟩ := h
  have h1 : c1 = [_] := e1
  have h3 : c3 = [_] := e3
  have h5 : c5 = [_] := e5
  have h6 : c6 = [_] := e6
  subst h1; subst h3; subst h5; subst h6
  rfl
def Ac.ix (a : Ac) (n : Nat) : Int := (kN ((n + 1 : Nat) : Int) a.x : Int) - 1 + and1 a.y
def Ac.iy (a : Ac) (n : Nat) : Int := (kN ((n + 1 : Nat) : Int) a.y : Int) - 1 + and1 a.x
/-- What an act does at a tree that stands beside n shapes. -/
def TS.act (s : TS) (a : Ac) (n : Nat) : Int × Int × TS :=
  if kN 7 a.what = 4 then (0, (s.merge (a.ix n) (a.iy n)).1, (s.merge (a.ix n) (a.iy n)).2)
  else if kN 7 a.what = 5 then s.split (a.ix n)
  else if kN 7 a.what = 6 then s.make (Int.tmod a.y 3) (someL a.x)
  else s.add (a.ix n) (nameOf a.nm)
def playK (n : Int) (acts : List Ac) : Nat → TS
  | 0 => newTS (clsOf n)
  | k + 1 => ((playK n acts k).act (acts.getD k ⟨0, 0, 0, 0⟩) (playK n acts k).nodes.length).2.2
theorem playK_succ {n : Int} {acts : List Ac} {k : Nat} (h : k < acts.length) : playK n acts (k + 1) = ((playK n acts k).act acts[k] (playK n acts k).nodes.length).2.2 := by
  rw [playK, List.getD_eq_getElem?_getD, List.getElem?_eq_getElem h]
  rfl
theorem add_len (s : TS) (k : Int) (t : Str) : (s.add k t).2.2.nodes.length ≤ s.nodes.length + 1 := by
  unfold TS.add
  split
  · simp
  · split
    · simp
    · split
      · simp
      · split <;> simp [TS.addN]
theorem merge_len (s : TS) (a b : Int) : (s.merge a b).2.nodes.length = s.nodes.length := by
  unfold TS.merge
  split
  · simp only
    split
    · rfl
    · exact setAli_len
  · rfl
theorem split_len (s : TS) (a : Int) : (s.split a).2.2.nodes.length ≤ s.nodes.length + 1 := by
  unfold TS.split
  split
  · simp
  · split <;> simp [TS.splitC]
theorem make_len (s : TS) (c : Int) (xs : List Str) : (s.make c xs).2.2.nodes.length ≤ s.nodes.length + 1 := by
  unfold TS.make
  split
  · simp
  · split
    · simp
    · split
      · simp
      · split <;> simp [TS.addN]
theorem act_len (s : TS) (a : Ac) (n : Nat) : (s.act a n).2.2.nodes.length ≤ s.nodes.length + 1 := by
  unfold TS.act
  split
  · simp only [merge_len]; omega
  · split
    · exact split_len _ _
    · split
      · exact make_len _ _ _
      · exact add_len _ _ _
theorem newTS_len (n : Int) : (newTS (clsOf n)).nodes.length = 1 + kN 3 n := by simp only [newTS, nodesOf_len, clsOf_len]
theorem playK_len (n : Int) (acts : List Ac) : ∀ k, (playK n acts k).nodes.length ≤ 3 + k
  | 0 => by have := kN3 n; rw [playK, newTS_len]; omega
  | k + 1 => by
    have h1 := playK_len n acts k
    have h2 := act_len (playK n acts k) (acts.getD k ⟨0, 0, 0, 0⟩) (playK n acts k).nodes.length
    rw [playK]
    omega
end Go.Fx.YtjpdhfhiimbpgaaGreatDoor
set_option linter.unusedSimpArgs false
set_option linter.unusedVariables false
set_option linter.unusedSectionVars false
namespace Go.Fx.YtjpdhfhiimbpgaaGreatDoor
open Go Go.Fx Go.Proofs
set_option maxRecDepth 20000
theorem x_kN {P : Program} {w : World} {ρ : Operand → Value} {o : Oper} {t yt : TypeId} {x y : Operand} {n m : Int} (ho : o.op = .binOp .rem t x y yt) (hx : ρ x = int (Int.tmod n m + m)) (hy : ρ y = int m) (h : 0 < m) : (execOp ρ o).run P w = .ok (.value (int (kN m n : Int))) w := by
  have e := x_rem (P := P) (w := w) ho hx hy (by omega)
  rwa [kN_eq n h] at e
theorem x_quo6 {P : Program} {w : World} {ρ : Operand → Value} {o : Oper} {t yt : TypeId} {x y : Operand} {a : Nat} (ho : o.op = .binOp .quo t x y yt) (hx : ρ x = int (a : Int)) (hy : ρ y = int 6) (h : a ≤ 1000000) : (execOp ρ o).run P w = .ok (.value (int ((a / 6 : Nat) : Int))) w := by
  have e := x_quo (P := P) (w := w) ho hx hy (by decide) (by rw [Int.tdiv_eq_ediv_of_nonneg (by omega)]; constructor <;> omega)
  rwa [show Int.tdiv (a : Int) 6 = ((a / 6 : Nat) : Int) by rw [Int.tdiv_eq_ediv_of_nonneg (by omega)]; omega] at e
theorem ret_str {a b : Str} (h : a = b) : Ending.returned (retV [.string a]) = .returned (.string b) := by subst h; rfl
theorem RdS.nilv {α : Type} (ty : Ty α) (R : Hp) : RdS ty R (.slice none 0 0) [] := ⟨Option.none, 0, rfl, Nat.le_refl _, fun h => absurd rfl h⟩
variable {s : TS} {a : Ac} {n : Nat}
theorem act_merge (h : (kN 7 a.what : Int) = 4) : s.act a n = (0, (s.merge (a.ix n) (a.iy n)).1, (s.merge (a.ix n) (a.iy n)).2) := by
  unfold TS.act; rw [if_pos (by omega)]
theorem act_split (h4 : (kN 7 a.what : Int) ≠ 4) (h : (kN 7 a.what : Int) = 5) : s.act a n = s.split (a.ix n) := by
  unfold TS.act; rw [if_neg (by omega), if_pos (by omega)]
theorem act_make (h4 : (kN 7 a.what : Int) ≠ 4) (h5 : (kN 7 a.what : Int) ≠ 5) (h : (kN 7 a.what : Int) = 6) : s.act a n = s.make (Int.tmod a.y 3) (someL a.x) := by
  unfold TS.act; rw [if_neg (by omega), if_neg (by omega), if_pos (by omega)]
theorem act_add (h4 : (kN 7 a.what : Int) ≠ 4) (h5 : (kN 7 a.what : Int) ≠ 5) (h6 : (kN 7 a.what : Int) ≠ 6) : s.act a n = s.add (a.ix n) (nameOf a.nm) := by
  unfold TS.act; rw [if_neg (by omega), if_neg (by omega), if_neg (by omega)]
end Go.Fx.YtjpdhfhiimbpgaaGreatDoor
