/-
  Sp16, Sq12, put together.
-/
import Derived.Test.YtjpdhfhiimbpgaaGreatDoorM5
set_option linter.unusedSimpArgs false
set_option linter.unusedVariables false
set_option linter.unusedSectionVars false
namespace Go.Fx.YtjpdhfhiimbpgaaGreatDoor
open Go Go.Fx Go.Proofs
set_option maxRecDepth 20000
variable {n : Int} {s : TS}
theorem add_cn {a b : Nat} {t : Str} (ha : a < s.nodes.length) (hb : b < s.nodes.length) (h : cn s.nodes a = cn s.nodes b) : s.add (a : Int) t = s.add (b : Int) t := by
  have e1 : s.there (a : Int) = true := TS.there_iff.2 ⟨by omega, by omega⟩
  have e2 : s.there (b : Int) = true := TS.there_iff.2 ⟨by omega, by omega⟩
  unfold TS.add
  rw [e1, e2, Int.toNat_natCast, Int.toNat_natCast, h]
theorem add_twice (hw : WF s) {k : Nat} {t : Str} (hk : k < s.nodes.length) : ((s.add (k : Int) t).2.2.add (k : Int) t).2.1 = (s.add (k : Int) t).2.1 ∧ ((s.add (k : Int) t).2.2.add (k : Int) t).1 = (s.add (k : Int) t).1 ∧ ((s.add (k : Int) t).2.2.add (k : Int) t).2.2 = (s.add (k : Int) t).2.2 := by
  obtain ⟨d, hc⟩ := hw.can.has hk
  obtain ⟨g1, g2⟩ := hc.snd
  have hx : s.nodes[cn s.nodes k]? = some (ndL s.nodes (cn s.nodes k)) := by rw [List.getElem?_eq_getElem g1, ndL_eq g1]
  by_cases hn : t = eStr ∨ t ∈ (ndL s.nodes (cn s.nodes k)).names
  · have e := add_name (s := s) (name := t) hk hx hn
    rw [e]; simp only; rw [e]; exact ⟨rfl, rfl, rfl⟩
  · have hn1 : ¬ t = eStr := fun q => hn (.inl q)
    have hn2 : ¬ t ∈ (ndL s.nodes (cn s.nodes k)).names := fun q => hn (.inr q)
    cases hg : AL.get s.next ((cn s.nodes k : Int), t) with
    | some to =>
      have e := add_link (s := s) (name := t) hk hx hn1 hn2 (by rw [hg]; rfl)
      rw [e]; simp only; rw [e]; exact ⟨rfl, rfl, rfl⟩
    | none =>
      by_cases h64 : 64 ≤ (ndL s.nodes (cn s.nodes k)).names.length ∨ 200 ≤ s.nodes.length
      · have e := add_many (s := s) (name := t) hk hx hn1 hn2 (by rw [hg]; rfl) h64
        rw [e]; simp only; rw [e]; exact ⟨rfl, rfl, rfl⟩
      · have e := add_new (s := s) (name := t) hk hx hn1 hn2 (by rw [hg]; rfl) (fun q => h64 (.inl q)) (fun q => h64 (.inr q))
        have hg1 : (s.add (k : Int) t).2.2.nodes = s.nodes ++ [⟨(ndL s.nodes (cn s.nodes k)).cls, -1, (ndL s.nodes (cn s.nodes k)).names ++ [t]⟩] := by rw [e]; rfl
        have hg2 : (s.add (k : Int) t).2.2.next = AL.set s.next ((cn s.nodes k : Int), t) (s.nodes.length : Int) := by rw [e]; rfl
        have e1 : (s.add (k : Int) t).1 = (s.nodes.length : Int) := by rw [e]
        have e2 : (s.add (k : Int) t).2.1 = 0 := by rw [e]
        generalize (s.add (k : Int) t).2.2 = s2 at hg1 hg2 ⊢
        rw [e1, e2]
        have hl2 : s2.nodes.length = s.nodes.length + 1 := by rw [hg1]; simp
        have hcn : cn s2.nodes k = cn s.nodes k := by rw [hg1]; exact cn_eq (hc.append _)
        have hlast : ndL s2.nodes s.nodes.length = ⟨(ndL s.nodes (cn s.nodes k)).cls, -1, (ndL s.nodes (cn s.nodes k)).names ++ [t]⟩ := by rw [hg1]; exact ndL_last _ _
        have hcan : canon s2.nodes (s.nodes.length : Int) = (s.nodes.length : Int) := canon_self (by omega) (by rw [hlast]; show (-1 : Int) < 0; decide)
        have hcold : ndL s2.nodes (cn s.nodes k) = ndL s.nodes (cn s.nodes k) := by rw [hg1]; exact ndL_app g1
        have hx2 : s2.nodes[cn s2.nodes k]? = some (ndL s.nodes (cn s.nodes k)) := by rw [hcn, ← hcold, ndL_eq (l := s2.nodes) (by omega), List.getElem?_eq_getElem]
        have hget : AL.get s2.next ((cn s2.nodes k : Int), t) = some (s.nodes.length : Int) := by rw [hg2, hcn, AL.get_set, if_pos rfl]
        have e3 := add_link (s := s2) (name := t) (by omega) hx2 hn1 hn2 (by rw [hget]; rfl)
        rw [hget] at e3
        simp only [Option.getD_some] at e3
        rw [hcan] at e3
        rw [e3]
        exact ⟨rfl, rfl, rfl⟩
theorem add_nodes (s : TS) (k : Int) (t : Str) : ∃ m, (s.add k t).2.2.nodes = s.nodes ++ m := by
  unfold TS.add
  split
  · exact ⟨[], by simp⟩
  · split
    · exact ⟨[], by simp⟩
    · split
      · exact ⟨[], by simp⟩
      · split
        · exact ⟨[], by simp⟩
        · exact ⟨_, rfl⟩
theorem cn_add (hw : WF s) {k : Nat} (hk : k < s.nodes.length) (j : Int) (t : Str) : cn (s.add j t).2.2.nodes k = cn s.nodes k := by
  obtain ⟨m, e⟩ := add_nodes s j t
  obtain ⟨d, hc⟩ := hw.can.has hk
  rw [e]
  exact cn_eq (hc.append m)
theorem merge_names (s : TS) (hw : WF s) (a b : Int) (k : Int) : namesL (s.merge a b).2.nodes k = namesL s.nodes k := by
  unfold TS.merge
  split
  · rename_i hab
    simp only
    split
    · rfl
    · have hb := TS.there_iff.1 hab.2.1
      have hcb := hw.can.lt (k := b.toNat) (by omega)
      have e : thereL (setAli s.nodes (cn s.nodes b.toNat) (cn s.nodes a.toNat : Int)) k = thereL s.nodes k := by unfold thereL; rw [setAli_len]
      unfold namesL
      rw [e]
      split
      · unfold setAli
        rw [ndL_set hcb]
        split
        · rename_i q; rw [q]; rfl
        · rfl
      · rfl
  · rfl
theorem canonN {l : List Nd} (h : Cans l) {k : Nat} (hk : k < l.length) : canon l (k : Int) = (cn l k : Int) := by
  obtain ⟨d, hc⟩ := h.has hk
  exact canon_in hc
/-- Shapes that are not alike are not merged. -/
theorem Merges_no {a b : Nat} (ha : a < s.nodes.length) (hb : b < s.nodes.length) (h : ¬ (clsL s.nodes (a : Int) = clsL s.nodes (b : Int) ∧ namesL s.nodes (a : Int) = namesL s.nodes (b : Int))) : (s.merge (a : Int) (b : Int)).1 = 1 := by
  have e := merge_diff (s := s) ha hb (by
    unfold sameN
    rw [decide_eq_false_iff_not]
    intro q
    refine h ?_
    rw [clsL_in ha, clsL_in hb, namesL_in ha, namesL_in hb]
    exact q)
  rw [e]
theorem Merges_law (hw : WF s) {a b : Nat} (t : Str) (ha : a < s.nodes.length) (hb : b < s.nodes.length) (h : clsL s.nodes (a : Int) = clsL s.nodes (b : Int) ∧ namesL s.nodes (a : Int) = namesL s.nodes (b : Int)) :
    (s.merge (a : Int) (b : Int)).1 = 0 ∧ canon (((s.merge (a : Int) (b : Int)).2.add (a : Int) t).2.2.add (b : Int) t).2.2.nodes (a : Int) = canon s.nodes (a : Int) ∧ canon (((s.merge (a : Int) (b : Int)).2.add (a : Int) t).2.2.add (b : Int) t).2.2.nodes (b : Int) = canon s.nodes (a : Int) ∧
      ((s.merge (a : Int) (b : Int)).2.add (a : Int) t).2.1 = (((s.merge (a : Int) (b : Int)).2.add (a : Int) t).2.2.add (b : Int) t).2.1 ∧ ((s.merge (a : Int) (b : Int)).2.add (a : Int) t).1 = (((s.merge (a : Int) (b : Int)).2.add (a : Int) t).2.2.add (b : Int) t).1 := by
  have hsm : sameN s.nodes[a] s.nodes[b] = true := by
    unfold sameN
    rw [decide_eq_true_eq]
    rw [clsL_in ha, clsL_in hb, namesL_in ha, namesL_in hb] at h
    exact h
  have e := merge_yes (s := s) ha hb hsm
  have hw1 := hw.merge (a : Int) (b : Int)
  have e0 : (s.merge (a : Int) (b : Int)).1 = 0 := by rw [e]
  have hl1 : (s.merge (a : Int) (b : Int)).2.nodes.length = s.nodes.length := merge_len _ _ _
  have hcn : cn (s.merge (a : Int) (b : Int)).2.nodes a = cn s.nodes a ∧ cn (s.merge (a : Int) (b : Int)).2.nodes b = cn s.nodes a := by
    rw [e]
    simp only
    split
    · rename_i q; exact ⟨rfl, q.symm⟩
    · rename_i q
      obtain ⟨d1, h1⟩ := hw.can.setAli ha hb q ha
      obtain ⟨d2, h2⟩ := hw.can.setAli ha hb q hb
      rw [if_neg q] at h1
      rw [if_pos rfl] at h2
      exact ⟨cn_eq h1, cn_eq h2⟩
  generalize (s.merge (a : Int) (b : Int)).2 = s1 at hw1 hl1 hcn ⊢
  have hab : cn s1.nodes a = cn s1.nodes b := by rw [hcn.1, hcn.2]
  have ha1 : a < s1.nodes.length := by omega
  have hb1 : b < s1.nodes.length := by omega
  have hw2 := hw1.add (a : Int) t
  have hl2 : s1.nodes.length ≤ (s1.add (a : Int) t).2.2.nodes.length := by
    obtain ⟨m, q⟩ := add_nodes s1 (a : Int) t
    rw [q]; simp
  have e2 : (s1.add (a : Int) t).2.2.add (b : Int) t = (s1.add (a : Int) t).2.2.add (a : Int) t := (add_cn (by omega) (by omega) (by rw [cn_add hw1 ha1, cn_add hw1 hb1, hab])).symm
  rw [e2]
  obtain ⟨f1, f2, f3⟩ := add_twice hw1 (t := t) ha1
  rw [f1, f2, f3, canonN hw2.can (k := a) (by omega), canonN hw2.can (k := b) (by omega), cn_add hw1 ha1, cn_add hw1 hb1, hcn.1, hcn.2, canonN hw.can ha]
  exact ⟨e0, rfl, rfl, rfl, rfl⟩
def namesAll (l : List Nd) (k : Nat) : List (List Str) := (List.range k).map fun (j : Nat) => namesL l (j : Int)
theorem namesAll_len (l : List Nd) (k : Nat) : (namesAll l k).length = k := by simp [namesAll]
theorem namesAll_succ (l : List Nd) (k : Nat) : namesAll l (k + 1) = namesAll l k ++ [namesL l (k : Int)] := by simp [namesAll, List.range_succ]
theorem namesAll_at {l : List Nd} {k j : Nat} (h : j < (namesAll l k).length) : (namesAll l k)[j] = namesL l (j : Int) := by simp [namesAll]
theorem strss_mk {R : Hp} {v : Value} {xs : List Str} (h : RdS Ty.str R v xs) : Encs (Ty.slice Ty.str) R [xs] [v] := Encs.one (t := Ty.slice Ty.str) ⟨v, rfl, h⟩
end Go.Fx.YtjpdhfhiimbpgaaGreatDoor

set_option linter.unusedSimpArgs false
set_option linter.unusedVariables false
namespace Go.Fx.YtjpdhfhiimbpgaaGreatDoor
open Go Go.Fx Go.Proofs
set_option maxRecDepth 20000

theorem sl_50 : SL Tryz.prog 50 42 := Tryz.underlying50

set_option maxHeartbeats 2000000 in
theorem Merges_spec {w : World} {R : Hp} {v : Value} (n : Int) (acts : List Ac) (xa ya : Int) (hs : Sats w R []) (hv : RdS tyAc R v acts) :
    Calls Tryz.prog 5 #[int n, v, .agg #[int xa, int ya]] w (Comes' w R [] fun v' R' L' => v' = .bool true ∧ L' = []) := by
 have hst := Step.refl hs
 refine calls_of_W (n := 147) Tryz.func5 rfl Tryz.ntmps5 (Nat.le_of_ble_eq_true rfl) ?_
 refine W_seq ?_
 refine W_region_lit ?_
 refine L_new hst (v := fun b => ptr b 0) (ob := .cells #[(int xa), (int ya)] 49 (0, 0)) rfl rfl rfl (by kernel_rfl) (fun b1 w2 hst3 => ?_)
 refine Lq (.bool false) rfl rfl rfl rfl ?_
 refine L_nil ?_
 refine W_seq ?_
 refine W_region_lit ?_
 refine L_callG hst3 (v := (.bool true)) rfl rfl rfl (x_call (vs := #[]) rfl rfl (by kernel_rfl) ent_10) sanity_spec (fun w4 hst5 => ?_)
 refine Lq (.bool true) rfl rfl rfl rfl ?_
 refine L_nil ?_
 refine W_seq ?_
 refine W_region_lit ?_
 refine Lq (int n) rfl rfl rfl rfl ?_
 refine Lq v rfl rfl rfl rfl ?_
 obtain ⟨a6, cap7, e8, hc9⟩ := hv.shape
 subst e8
 have hst10 := hst5
 refine L_callS [] [one b1 (.cells #[(int xa), (int ya)] 49 (0, 0))] hst10 rfl rfl rfl (x_call (vs := #[(int n), (.slice a6 acts.length cap7)]) rfl rfl (by kernel_rfl) ent_20) (played_spec (v := (.slice a6 acts.length cap7)) n acts (hst10.sats.take 0 rfl) (RdS.mono hv (Le.refl _))) (fun v11 w12 R13 L14 hp15 hle16 hst17 => ?_)
 obtain ⟨p18, c19, rfl, rfl, htr20⟩ := hp15
 have hwf := played_wf n acts
 have hcore := played_core n acts
 have hbd := played_bd n acts
 have hpos := played_pos n acts
 obtain ⟨s, hs_⟩ : ∃ s_, s_ = (played n acts) := ⟨_, rfl⟩
 rw [← hs_] at htr20 hwf hcore hbd hpos
 have hnl := hbd.len
 refine Lq (ptr p18 0) rfl rfl rfl rfl ?_
 refine L_nil ?_
 refine W_seq ?_
 refine W_seq ?_
 refine W_region_lit ?_
 refine Lq (ptr p18 0) rfl rfl rfl rfl ?_
 refine Lq (.bool false) rfl rfl rfl (by kernel_rfl) ?_
 refine Lq (.bool false) rfl rfl rfl rfl ?_
 refine L_guard rfl rfl rfl rfl rfl ?_
 refine Lq (ptr p18 0) rfl rfl rfl rfl ?_
 refine L_guard rfl rfl rfl rfl rfl ?_
 refine L_callG hst17 (v := (int (s.nodes.length : Int))) rfl rfl rfl (x_call (vs := #[(ptr p18 0)]) rfl rfl (by kernel_rfl) ent_19) (Count_spec (Tree.view htr20 (hst17.g 0) hst17.rle') (Le.refl _)) (fun w21 hst22 => ?_)
 refine L_guard rfl rfl rfl rfl rfl ?_
 refine Lq (.bool ((s.nodes.length : Int) == 0)) rfl rfl rfl (by kernel_rfl) ?_
 refine Lq (.bool ((s.nodes.length : Int) == 0)) rfl rfl rfl rfl ?_
 refine L_nil ?_
 have c23 : ((s.nodes.length : Int) == 0) = false := (beqF (by omega))
 have q24 := ne_of_beq_false c23
 refine W_cond_false (by show Value.bool _ = _; exact congrArg Value.bool c23) ?_
 refine W_skip ?_
 refine W_seq ?_
 refine W_region_lit ?_
 refine Lq (ptr p18 0) rfl rfl rfl rfl ?_
 refine L_callG hst22 (v := (int (s.nodes.length : Int))) rfl rfl rfl (x_call (vs := #[(ptr p18 0)]) rfl rfl (by kernel_rfl) ent_19) (Count_spec (Tree.view htr20 (hst22.g 0) hst22.rle') (Le.refl _)) (fun w25 hst26 => ?_)
 refine Lq (int (s.nodes.length : Int)) rfl rfl rfl rfl ?_
 refine L_nil ?_
 refine W_seq ?_
 refine W_region_draw [] (fun w => Le R13 (hp w) ∧ Le (one b1 (.cells #[(int xa), (int ya)] 49 (0, 0))) (hp w)) hmix (by decide +kernel) (fun _ _ h => h) ?_
 have hst28 := hst26.draws (w25.drawn + 1)
 generalize draws w25 (w25.drawn + 1) = w27 at hst28 ⊢
 refine LP (ptr b1 0) 0 rfl rfl rfl (fun u30 => (by kernel_rfl)) ⟨hst28.rle', hst28.g 1⟩ ?_
 refine LT (int xa) 1 rfl rfl rfl (fun u33 hF34 => (x_load rfl rfl (run_loadVar_one ti_3 (hF34.2 _ _ (one_self _ _)) rfl))) ⟨hst28.rle', hst28.g 1⟩ ?_
 refine LP (int (s.nodes.length : Int)) 2 rfl rfl rfl (fun u36 => rfl) ⟨hst28.rle', hst28.g 1⟩ ?_
 have hb41 := tmod_bd xa (m := (s.nodes.length : Int)) (by omega)
 refine LP (int (Int.tmod xa (s.nodes.length : Int))) 3 rfl rfl rfl (fun u39 => (x_rem rfl rfl rfl (by omega))) ⟨hst28.rle', hst28.g 1⟩ ?_
 refine LP (int (s.nodes.length : Int)) 4 rfl rfl rfl (fun u43 => rfl) ⟨hst28.rle', hst28.g 1⟩ ?_
 refine LP (int (Int.tmod xa (s.nodes.length : Int) + (s.nodes.length : Int))) 5 rfl rfl rfl (fun u46 => (x_add rfl rfl rfl (by constructor <;> omega))) ⟨hst28.rle', hst28.g 1⟩ ?_
 refine LP (int (s.nodes.length : Int)) 6 rfl rfl rfl (fun u49 => rfl) ⟨hst28.rle', hst28.g 1⟩ ?_
 have hb54 := kN_lt xa (m := (s.nodes.length : Int)) (by omega)
 refine LP (int (((kN (s.nodes.length : Int) xa) : Nat) : Int)) 7 rfl rfl rfl (fun u52 => (x_kN rfl rfl rfl (by omega))) ⟨hst28.rle', hst28.g 1⟩ ?_
 refine LP (ptr b1 1) 8 rfl rfl rfl (fun u56 => (by kernel_rfl)) ⟨hst28.rle', hst28.g 1⟩ ?_
 refine LT (int ya) 9 rfl rfl rfl (fun u59 hF60 => (x_load rfl rfl (run_loadVar_one ti_3 (hF60.2 _ _ (one_self _ _)) rfl))) ⟨hst28.rle', hst28.g 1⟩ ?_
 refine LP (int (s.nodes.length : Int)) 10 rfl rfl rfl (fun u62 => rfl) ⟨hst28.rle', hst28.g 1⟩ ?_
 have hb67 := tmod_bd ya (m := (s.nodes.length : Int)) (by omega)
 refine LP (int (Int.tmod ya (s.nodes.length : Int))) 11 rfl rfl rfl (fun u65 => (x_rem rfl rfl rfl (by omega))) ⟨hst28.rle', hst28.g 1⟩ ?_
 refine LP (int (s.nodes.length : Int)) 12 rfl rfl rfl (fun u69 => rfl) ⟨hst28.rle', hst28.g 1⟩ ?_
 refine LP (int (Int.tmod ya (s.nodes.length : Int) + (s.nodes.length : Int))) 13 rfl rfl rfl (fun u72 => (x_add rfl rfl rfl (by constructor <;> omega))) ⟨hst28.rle', hst28.g 1⟩ ?_
 refine LP (int (s.nodes.length : Int)) 14 rfl rfl rfl (fun u75 => rfl) ⟨hst28.rle', hst28.g 1⟩ ?_
 have hb80 := kN_lt ya (m := (s.nodes.length : Int)) (by omega)
 refine LP (int (((kN (s.nodes.length : Int) ya) : Nat) : Int)) 15 rfl rfl rfl (fun u78 => (x_kN rfl rfl rfl (by omega))) ⟨hst28.rle', hst28.g 1⟩ ?_
 refine LP (int (((kN (s.nodes.length : Int) xa) : Nat) : Int)) 16 rfl rfl rfl (fun u82 => rfl) ⟨hst28.rle', hst28.g 1⟩ ?_
 refine LP (int (((kN (s.nodes.length : Int) ya) : Nat) : Int)) 17 rfl rfl rfl (fun u85 => rfl) ⟨hst28.rle', hst28.g 1⟩ ?_
 refine LA_done (by decide +kernel) ?_
 refine W_seq ?_
 obtain ⟨ka, hka⟩ : ∃ k_, k_ = (kN (s.nodes.length : Int) xa) := ⟨_, rfl⟩
 have hlka : ka < s.nodes.length := by rw [hka]; omega
 rw [← hka]
 obtain ⟨kb, hkb⟩ : ∃ k_, k_ = (kN (s.nodes.length : Int) ya) := ⟨_, rfl⟩
 have hlkb : kb < s.nodes.length := by rw [hkb]; omega
 rw [← hkb]
 refine W_region_lit ?_
 refine Lq (.slice none 0 0) rfl rfl rfl rfl ?_
 refine L_nil ?_
 refine W_seq ?_
 refine W_seq ?_
 have ho87 : OwnL (Ty.slice Ty.str) 42 R13 (.slice none 0 0) ([] : List (List Str)) non := OwnL.empty _ _ _
 have hst88 := hst28.nothing
 refine W_region_lit ?_
 refine Lq (int 0) rfl rfl rfl rfl ?_
 refine L_nil ?_
 refine W_block ?_
 refine W_loop (I := fun σ w_ m_ => ∃ (σ0 : Fr) (R_ : Hp) (k_ : Nat) (v_ : Value) (cT : Hp) (cB : Hp), σ = upd (upd (upd (upd (upd (upd (upd (upd (upd (upd (upd (upd (upd (upd (upd (upd (upd (upd (upd (upd (upd (upd (upd (upd (upd (upd (upd (upd (upd (upd (upd (upd (upd (upd (upd (upd (upd (upd (upd (upd (upd σ0 0 (int n)) 1 (.slice a6 acts.length cap7)) 2 (.agg #[(int xa), (int ya)])) 5 (ptr b1 0)) 6 (.bool false)) 7 (.bool true)) 8 (ptr p18 0)) 9 (int (s.nodes.length : Int))) 10 (int (ka : Int))) 11 (int (kb : Int))) 12 v_) 13 (int (k_ : Int))) 22 (.bool true)) 23 (int n)) 24 (.slice a6 acts.length cap7)) 25 (ptr p18 0)) 26 (ptr p18 0)) 27 (.bool false)) 28 (.bool false)) 29 (ptr p18 0)) 30 (int (s.nodes.length : Int))) 31 (.bool ((s.nodes.length : Int) == 0))) 32 (.bool ((s.nodes.length : Int) == 0))) 33 (ptr p18 0)) 34 (int (s.nodes.length : Int))) 35 (ptr b1 0)) 36 (int xa)) 37 (int (s.nodes.length : Int))) 38 (int (Int.tmod xa (s.nodes.length : Int)))) 39 (int (s.nodes.length : Int))) 40 (int (Int.tmod xa (s.nodes.length : Int) + (s.nodes.length : Int)))) 41 (int (s.nodes.length : Int))) 42 (int (ka : Int))) 43 (ptr b1 1)) 44 (int ya)) 45 (int (s.nodes.length : Int))) 46 (int (Int.tmod ya (s.nodes.length : Int)))) 47 (int (s.nodes.length : Int))) 48 (int (Int.tmod ya (s.nodes.length : Int) + (s.nodes.length : Int)))) 49 (int (s.nodes.length : Int))) 50 (int (kb : Int)) ∧ mks (σ0 0) = [] ∧ Step w R [] w_ R_ [cT, cB] ∧ Le R13 R_ ∧ Tree R_ p18 s cT ∧ OwnL (Ty.slice Ty.str) 42 R_ v_ (namesAll s.nodes k_) cB ∧ k_ ≤ s.nodes.length ∧ m_ = s.nodes.length - k_) (m := s.nodes.length - 0) ?_ ?_
 ·
  exact ⟨_, _, 0, (.slice none 0 0), c19, non, (upd_of (upd_of (upd_of (upd_of (upd_of (upd_of (upd_of (upd_of (upd_of (upd_of (upd_of (upd_of (upd_of (upd_of (upd_of (upd_of (upd_of (upd_of (upd_of (upd_of (upd_of (upd_of (upd_of (upd_of (upd_of (upd_of (upd_of (upd_of (upd_of (upd_of (upd_of (upd_of (upd_of (upd_of (upd_of (upd_of (upd_of (upd_of (upd_of (upd_of (upd_of rfl rfl) rfl) rfl) rfl) rfl) rfl) rfl) rfl) rfl) rfl) rfl) rfl) rfl) rfl) rfl) rfl) rfl) rfl) rfl) rfl) rfl) rfl) rfl) rfl) rfl) rfl) rfl) rfl) rfl) rfl) rfl) rfl) rfl) rfl) rfl) rfl) rfl) rfl) rfl) rfl) rfl), rfl, ((hst88.front 1 rfl rfl).keepN 2 rfl), Le.refl _, htr20, ho87, (by omega), rfl⟩
 ·
  rintro m102 σ_ w91 ⟨s96, R97, k_98, v_99, cT100, cB101, rfl, hmk89, hst90, hle92, hi93, hi94, hf95, rfl⟩
  have hal := namesAll_len s.nodes k_98
  refine W_seq ?_
  refine W_seq ?_
  refine W_region_lit ?_
  refine Lq (int (k_98 : Int)) rfl rfl rfl rfl ?_
  refine Lq (int (s.nodes.length : Int)) rfl rfl rfl rfl ?_
  refine Lq (.bool (decide ((k_98 : Int) < (s.nodes.length : Int)))) rfl rfl rfl (by kernel_rfl) ?_
  refine L_nil ?_
  rcases Bool.eq_false_or_eq_true (decide ((k_98 : Int) < (s.nodes.length : Int))) with c103 | c103
  ·
   have q104 := of_decide_eq_true c103
   refine W_cond_true (by show Value.bool _ = _; exact congrArg Value.bool c103) ?_
   refine W_skip ?_
   refine W_seq ?_
   refine W_block ?_
   refine W_region_lit ?_
   refine Lq v_99 rfl rfl rfl rfl ?_
   refine Lq (ptr p18 0) rfl rfl rfl rfl ?_
   refine Lq (int (k_98 : Int)) rfl rfl rfl rfl ?_
   have hst105 := hst90
   refine L_callS [] [cT100, cB101] hst105 rfl rfl rfl (x_call (vs := #[(ptr p18 0), (int (k_98 : Int))]) rfl rfl (by kernel_rfl) ent_24) (Names_spec (k_98 : Int) (hst105.sats.take 0 rfl) (Tree.view hi93 (hst90.g 0) hst90.rle')) (fun v106 w107 R108 L109 hp110 hle111 hst112 => ?_)
   have hm113 := Tree.lift hi93 hle111
   have hm114 := OwnL.mono hi94 hle111
   obtain ⟨c115, rfl, ho116⟩ := hp110
   obtain ⟨R117, hst118, hle119, hc120⟩ := Step.frz hst112
   have hm121 := Tree.lift hm113 hle119
   have hm122 := OwnL.mono hm114 hle119
   have hrd123 := OwnL.freeze ho116 hle119 hc120
   have hnl124 := namesL_len (Tree.small hm121) (k_98 : Int)
   obtain ⟨a125, cap126, e127, hc128⟩ := hrd123.shape
   subst e127
   refine L_new hst118 (v := fun b => .slice (some ⟨b, 0, none⟩) 1 1) (ob := .cells #[(.slice a125 ((namesL s.nodes (k_98 : Int)).length) cap126)] 42 (0, 0)) rfl rfl rfl (by kernel_rfl) (fun b129 w130 hst131 => ?_)
   refine L_append hst131 (t := 50) (e := 42) (ys := [(namesL s.nodes (k_98 : Int))]) (src := [(.slice a125 ((namesL s.nodes (k_98 : Int)).length) cap126)]) 2 rfl rfl rfl rfl rfl rfl sl_50 ti_42 rfl rfl rfl hm122 (src_own (hst131.b 0)) (strss_mk (RdS.mono hrd123 (Le.refl _))) rfl (by first | omega | (simp only [List.length_append, List.length_cons, List.length_nil]; omega)) (by first | (simp only [maxLen]; omega) | (simp only [List.length_append, List.length_cons, List.length_nil, maxLen]; omega)) (fun v132 c133 w134 ho135 hst136 => ?_)
   refine Lq v132 rfl rfl rfl rfl ?_
   refine L_nil ?_
   refine W_region_lit ?_
   refine Lq (int (k_98 : Int)) rfl rfl rfl rfl ?_
   refine Lq (int ((k_98 + 1 : Nat) : Int)) rfl rfl rfl (x_add_nat rfl rfl rfl (by omega)) ?_
   refine Lq (int ((k_98 + 1 : Nat) : Int)) rfl rfl rfl rfl ?_
   refine L_nil ?_
   refine ⟨s.nodes.length - (k_98 + 1), by first | omega | (simp only [List.length_append, List.length_cons, List.length_nil]; omega), ?_⟩
   exact ⟨_, _, (k_98 + 1), v132, cT100, c133, (upd_of (upd_of (upd_of (upd_of (upd_of (upd_of (upd_of (upd_of (upd_of (upd_of (upd_of (upd_of (upd_of (upd_of (upd_of (upd_of (upd_of (upd_of (upd_of (upd_of (upd_of (upd_of (upd_of (upd_of (upd_of (upd_of (upd_of (upd_of (upd_of (upd_of (upd_of (upd_of (upd_of (upd_of (upd_of (upd_of (upd_of (upd_of (upd_of (upd_of (upd_of rfl rfl) rfl) rfl) rfl) rfl) rfl) rfl) rfl) rfl) rfl) rfl) rfl) rfl) rfl) rfl) rfl) rfl) rfl) rfl) rfl) rfl) rfl) rfl) rfl) rfl) rfl) rfl) rfl) rfl) rfl) rfl) rfl) rfl) rfl) rfl) rfl) rfl) rfl) rfl) rfl) rfl), hmk89, ((hst136.front 2 rfl rfl).keepN 2 rfl), (Le.trans hle92 (Le.trans hle111 hle119)), hm121, (Eq.mp (congrArg (fun l_ => OwnL (Ty.slice Ty.str) 42 R117 v132 l_ c133) (namesAll_succ s.nodes k_98).symm) ho135), (by omega), rfl⟩
  ·
   have q137 := of_decide_eq_false c103
   refine W_cond_false (by show Value.bool _ = _; exact congrArg Value.bool c103) ?_
   refine W_exit ?_
   refine W_seq ?_
   obtain ⟨m0, hm0⟩ : ∃ m_, m_ = s.nodes.length := ⟨_, rfl⟩
   have hkm : k_98 = s.nodes.length := by omega
   obtain ⟨R138, hst139, hle140, hc141⟩ := Step.frz (hst90.front 1 rfl rfl)
   have hm142 := Tree.lift hi93 hle140
   have hrd143 := OwnL.freeze hi94 hle140 hc141
   rw [hkm] at hrd143
   have haln := namesAll_len s.nodes s.nodes.length
   refine W_region_lit ?_
   refine Lq (ptr p18 0) rfl rfl rfl rfl ?_
   refine Lq (int (ka : Int)) rfl rfl rfl rfl ?_
   refine L_callG hst139 (v := (int (clsL s.nodes (ka : Int)))) rfl rfl rfl (x_call (vs := #[(ptr p18 0), (int (ka : Int))]) rfl rfl (by kernel_rfl) ent_22) (Class_spec (ka : Int) (Tree.view hm142 (hst139.g 0) hst139.rle') (Le.refl _)) (fun w144 hst145 => ?_)
   refine Lq (ptr p18 0) rfl rfl rfl rfl ?_
   refine Lq (int (kb : Int)) rfl rfl rfl rfl ?_
   refine L_callG hst145 (v := (int (clsL s.nodes (kb : Int)))) rfl rfl rfl (x_call (vs := #[(ptr p18 0), (int (kb : Int))]) rfl rfl (by kernel_rfl) ent_22) (Class_spec (kb : Int) (Tree.view hm142 (hst145.g 0) hst145.rle') (Le.refl _)) (fun w146 hst147 => ?_)
   refine Lq (.bool ((clsL s.nodes (ka : Int)) == (clsL s.nodes (kb : Int)))) rfl rfl rfl (by kernel_rfl) ?_
   refine Lq (.bool ((clsL s.nodes (ka : Int)) == (clsL s.nodes (kb : Int)))) rfl rfl rfl rfl ?_
   rcases Bool.eq_false_or_eq_true ((clsL s.nodes (ka : Int)) == (clsL s.nodes (kb : Int))) with c148 | c148
   ·
    have q149 := eq_of_beq c148
    refine L_guard rfl rfl rfl rfl c148 ?_
    refine Lq (ptr p18 0) rfl rfl rfl rfl ?_
    refine L_guard rfl rfl rfl rfl c148 ?_
    refine Lq (int (ka : Int)) rfl rfl rfl rfl ?_
    refine L_guard rfl rfl rfl rfl c148 ?_
    have hst150 := hst147
    refine L_callS [] [cT100] hst150 rfl rfl rfl (x_call (vs := #[(ptr p18 0), (int (ka : Int))]) rfl rfl (by kernel_rfl) ent_24) (Names_spec (ka : Int) (hst150.sats.take 0 rfl) (Tree.view hm142 (hst147.g 0) hst147.rle')) (fun v151 w152 R153 L154 hp155 hle156 hst157 => ?_)
    have hm158 := Tree.lift hm142 hle156
    obtain ⟨c159, rfl, ho160⟩ := hp155
    obtain ⟨R161, hst162, hle163, hc164⟩ := Step.frz hst157
    have hm165 := Tree.lift hm158 hle163
    have hrd166 := OwnL.freeze ho160 hle163 hc164
    have hnl167 := namesL_len (Tree.small hm165) (ka : Int)
    refine L_guard rfl rfl rfl rfl c148 ?_
    refine Lq (ptr p18 0) rfl rfl rfl rfl ?_
    refine L_guard rfl rfl rfl rfl c148 ?_
    refine Lq (int (kb : Int)) rfl rfl rfl rfl ?_
    refine L_guard rfl rfl rfl rfl c148 ?_
    have hst168 := hst162
    refine L_callS [] [cT100] hst168 rfl rfl rfl (x_call (vs := #[(ptr p18 0), (int (kb : Int))]) rfl rfl (by kernel_rfl) ent_24) (Names_spec (kb : Int) (hst168.sats.take 0 rfl) (Tree.view hm165 (hst162.g 0) hst162.rle')) (fun v169 w170 R171 L172 hp173 hle174 hst175 => ?_)
    have hm176 := Tree.lift hm165 hle174
    obtain ⟨c177, rfl, ho178⟩ := hp173
    obtain ⟨R179, hst180, hle181, hc182⟩ := Step.frz hst175
    have hm183 := Tree.lift hm176 hle181
    have hrd184 := OwnL.freeze ho178 hle181 hc182
    have hnl185 := namesL_len (Tree.small hm183) (kb : Int)
    refine L_guard rfl rfl rfl rfl c148 ?_
    obtain ⟨a186, cap187, e188, hc189⟩ := hrd166.shape
    subst e188
    obtain ⟨a190, cap191, e192, hc193⟩ := hrd184.shape
    subst e192
    refine L_callG hst180 (v := (.bool (decide ((namesL s.nodes (ka : Int)) = (namesL s.nodes (kb : Int)))))) rfl rfl rfl (x_call (vs := #[(.slice a186 ((namesL s.nodes (ka : Int)).length) cap187), (.slice a190 ((namesL s.nodes (kb : Int)).length) cap191)]) rfl rfl (by kernel_rfl) ent_23) (EqualR_spec (Le.refl _) (RdS.mono hrd166 (Le.trans hle174 (Le.trans hle181 hst180.rle'))) (RdS.mono hrd184 hst180.rle') (by first | omega | assumption | (simp only [List.length_append, List.length_cons, List.length_nil]; omega)) (by first | omega | assumption | (simp only [List.length_append, List.length_cons, List.length_nil]; omega))) (fun w194 hst195 => ?_)
    refine Lq (.bool (decide ((namesL s.nodes (ka : Int)) = (namesL s.nodes (kb : Int))))) rfl rfl rfl (x_pick rfl rfl (by rw [c148]; rfl)) ?_
    refine Lq (.bool (decide ((namesL s.nodes (ka : Int)) = (namesL s.nodes (kb : Int))))) rfl rfl rfl rfl ?_
    refine L_nil ?_
    refine W_seq ?_
    refine W_region_lit ?_
    refine Lq (ptr p18 0) rfl rfl rfl rfl ?_
    refine Lq (int (ka : Int)) rfl rfl rfl rfl ?_
    refine L_callG hst195 (v := (int (canon s.nodes (ka : Int)))) rfl rfl rfl (x_call (vs := #[(ptr p18 0), (int (ka : Int))]) rfl rfl (by kernel_rfl) ent_21) (Canon_spec (ka : Int) (Tree.view hm183 (hst195.g 0) hst195.rle') (Le.refl _)) (fun w196 hst197 => ?_)
    refine Lq (int (canon s.nodes (ka : Int))) rfl rfl rfl rfl ?_
    refine L_nil ?_
    refine W_seq ?_
    refine W_region_lit ?_
    refine Lq (ptr p18 0) rfl rfl rfl rfl ?_
    refine Lq (int (ka : Int)) rfl rfl rfl rfl ?_
    refine Lq (int (kb : Int)) rfl rfl rfl rfl ?_
    have hst198 := hst197
    refine L_callS [cT100] [] hst198 rfl rfl rfl (x_call (vs := #[(ptr p18 0), (int (ka : Int)), (int (kb : Int))]) rfl rfl (by kernel_rfl) ent_27) (Merge_spec (ka : Int) (kb : Int) (hst198.sats.take 1 rfl) hm183) (fun v199 w200 R201 L202 hp203 hle204 hst205 => ?_)
    obtain ⟨c206, rfl, rfl, htr207⟩ := hp203
    refine Lq (int ((s.merge (ka : Int) (kb : Int)).1)) rfl rfl rfl rfl ?_
    refine L_nil ?_
    refine W_seq ?_
    refine W_seq ?_
    have hmn := merge_names s hwf (ka : Int) (kb : Int)
    have hml : (s.merge (ka : Int) (kb : Int)).2.nodes.length = s.nodes.length := merge_len _ _ _
    refine W_region_lit ?_
    refine Lq (int 0) rfl rfl rfl rfl ?_
    refine L_nil ?_
    refine W_block ?_
    refine W_loop (I := fun σ w_ m_ => ∃ (σ0 : Fr) (R_ : Hp) (k_ : Nat) (cT : Hp), σ = upd (upd (upd (upd (upd (upd (upd (upd (upd (upd (upd (upd (upd (upd (upd (upd (upd (upd (upd (upd (upd (upd (upd (upd (upd (upd (upd (upd (upd (upd (upd (upd (upd (upd (upd (upd (upd (upd (upd (upd (upd (upd (upd (upd (upd (upd (upd (upd (upd (upd (upd (upd (upd (upd (upd (upd (upd (upd (upd (upd (upd (upd (upd (upd (upd (upd (upd (upd (upd (upd σ0 0 (int n)) 1 (.slice a6 acts.length cap7)) 2 (.agg #[(int xa), (int ya)])) 5 (ptr b1 0)) 7 (.bool true)) 8 (ptr p18 0)) 9 (int (s.nodes.length : Int))) 10 (int (ka : Int))) 11 (int (kb : Int))) 12 v_99) 13 (int (k_98 : Int))) 14 (.bool (decide ((namesL s.nodes (ka : Int)) = (namesL s.nodes (kb : Int)))))) 15 (int (canon s.nodes (ka : Int)))) 16 (int ((s.merge (ka : Int) (kb : Int)).1))) 17 (int (k_ : Int))) 22 (.bool true)) 23 (int n)) 24 (.slice a6 acts.length cap7)) 25 (ptr p18 0)) 26 (ptr p18 0)) 27 (.bool false)) 28 (.bool false)) 29 (ptr p18 0)) 30 (int (s.nodes.length : Int))) 31 (.bool ((s.nodes.length : Int) == 0))) 32 (.bool ((s.nodes.length : Int) == 0))) 33 (ptr p18 0)) 34 (int (s.nodes.length : Int))) 35 (ptr b1 0)) 36 (int xa)) 37 (int (s.nodes.length : Int))) 38 (int (Int.tmod xa (s.nodes.length : Int)))) 39 (int (s.nodes.length : Int))) 40 (int (Int.tmod xa (s.nodes.length : Int) + (s.nodes.length : Int)))) 41 (int (s.nodes.length : Int))) 42 (int (ka : Int))) 43 (ptr b1 1)) 44 (int ya)) 45 (int (s.nodes.length : Int))) 46 (int (Int.tmod ya (s.nodes.length : Int)))) 47 (int (s.nodes.length : Int))) 48 (int (Int.tmod ya (s.nodes.length : Int) + (s.nodes.length : Int)))) 49 (int (s.nodes.length : Int))) 50 (int (kb : Int))) 51 (int (k_98 : Int))) 52 (int (s.nodes.length : Int))) 53 (.bool (decide ((k_98 : Int) < (s.nodes.length : Int))))) 62 (ptr p18 0)) 63 (int (ka : Int))) 64 (int (clsL s.nodes (ka : Int)))) 65 (ptr p18 0)) 66 (int (kb : Int))) 67 (int (clsL s.nodes (kb : Int)))) 68 (.bool ((clsL s.nodes (ka : Int)) == (clsL s.nodes (kb : Int))))) 69 (.bool ((clsL s.nodes (ka : Int)) == (clsL s.nodes (kb : Int))))) 70 (ptr p18 0)) 71 (int (ka : Int))) 72 (.slice a186 ((namesL s.nodes (ka : Int)).length) cap187)) 73 (ptr p18 0)) 74 (int (kb : Int))) 75 (.slice a190 ((namesL s.nodes (kb : Int)).length) cap191)) 76 (.bool (decide ((namesL s.nodes (ka : Int)) = (namesL s.nodes (kb : Int)))))) 77 (.bool (decide ((namesL s.nodes (ka : Int)) = (namesL s.nodes (kb : Int)))))) 78 (ptr p18 0)) 79 (int (ka : Int))) 80 (int (canon s.nodes (ka : Int)))) 81 (ptr p18 0)) 82 (int (ka : Int))) 83 (int (kb : Int))) 84 (int ((s.merge (ka : Int) (kb : Int)).1)) ∧ mks (σ0 0) = [] ∧ Step w R [] w_ R_ [cT] ∧ Le R201 R_ ∧ Tree R_ p18 ((s.merge (ka : Int) (kb : Int)).2) cT ∧ k_ ≤ s.nodes.length ∧ m_ = s.nodes.length - k_) (m := s.nodes.length - 0) ?_ ?_
    ·
     exact ⟨_, _, 0, c206, (upd_of (upd_of (upd_of (upd_of (upd_of (upd_of (upd_of (upd_of (upd_of (upd_of (upd_of (upd_of (upd_of (upd_of (upd_of (upd_of (upd_of (upd_of (upd_of (upd_of (upd_of (upd_of (upd_of (upd_of (upd_of (upd_of (upd_of (upd_of (upd_of (upd_of (upd_of (upd_of (upd_of (upd_of (upd_of (upd_of (upd_of (upd_of (upd_of (upd_of (upd_of (upd_of (upd_of (upd_of (upd_of (upd_of (upd_of (upd_of (upd_of (upd_of (upd_of (upd_of (upd_of (upd_of (upd_of (upd_of (upd_of (upd_of (upd_of (upd_of (upd_of (upd_of (upd_of (upd_of (upd_of (upd_of (upd_of (upd_of (upd_of (upd_of rfl rfl) rfl) rfl) rfl) rfl) rfl) rfl) rfl) rfl) rfl) rfl) rfl) rfl) rfl) rfl) rfl) rfl) rfl) rfl) rfl) rfl) rfl) rfl) rfl) rfl) rfl) rfl) rfl) rfl) rfl) rfl) rfl) rfl) rfl) rfl) rfl) rfl) rfl) rfl) rfl) rfl) rfl) rfl) rfl) rfl) rfl) rfl) rfl) rfl) rfl) rfl) rfl) rfl) rfl) rfl) rfl) rfl) rfl) rfl) rfl) rfl) rfl) rfl) rfl) rfl) rfl) rfl) rfl) rfl) rfl), hmk89, hst205, Le.refl _, htr207, (by omega), rfl⟩
    ·
     rintro m218 σ_ w210 ⟨s214, R215, k_216, cT217, rfl, hmk208, hst209, hle211, hi212, hf213, rfl⟩
     refine W_seq ?_
     refine W_seq ?_
     refine W_region_lit ?_
     refine Lq (int (k_216 : Int)) rfl rfl rfl rfl ?_
     refine Lq (int (s.nodes.length : Int)) rfl rfl rfl rfl ?_
     refine Lq (.bool (decide ((k_216 : Int) < (s.nodes.length : Int)))) rfl rfl rfl (by kernel_rfl) ?_
     refine L_nil ?_
     rcases Bool.eq_false_or_eq_true (decide ((k_216 : Int) < (s.nodes.length : Int))) with c219 | c219
     ·
      have q220 := of_decide_eq_true c219
      refine W_cond_true (by show Value.bool _ = _; exact congrArg Value.bool c219) ?_
      refine W_skip ?_
      refine W_seq ?_
      refine W_block ?_
      refine W_seq ?_
      refine W_region_draw [] (fun w => Le R215 (hp w)) hmix (by decide +kernel) (fun _ _ h => h) ?_
      have hst222 := hst209.draws (w210.drawn + 1)
      generalize draws w210 (w210.drawn + 1) = w221 at hst222 ⊢
      refine LP (ptr p18 0) 0 rfl rfl rfl (fun u224 => rfl) hst222.rle' ?_
      refine LP (int (k_216 : Int)) 1 rfl rfl rfl (fun u227 => rfl) hst222.rle' ?_
      refine LP v_99 3 rfl rfl rfl (fun u232 => rfl) hst222.rle' ?_
      refine LP (int (k_216 : Int)) 4 rfl rfl rfl (fun u237 => rfl) hst222.rle' ?_
      obtain ⟨a244, cap245, e246, hc247⟩ := hrd143.shape
      subst e246
      obtain ⟨b248, off249, cap250, cs251, T252, fz253, e254, hc255, hb256, he257⟩ := hrd143.open (by omega)
      cases e254
      obtain ⟨cl258, hs259, hr260⟩ := he257.at k_216 (by omega)
      rw [namesAll_at] at hr260
      obtain ⟨v261, rfl, h262⟩ := hr260
      have hnb263 := namesL_bd hbd.names (k_216 : Int)
      refine LP (ptr b248 (off249 + k_216 * 1)) 5 rfl rfl rfl (fun u242 => (x_indexAddr' rfl sl_50 ti_42 rfl rfl (by omega))) hst222.rle' ?_
      refine LT v261 6 rfl rfl rfl (fun u267 hF268 => (x_load rfl rfl (run_loadVar_one ti_42 ((Le.trans hle156 (Le.trans hle163 (Le.trans hle174 (Le.trans hle181 (Le.trans hle204 (Le.trans hle211 hF268)))))) _ _ hb256) (seg_get (j := 0) hs259 rfl)))) hst222.rle' ?_
      refine LA_all [2] (by decide +kernel) (by simp) ?_
      intro i_ hi_
      simp only [List.mem_cons, List.not_mem_nil, or_false] at hi_
      subst hi_
      have hst272 := hst222
      refine One_callS (i := 2) [] [cT217] hst272 rfl rfl rfl (Want.plain rfl) (x_call (vs := #[(ptr p18 0), (int (k_216 : Int))]) rfl rfl (by kernel_rfl) ent_24) (Names_spec (k_216 : Int) (hst272.sats.take 0 rfl) (Tree.view hi212 (hst222.g 0) hst222.rle')) (fun v273 w274 R275 L276 hp277 hle278 hst279 => ?_)
      have hm280 := Tree.lift hi212 hle278
      obtain ⟨c281, rfl, ho282⟩ := hp277
      obtain ⟨R283, hst284, hle285, hc286⟩ := Step.frz hst279
      have hm287 := Tree.lift hm280 hle285
      have hrd288 := OwnL.freeze ho282 hle285 hc286
      have hnl289 := namesL_len (Tree.small hm287) (k_216 : Int)
      refine ⟨(fun _ => (Le.trans hle278 (Le.trans hle285 hst284.rle'))), ?_⟩
      refine LA_all [7] (by decide +kernel) (by simp) ?_
      intro i_ hi_
      simp only [List.mem_cons, List.not_mem_nil, or_false] at hi_
      subst hi_
      obtain ⟨a293, cap294, e295, hc296⟩ := hrd288.shape
      subst e295
      obtain ⟨a297, cap298, e299, hc300⟩ := h262.shape
      subst e299
      refine One_call (i := 7) rfl rfl rfl (Want.plain rfl) (x_call (vs := #[(.slice a293 ((namesL ((s.merge (ka : Int) (kb : Int)).2).nodes (k_216 : Int)).length) cap294), (.slice a297 ((namesL s.nodes (k_216 : Int)).length) cap298)]) rfl rfl (by kernel_rfl) ent_23) (EqualR_spec (Le.refl _) (RdS.mono hrd288 hst284.rle') (RdS.mono h262 (Le.trans hle156 (Le.trans hle163 (Le.trans hle174 (Le.trans hle181 (Le.trans hle204 (Le.trans hle211 (Le.trans hle278 (Le.trans hle285 hst284.rle'))))))))) (by first | omega | assumption | (simp only [List.length_append, List.length_cons, List.length_nil]; omega)) (by first | omega | assumption | (simp only [List.length_append, List.length_cons, List.length_nil]; omega))) ?_
      rintro e303 w301 ⟨rfl, hw304⟩
      have hst302 := hst284.grown hw304
      refine ⟨_, rfl, (fun _ => (Le.trans hle278 (Le.trans hle285 hst302.rle'))), ?_⟩
      refine LP (.bool (!(decide ((namesL ((s.merge (ka : Int) (kb : Int)).2).nodes (k_216 : Int)) = (namesL s.nodes (k_216 : Int)))))) 8 rfl rfl rfl (fun u306 => rfl) (Le.trans hle278 (Le.trans hle285 hst302.rle')) ?_
      refine LA_done (by decide +kernel) ?_
      have c308 : (decide ((namesL ((s.merge (ka : Int) (kb : Int)).2).nodes (k_216 : Int)) = (namesL s.nodes (k_216 : Int)))) = true := (decide_eq_true (hmn _))
      have q309 := of_decide_eq_true c308
      refine W_cond_false (by show Value.bool _ = _; exact congrArg Value.bool (by rw [c308]; rfl)) ?_
      refine W_skip ?_
      refine W_region_lit ?_
      refine Lq (int (k_216 : Int)) rfl rfl rfl rfl ?_
      refine Lq (int ((k_216 + 1 : Nat) : Int)) rfl rfl rfl (x_add_nat rfl rfl rfl (by omega)) ?_
      refine Lq (int ((k_216 + 1 : Nat) : Int)) rfl rfl rfl rfl ?_
      refine L_nil ?_
      refine ⟨s.nodes.length - (k_216 + 1), by first | omega | (simp only [List.length_append, List.length_cons, List.length_nil]; omega), ?_⟩
      exact ⟨_, _, (k_216 + 1), cT217, (upd_of (upd_of (upd_of (upd_of (upd_of (upd_of (upd_of (upd_of (upd_of (upd_of (upd_of (upd_of (upd_of (upd_of (upd_of (upd_of (upd_of (upd_of (upd_of (upd_of (upd_of (upd_of (upd_of (upd_of (upd_of (upd_of (upd_of (upd_of (upd_of (upd_of (upd_of (upd_of (upd_of (upd_of (upd_of (upd_of (upd_of (upd_of (upd_of (upd_of (upd_of (upd_of (upd_of (upd_of (upd_of (upd_of (upd_of (upd_of (upd_of (upd_of (upd_of (upd_of (upd_of (upd_of (upd_of (upd_of (upd_of (upd_of (upd_of (upd_of (upd_of (upd_of (upd_of (upd_of (upd_of (upd_of (upd_of (upd_of (upd_of (upd_of rfl rfl) rfl) rfl) rfl) rfl) rfl) rfl) rfl) rfl) rfl) rfl) rfl) rfl) rfl) rfl) rfl) rfl) rfl) rfl) rfl) rfl) rfl) rfl) rfl) rfl) rfl) rfl) rfl) rfl) rfl) rfl) rfl) rfl) rfl) rfl) rfl) rfl) rfl) rfl) rfl) rfl) rfl) rfl) rfl) rfl) rfl) rfl) rfl) rfl) rfl) rfl) rfl) rfl) rfl) rfl) rfl) rfl) rfl) rfl) rfl) rfl) rfl) rfl) rfl) rfl) rfl) rfl) rfl) rfl) rfl), hmk208, hst302, (Le.trans hle211 (Le.trans hle278 hle285)), hm287, (by omega), rfl⟩
     ·
      have q310 := of_decide_eq_false c219
      refine W_cond_false (by show Value.bool _ = _; exact congrArg Value.bool c219) ?_
      refine W_exit ?_
      refine W_seq ?_
      refine W_seq ?_
      refine W_region_lit ?_
      refine Lq (.bool (decide ((namesL s.nodes (ka : Int)) = (namesL s.nodes (kb : Int))))) rfl rfl rfl rfl ?_
      refine Lq (.bool (!(decide ((namesL s.nodes (ka : Int)) = (namesL s.nodes (kb : Int)))))) rfl rfl rfl rfl ?_
      refine L_nil ?_
      rcases Bool.eq_false_or_eq_true (decide ((namesL s.nodes (ka : Int)) = (namesL s.nodes (kb : Int)))) with c311 | c311
      ·
       have q312 := of_decide_eq_true c311
       refine W_cond_false (by show Value.bool _ = _; exact congrArg Value.bool (by rw [c311]; rfl)) ?_
       refine W_skip ?_
       refine W_seq ?_
       obtain ⟨hg1, hg2, hg3, hg4, hg5⟩ := Merges_law hwf ⟨#[110, 101, 119]⟩ hlka hlkb ⟨eq_of_beq c148, of_decide_eq_true c311⟩
       have hga := add_len (s.merge (ka : Int) (kb : Int)).2 (ka : Int) ⟨#[110, 101, 119]⟩
       refine W_region_lit ?_
       refine Lq (ptr p18 0) rfl rfl rfl rfl ?_
       refine Lq (int (ka : Int)) rfl rfl rfl rfl ?_
       have hst313 := hst209
       refine L_callS [cT217] [] hst313 rfl rfl rfl (x_call (vs := #[(ptr p18 0), (int (ka : Int)), (.string ⟨#[110, 101, 119]⟩)]) rfl rfl (by kernel_rfl) ent_28) (Add_spec (ka : Int) ⟨#[110, 101, 119]⟩ (hst313.sats.take 1 rfl) hi212 (by omega)) (fun v314 w315 R316 L317 hp318 hle319 hst320 => ?_)
       obtain ⟨c321, rfl, rfl, htr322⟩ := hp318
       refine Lq (.tuple #[(int ((((s.merge (ka : Int) (kb : Int)).2).add (ka : Int) ⟨#[110, 101, 119]⟩).1)), (int ((((s.merge (ka : Int) (kb : Int)).2).add (ka : Int) ⟨#[110, 101, 119]⟩).2.1))]) rfl rfl rfl rfl ?_
       refine Lq (int ((((s.merge (ka : Int) (kb : Int)).2).add (ka : Int) ⟨#[110, 101, 119]⟩).1)) rfl rfl rfl (by kernel_rfl) ?_
       refine Lq (int ((((s.merge (ka : Int) (kb : Int)).2).add (ka : Int) ⟨#[110, 101, 119]⟩).2.1)) rfl rfl rfl (by kernel_rfl) ?_
       refine Lq (int ((((s.merge (ka : Int) (kb : Int)).2).add (ka : Int) ⟨#[110, 101, 119]⟩).1)) rfl rfl rfl rfl ?_
       refine Lq (int ((((s.merge (ka : Int) (kb : Int)).2).add (ka : Int) ⟨#[110, 101, 119]⟩).2.1)) rfl rfl rfl rfl ?_
       refine L_nil ?_
       refine W_seq ?_
       refine W_region_lit ?_
       refine Lq (ptr p18 0) rfl rfl rfl rfl ?_
       refine Lq (int (kb : Int)) rfl rfl rfl rfl ?_
       have hst323 := hst320
       refine L_callS [c321] [] hst323 rfl rfl rfl (x_call (vs := #[(ptr p18 0), (int (kb : Int)), (.string ⟨#[110, 101, 119]⟩)]) rfl rfl (by kernel_rfl) ent_28) (Add_spec (kb : Int) ⟨#[110, 101, 119]⟩ (hst323.sats.take 1 rfl) htr322 (by omega)) (fun v324 w325 R326 L327 hp328 hle329 hst330 => ?_)
       obtain ⟨c331, rfl, rfl, htr332⟩ := hp328
       refine Lq (.tuple #[(int ((((((s.merge (ka : Int) (kb : Int)).2).add (ka : Int) ⟨#[110, 101, 119]⟩).2.2).add (kb : Int) ⟨#[110, 101, 119]⟩).1)), (int ((((((s.merge (ka : Int) (kb : Int)).2).add (ka : Int) ⟨#[110, 101, 119]⟩).2.2).add (kb : Int) ⟨#[110, 101, 119]⟩).2.1))]) rfl rfl rfl rfl ?_
       refine Lq (int ((((((s.merge (ka : Int) (kb : Int)).2).add (ka : Int) ⟨#[110, 101, 119]⟩).2.2).add (kb : Int) ⟨#[110, 101, 119]⟩).1)) rfl rfl rfl (by kernel_rfl) ?_
       refine Lq (int ((((((s.merge (ka : Int) (kb : Int)).2).add (ka : Int) ⟨#[110, 101, 119]⟩).2.2).add (kb : Int) ⟨#[110, 101, 119]⟩).2.1)) rfl rfl rfl (by kernel_rfl) ?_
       refine Lq (int ((((((s.merge (ka : Int) (kb : Int)).2).add (ka : Int) ⟨#[110, 101, 119]⟩).2.2).add (kb : Int) ⟨#[110, 101, 119]⟩).1)) rfl rfl rfl rfl ?_
       refine Lq (int ((((((s.merge (ka : Int) (kb : Int)).2).add (ka : Int) ⟨#[110, 101, 119]⟩).2.2).add (kb : Int) ⟨#[110, 101, 119]⟩).2.1)) rfl rfl rfl rfl ?_
       refine L_nil ?_
       refine W_seq ?_
       refine W_region_lit ?_
       refine Lq (.bool true) rfl rfl rfl rfl ?_
       refine Lq (.bool true) rfl rfl rfl rfl ?_
       refine L_guard rfl rfl rfl rfl rfl ?_
       refine Lq (int ((s.merge (ka : Int) (kb : Int)).1)) rfl rfl rfl rfl ?_
       refine L_guard rfl rfl rfl rfl rfl ?_
       refine Lq (.bool (((s.merge (ka : Int) (kb : Int)).1) == 0)) rfl rfl rfl (by kernel_rfl) ?_
       refine Lq (.bool (((s.merge (ka : Int) (kb : Int)).1) == 0)) rfl rfl rfl rfl ?_
       refine Lq (.bool (((s.merge (ka : Int) (kb : Int)).1) == 0)) rfl rfl rfl rfl ?_
       have c333 : (((s.merge (ka : Int) (kb : Int)).1) == 0) = true := (by first | exact bneF (by assumption) | exact bneF rfl | exact decide_eq_false (by assumption) | exact decide_eq_true (by assumption) | exact beqT (by assumption) | exact beqT rfl | assumption | exact decide_eq_false (by omega) | exact decide_eq_true (by omega))
       have q334 := eq_of_beq c333
       refine L_guard rfl rfl rfl rfl c333 ?_
       refine Lq (ptr p18 0) rfl rfl rfl rfl ?_
       refine L_guard rfl rfl rfl rfl c333 ?_
       refine Lq (int (ka : Int)) rfl rfl rfl rfl ?_
       refine L_guard rfl rfl rfl rfl c333 ?_
       refine L_callG hst330 (v := (int (canon (((((((s.merge (ka : Int) (kb : Int)).2).add (ka : Int) ⟨#[110, 101, 119]⟩).2.2).add (kb : Int) ⟨#[110, 101, 119]⟩).2.2).nodes) (ka : Int)))) rfl rfl rfl (x_call (vs := #[(ptr p18 0), (int (ka : Int))]) rfl rfl (by kernel_rfl) ent_21) (Canon_spec (ka : Int) (Tree.view htr332 (hst330.g 0) hst330.rle') (Le.refl _)) (fun w335 hst336 => ?_)
       refine L_guard rfl rfl rfl rfl c333 ?_
       refine Lq (int (canon s.nodes (ka : Int))) rfl rfl rfl rfl ?_
       refine L_guard rfl rfl rfl rfl c333 ?_
       refine Lq (.bool ((canon (((((((s.merge (ka : Int) (kb : Int)).2).add (ka : Int) ⟨#[110, 101, 119]⟩).2.2).add (kb : Int) ⟨#[110, 101, 119]⟩).2.2).nodes) (ka : Int)) == (canon s.nodes (ka : Int)))) rfl rfl rfl (by kernel_rfl) ?_
       refine Lq (.bool ((canon (((((((s.merge (ka : Int) (kb : Int)).2).add (ka : Int) ⟨#[110, 101, 119]⟩).2.2).add (kb : Int) ⟨#[110, 101, 119]⟩).2.2).nodes) (ka : Int)) == (canon s.nodes (ka : Int)))) rfl rfl rfl (x_pick rfl rfl (by rw [c333]; rfl)) ?_
       refine Lq (.bool ((canon (((((((s.merge (ka : Int) (kb : Int)).2).add (ka : Int) ⟨#[110, 101, 119]⟩).2.2).add (kb : Int) ⟨#[110, 101, 119]⟩).2.2).nodes) (ka : Int)) == (canon s.nodes (ka : Int)))) rfl rfl rfl rfl ?_
       have c337 : ((canon (((((((s.merge (ka : Int) (kb : Int)).2).add (ka : Int) ⟨#[110, 101, 119]⟩).2.2).add (kb : Int) ⟨#[110, 101, 119]⟩).2.2).nodes) (ka : Int)) == (canon s.nodes (ka : Int))) = true := (by first | exact bneF (by assumption) | exact bneF rfl | exact decide_eq_false (by assumption) | exact decide_eq_true (by assumption) | exact beqT (by assumption) | exact beqT rfl | assumption | exact decide_eq_false (by omega) | exact decide_eq_true (by omega))
       have q338 := eq_of_beq c337
       refine L_guard rfl rfl rfl rfl c337 ?_
       refine Lq (ptr p18 0) rfl rfl rfl rfl ?_
       refine L_guard rfl rfl rfl rfl c337 ?_
       refine Lq (int (kb : Int)) rfl rfl rfl rfl ?_
       refine L_guard rfl rfl rfl rfl c337 ?_
       refine L_callG hst336 (v := (int (canon (((((((s.merge (ka : Int) (kb : Int)).2).add (ka : Int) ⟨#[110, 101, 119]⟩).2.2).add (kb : Int) ⟨#[110, 101, 119]⟩).2.2).nodes) (kb : Int)))) rfl rfl rfl (x_call (vs := #[(ptr p18 0), (int (kb : Int))]) rfl rfl (by kernel_rfl) ent_21) (Canon_spec (kb : Int) (Tree.view htr332 (hst336.g 0) hst336.rle') (Le.refl _)) (fun w339 hst340 => ?_)
       refine L_guard rfl rfl rfl rfl c337 ?_
       refine Lq (int (canon s.nodes (ka : Int))) rfl rfl rfl rfl ?_
       refine L_guard rfl rfl rfl rfl c337 ?_
       refine Lq (.bool ((canon (((((((s.merge (ka : Int) (kb : Int)).2).add (ka : Int) ⟨#[110, 101, 119]⟩).2.2).add (kb : Int) ⟨#[110, 101, 119]⟩).2.2).nodes) (kb : Int)) == (canon s.nodes (ka : Int)))) rfl rfl rfl (by kernel_rfl) ?_
       refine Lq (.bool ((canon (((((((s.merge (ka : Int) (kb : Int)).2).add (ka : Int) ⟨#[110, 101, 119]⟩).2.2).add (kb : Int) ⟨#[110, 101, 119]⟩).2.2).nodes) (kb : Int)) == (canon s.nodes (ka : Int)))) rfl rfl rfl (x_pick rfl rfl (by rw [c337]; rfl)) ?_
       refine Lq (.bool ((canon (((((((s.merge (ka : Int) (kb : Int)).2).add (ka : Int) ⟨#[110, 101, 119]⟩).2.2).add (kb : Int) ⟨#[110, 101, 119]⟩).2.2).nodes) (kb : Int)) == (canon s.nodes (ka : Int)))) rfl rfl rfl rfl ?_
       have c341 : ((canon (((((((s.merge (ka : Int) (kb : Int)).2).add (ka : Int) ⟨#[110, 101, 119]⟩).2.2).add (kb : Int) ⟨#[110, 101, 119]⟩).2.2).nodes) (kb : Int)) == (canon s.nodes (ka : Int))) = true := (by first | exact bneF (by assumption) | exact bneF rfl | exact decide_eq_false (by assumption) | exact decide_eq_true (by assumption) | exact beqT (by assumption) | exact beqT rfl | assumption | exact decide_eq_false (by omega) | exact decide_eq_true (by omega))
       have q342 := eq_of_beq c341
       refine L_guard rfl rfl rfl rfl c341 ?_
       refine Lq (int ((((s.merge (ka : Int) (kb : Int)).2).add (ka : Int) ⟨#[110, 101, 119]⟩).2.1)) rfl rfl rfl rfl ?_
       refine L_guard rfl rfl rfl rfl c341 ?_
       refine Lq (int ((((((s.merge (ka : Int) (kb : Int)).2).add (ka : Int) ⟨#[110, 101, 119]⟩).2.2).add (kb : Int) ⟨#[110, 101, 119]⟩).2.1)) rfl rfl rfl rfl ?_
       refine L_guard rfl rfl rfl rfl c341 ?_
       refine Lq (.bool (((((s.merge (ka : Int) (kb : Int)).2).add (ka : Int) ⟨#[110, 101, 119]⟩).2.1) == ((((((s.merge (ka : Int) (kb : Int)).2).add (ka : Int) ⟨#[110, 101, 119]⟩).2.2).add (kb : Int) ⟨#[110, 101, 119]⟩).2.1))) rfl rfl rfl (by kernel_rfl) ?_
       refine Lq (.bool (((((s.merge (ka : Int) (kb : Int)).2).add (ka : Int) ⟨#[110, 101, 119]⟩).2.1) == ((((((s.merge (ka : Int) (kb : Int)).2).add (ka : Int) ⟨#[110, 101, 119]⟩).2.2).add (kb : Int) ⟨#[110, 101, 119]⟩).2.1))) rfl rfl rfl (x_pick rfl rfl (by rw [c341]; rfl)) ?_
       refine Lq (.bool (((((s.merge (ka : Int) (kb : Int)).2).add (ka : Int) ⟨#[110, 101, 119]⟩).2.1) == ((((((s.merge (ka : Int) (kb : Int)).2).add (ka : Int) ⟨#[110, 101, 119]⟩).2.2).add (kb : Int) ⟨#[110, 101, 119]⟩).2.1))) rfl rfl rfl rfl ?_
       have c343 : (((((s.merge (ka : Int) (kb : Int)).2).add (ka : Int) ⟨#[110, 101, 119]⟩).2.1) == ((((((s.merge (ka : Int) (kb : Int)).2).add (ka : Int) ⟨#[110, 101, 119]⟩).2.2).add (kb : Int) ⟨#[110, 101, 119]⟩).2.1)) = true := (by first | exact bneF (by assumption) | exact bneF rfl | exact decide_eq_false (by assumption) | exact decide_eq_true (by assumption) | exact beqT (by assumption) | exact beqT rfl | assumption | exact decide_eq_false (by omega) | exact decide_eq_true (by omega))
       have q344 := eq_of_beq c343
       refine L_guard rfl rfl rfl rfl c343 ?_
       refine Lq (int ((((s.merge (ka : Int) (kb : Int)).2).add (ka : Int) ⟨#[110, 101, 119]⟩).1)) rfl rfl rfl rfl ?_
       refine L_guard rfl rfl rfl rfl c343 ?_
       refine Lq (int ((((((s.merge (ka : Int) (kb : Int)).2).add (ka : Int) ⟨#[110, 101, 119]⟩).2.2).add (kb : Int) ⟨#[110, 101, 119]⟩).1)) rfl rfl rfl rfl ?_
       refine L_guard rfl rfl rfl rfl c343 ?_
       refine Lq (.bool (((((s.merge (ka : Int) (kb : Int)).2).add (ka : Int) ⟨#[110, 101, 119]⟩).1) == ((((((s.merge (ka : Int) (kb : Int)).2).add (ka : Int) ⟨#[110, 101, 119]⟩).2.2).add (kb : Int) ⟨#[110, 101, 119]⟩).1))) rfl rfl rfl (by kernel_rfl) ?_
       refine Lq (.bool (((((s.merge (ka : Int) (kb : Int)).2).add (ka : Int) ⟨#[110, 101, 119]⟩).1) == ((((((s.merge (ka : Int) (kb : Int)).2).add (ka : Int) ⟨#[110, 101, 119]⟩).2.2).add (kb : Int) ⟨#[110, 101, 119]⟩).1))) rfl rfl rfl (x_pick rfl rfl (by rw [c343]; rfl)) ?_
       refine Lq (.bool (((((s.merge (ka : Int) (kb : Int)).2).add (ka : Int) ⟨#[110, 101, 119]⟩).1) == ((((((s.merge (ka : Int) (kb : Int)).2).add (ka : Int) ⟨#[110, 101, 119]⟩).2.2).add (kb : Int) ⟨#[110, 101, 119]⟩).1))) rfl rfl rfl rfl ?_
       refine L_nil ?_
       refine W_ret ?_
       refine ⟨_, _, res_run (rs := [.tmp 6]) (vs := [(.bool (((((s.merge (ka : Int) (kb : Int)).2).add (ka : Int) ⟨#[110, 101, 119]⟩).1) == ((((((s.merge (ka : Int) (kb : Int)).2).add (ka : Int) ⟨#[110, 101, 119]⟩).2.2).add (kb : Int) ⟨#[110, 101, 119]⟩).1)))]) Tryz.results5 (.cons (.tmp rfl) .nil) hmk208, ?_⟩
       exact ⟨_, _, _, rfl, (hst340).keepN 0 rfl, congrArg Value.bool (by first | exact bneF (by assumption) | exact bneF rfl | exact decide_eq_false (by assumption) | exact decide_eq_true (by assumption) | exact beqT (by assumption) | exact beqT rfl | assumption | exact decide_eq_false (by omega) | exact decide_eq_true (by omega)), rfl⟩
      ·
       have q345 := of_decide_eq_false c311
       refine W_cond_true (by show Value.bool _ = _; exact congrArg Value.bool (by rw [c311]; rfl)) ?_
       refine W_seq ?_
       have hg1 := Merges_no hlka hlkb (fun q => (of_decide_eq_false c311) q.2)
       refine W_region_lit ?_
       refine Lq (.bool true) rfl rfl rfl rfl ?_
       refine Lq (.bool true) rfl rfl rfl rfl ?_
       refine L_guard rfl rfl rfl rfl rfl ?_
       refine Lq (int ((s.merge (ka : Int) (kb : Int)).1)) rfl rfl rfl rfl ?_
       refine L_guard rfl rfl rfl rfl rfl ?_
       refine Lq (.bool (((s.merge (ka : Int) (kb : Int)).1) == 1)) rfl rfl rfl (by kernel_rfl) ?_
       refine Lq (.bool (((s.merge (ka : Int) (kb : Int)).1) == 1)) rfl rfl rfl rfl ?_
       refine Lq (.bool (((s.merge (ka : Int) (kb : Int)).1) == 1)) rfl rfl rfl rfl ?_
       refine L_nil ?_
       refine W_ret ?_
       refine ⟨_, _, res_run (rs := [.tmp 6]) (vs := [(.bool (((s.merge (ka : Int) (kb : Int)).1) == 1))]) Tryz.results5 (.cons (.tmp rfl) .nil) hmk208, ?_⟩
       exact ⟨_, _, _, rfl, (hst209).keepN 0 rfl, congrArg Value.bool (by first | exact bneF (by assumption) | exact bneF rfl | exact decide_eq_false (by assumption) | exact decide_eq_true (by assumption) | exact beqT (by assumption) | exact beqT rfl | assumption | exact decide_eq_false (by omega) | exact decide_eq_true (by omega)), rfl⟩
   ·
    have q346 := ne_of_beq_false c148
    refine L_unwanted rfl rfl rfl rfl (by rw [c148]; try rfl) rfl rfl ?_
    refine L_unwanted rfl rfl rfl rfl (by rw [c148]; try rfl) rfl rfl ?_
    refine L_unwanted rfl rfl rfl rfl (by rw [c148]; try rfl) rfl rfl ?_
    refine L_unwanted rfl rfl rfl rfl (by rw [c148]; try rfl) rfl rfl ?_
    refine L_unwanted rfl rfl rfl rfl (by rw [c148]; try rfl) rfl rfl ?_
    refine L_unwanted rfl rfl rfl rfl (by rw [c148]; try rfl) rfl rfl ?_
    refine L_unwanted rfl rfl rfl rfl (by rw [c148]; try rfl) rfl rfl ?_
    refine Lq (.bool false) rfl rfl rfl (x_pick rfl rfl (by rw [c148]; rfl)) ?_
    refine Lq (.bool false) rfl rfl rfl rfl ?_
    refine L_nil ?_
    refine W_seq ?_
    refine W_region_lit ?_
    refine Lq (ptr p18 0) rfl rfl rfl rfl ?_
    refine Lq (int (ka : Int)) rfl rfl rfl rfl ?_
    refine L_callG hst147 (v := (int (canon s.nodes (ka : Int)))) rfl rfl rfl (x_call (vs := #[(ptr p18 0), (int (ka : Int))]) rfl rfl (by kernel_rfl) ent_21) (Canon_spec (ka : Int) (Tree.view hm142 (hst147.g 0) hst147.rle') (Le.refl _)) (fun w347 hst348 => ?_)
    refine Lq (int (canon s.nodes (ka : Int))) rfl rfl rfl rfl ?_
    refine L_nil ?_
    refine W_seq ?_
    refine W_region_lit ?_
    refine Lq (ptr p18 0) rfl rfl rfl rfl ?_
    refine Lq (int (ka : Int)) rfl rfl rfl rfl ?_
    refine Lq (int (kb : Int)) rfl rfl rfl rfl ?_
    have hst349 := hst348
    refine L_callS [cT100] [] hst349 rfl rfl rfl (x_call (vs := #[(ptr p18 0), (int (ka : Int)), (int (kb : Int))]) rfl rfl (by kernel_rfl) ent_27) (Merge_spec (ka : Int) (kb : Int) (hst349.sats.take 1 rfl) hm142) (fun v350 w351 R352 L353 hp354 hle355 hst356 => ?_)
    obtain ⟨c357, rfl, rfl, htr358⟩ := hp354
    refine Lq (int ((s.merge (ka : Int) (kb : Int)).1)) rfl rfl rfl rfl ?_
    refine L_nil ?_
    refine W_seq ?_
    refine W_seq ?_
    have hmn := merge_names s hwf (ka : Int) (kb : Int)
    have hml : (s.merge (ka : Int) (kb : Int)).2.nodes.length = s.nodes.length := merge_len _ _ _
    refine W_region_lit ?_
    refine Lq (int 0) rfl rfl rfl rfl ?_
    refine L_nil ?_
    refine W_block ?_
    refine W_loop (I := fun σ w_ m_ => ∃ (σ0 : Fr) (R_ : Hp) (k_ : Nat) (cT : Hp), σ = upd (upd (upd (upd (upd (upd (upd (upd (upd (upd (upd (upd (upd (upd (upd (upd (upd (upd (upd (upd (upd (upd (upd (upd (upd (upd (upd (upd (upd (upd (upd (upd (upd (upd (upd (upd (upd (upd (upd (upd (upd (upd (upd (upd (upd (upd (upd (upd (upd (upd (upd (upd (upd (upd (upd (upd (upd (upd (upd (upd (upd (upd (upd σ0 0 (int n)) 1 (.slice a6 acts.length cap7)) 2 (.agg #[(int xa), (int ya)])) 5 (ptr b1 0)) 7 (.bool true)) 8 (ptr p18 0)) 9 (int (s.nodes.length : Int))) 10 (int (ka : Int))) 11 (int (kb : Int))) 12 v_99) 13 (int (k_98 : Int))) 14 (.bool false)) 15 (int (canon s.nodes (ka : Int)))) 16 (int ((s.merge (ka : Int) (kb : Int)).1))) 17 (int (k_ : Int))) 22 (.bool true)) 23 (int n)) 24 (.slice a6 acts.length cap7)) 25 (ptr p18 0)) 26 (ptr p18 0)) 27 (.bool false)) 28 (.bool false)) 29 (ptr p18 0)) 30 (int (s.nodes.length : Int))) 31 (.bool ((s.nodes.length : Int) == 0))) 32 (.bool ((s.nodes.length : Int) == 0))) 33 (ptr p18 0)) 34 (int (s.nodes.length : Int))) 35 (ptr b1 0)) 36 (int xa)) 37 (int (s.nodes.length : Int))) 38 (int (Int.tmod xa (s.nodes.length : Int)))) 39 (int (s.nodes.length : Int))) 40 (int (Int.tmod xa (s.nodes.length : Int) + (s.nodes.length : Int)))) 41 (int (s.nodes.length : Int))) 42 (int (ka : Int))) 43 (ptr b1 1)) 44 (int ya)) 45 (int (s.nodes.length : Int))) 46 (int (Int.tmod ya (s.nodes.length : Int)))) 47 (int (s.nodes.length : Int))) 48 (int (Int.tmod ya (s.nodes.length : Int) + (s.nodes.length : Int)))) 49 (int (s.nodes.length : Int))) 50 (int (kb : Int))) 51 (int (k_98 : Int))) 52 (int (s.nodes.length : Int))) 53 (.bool (decide ((k_98 : Int) < (s.nodes.length : Int))))) 62 (ptr p18 0)) 63 (int (ka : Int))) 64 (int (clsL s.nodes (ka : Int)))) 65 (ptr p18 0)) 66 (int (kb : Int))) 67 (int (clsL s.nodes (kb : Int)))) 68 (.bool ((clsL s.nodes (ka : Int)) == (clsL s.nodes (kb : Int))))) 69 (.bool ((clsL s.nodes (ka : Int)) == (clsL s.nodes (kb : Int))))) 77 (.bool false)) 78 (ptr p18 0)) 79 (int (ka : Int))) 80 (int (canon s.nodes (ka : Int)))) 81 (ptr p18 0)) 82 (int (ka : Int))) 83 (int (kb : Int))) 84 (int ((s.merge (ka : Int) (kb : Int)).1)) ∧ mks (σ0 0) = [] ∧ Step w R [] w_ R_ [cT] ∧ Le R352 R_ ∧ Tree R_ p18 ((s.merge (ka : Int) (kb : Int)).2) cT ∧ k_ ≤ s.nodes.length ∧ m_ = s.nodes.length - k_) (m := s.nodes.length - 0) ?_ ?_
    ·
     exact ⟨_, _, 0, c357, (upd_of (upd_of (upd_of (upd_of (upd_of (upd_of (upd_of (upd_of (upd_of (upd_of (upd_of (upd_of (upd_of (upd_of (upd_of (upd_of (upd_of (upd_of (upd_of (upd_of (upd_of (upd_of (upd_of (upd_of (upd_of (upd_of (upd_of (upd_of (upd_of (upd_of (upd_of (upd_of (upd_of (upd_of (upd_of (upd_of (upd_of (upd_of (upd_of (upd_of (upd_of (upd_of (upd_of (upd_of (upd_of (upd_of (upd_of (upd_of (upd_of (upd_of (upd_of (upd_of (upd_of (upd_of (upd_of (upd_of (upd_of (upd_of (upd_of (upd_of (upd_of (upd_of (upd_of rfl rfl) rfl) rfl) rfl) rfl) rfl) rfl) rfl) rfl) rfl) rfl) rfl) rfl) rfl) rfl) rfl) rfl) rfl) rfl) rfl) rfl) rfl) rfl) rfl) rfl) rfl) rfl) rfl) rfl) rfl) rfl) rfl) rfl) rfl) rfl) rfl) rfl) rfl) rfl) rfl) rfl) rfl) rfl) rfl) rfl) rfl) rfl) rfl) rfl) rfl) rfl) rfl) rfl) rfl) rfl) rfl) rfl) rfl) rfl) rfl) rfl) rfl) rfl), hmk89, hst356, Le.refl _, htr358, (by omega), rfl⟩
    ·
     rintro m369 σ_ w361 ⟨s365, R366, k_367, cT368, rfl, hmk359, hst360, hle362, hi363, hf364, rfl⟩
     refine W_seq ?_
     refine W_seq ?_
     refine W_region_lit ?_
     refine Lq (int (k_367 : Int)) rfl rfl rfl rfl ?_
     refine Lq (int (s.nodes.length : Int)) rfl rfl rfl rfl ?_
     refine Lq (.bool (decide ((k_367 : Int) < (s.nodes.length : Int)))) rfl rfl rfl (by kernel_rfl) ?_
     refine L_nil ?_
     rcases Bool.eq_false_or_eq_true (decide ((k_367 : Int) < (s.nodes.length : Int))) with c370 | c370
     ·
      have q371 := of_decide_eq_true c370
      refine W_cond_true (by show Value.bool _ = _; exact congrArg Value.bool c370) ?_
      refine W_skip ?_
      refine W_seq ?_
      refine W_block ?_
      refine W_seq ?_
      refine W_region_draw [] (fun w => Le R366 (hp w)) hmix (by decide +kernel) (fun _ _ h => h) ?_
      have hst373 := hst360.draws (w361.drawn + 1)
      generalize draws w361 (w361.drawn + 1) = w372 at hst373 ⊢
      refine LP (ptr p18 0) 0 rfl rfl rfl (fun u375 => rfl) hst373.rle' ?_
      refine LP (int (k_367 : Int)) 1 rfl rfl rfl (fun u378 => rfl) hst373.rle' ?_
      refine LP v_99 3 rfl rfl rfl (fun u383 => rfl) hst373.rle' ?_
      refine LP (int (k_367 : Int)) 4 rfl rfl rfl (fun u388 => rfl) hst373.rle' ?_
      obtain ⟨a395, cap396, e397, hc398⟩ := hrd143.shape
      subst e397
      obtain ⟨b399, off400, cap401, cs402, T403, fz404, e405, hc406, hb407, he408⟩ := hrd143.open (by omega)
      cases e405
      obtain ⟨cl409, hs410, hr411⟩ := he408.at k_367 (by omega)
      rw [namesAll_at] at hr411
      obtain ⟨v412, rfl, h413⟩ := hr411
      have hnb414 := namesL_bd hbd.names (k_367 : Int)
      refine LP (ptr b399 (off400 + k_367 * 1)) 5 rfl rfl rfl (fun u393 => (x_indexAddr' rfl sl_50 ti_42 rfl rfl (by omega))) hst373.rle' ?_
      refine LT v412 6 rfl rfl rfl (fun u418 hF419 => (x_load rfl rfl (run_loadVar_one ti_42 ((Le.trans hle355 (Le.trans hle362 hF419)) _ _ hb407) (seg_get (j := 0) hs410 rfl)))) hst373.rle' ?_
      refine LA_all [2] (by decide +kernel) (by simp) ?_
      intro i_ hi_
      simp only [List.mem_cons, List.not_mem_nil, or_false] at hi_
      subst hi_
      have hst423 := hst373
      refine One_callS (i := 2) [] [cT368] hst423 rfl rfl rfl (Want.plain rfl) (x_call (vs := #[(ptr p18 0), (int (k_367 : Int))]) rfl rfl (by kernel_rfl) ent_24) (Names_spec (k_367 : Int) (hst423.sats.take 0 rfl) (Tree.view hi363 (hst373.g 0) hst373.rle')) (fun v424 w425 R426 L427 hp428 hle429 hst430 => ?_)
      have hm431 := Tree.lift hi363 hle429
      obtain ⟨c432, rfl, ho433⟩ := hp428
      obtain ⟨R434, hst435, hle436, hc437⟩ := Step.frz hst430
      have hm438 := Tree.lift hm431 hle436
      have hrd439 := OwnL.freeze ho433 hle436 hc437
      have hnl440 := namesL_len (Tree.small hm438) (k_367 : Int)
      refine ⟨(fun _ => (Le.trans hle429 (Le.trans hle436 hst435.rle'))), ?_⟩
      refine LA_all [7] (by decide +kernel) (by simp) ?_
      intro i_ hi_
      simp only [List.mem_cons, List.not_mem_nil, or_false] at hi_
      subst hi_
      obtain ⟨a444, cap445, e446, hc447⟩ := hrd439.shape
      subst e446
      obtain ⟨a448, cap449, e450, hc451⟩ := h413.shape
      subst e450
      refine One_call (i := 7) rfl rfl rfl (Want.plain rfl) (x_call (vs := #[(.slice a444 ((namesL ((s.merge (ka : Int) (kb : Int)).2).nodes (k_367 : Int)).length) cap445), (.slice a448 ((namesL s.nodes (k_367 : Int)).length) cap449)]) rfl rfl (by kernel_rfl) ent_23) (EqualR_spec (Le.refl _) (RdS.mono hrd439 hst435.rle') (RdS.mono h413 (Le.trans hle355 (Le.trans hle362 (Le.trans hle429 (Le.trans hle436 hst435.rle'))))) (by first | omega | assumption | (simp only [List.length_append, List.length_cons, List.length_nil]; omega)) (by first | omega | assumption | (simp only [List.length_append, List.length_cons, List.length_nil]; omega))) ?_
      rintro e454 w452 ⟨rfl, hw455⟩
      have hst453 := hst435.grown hw455
      refine ⟨_, rfl, (fun _ => (Le.trans hle429 (Le.trans hle436 hst453.rle'))), ?_⟩
      refine LP (.bool (!(decide ((namesL ((s.merge (ka : Int) (kb : Int)).2).nodes (k_367 : Int)) = (namesL s.nodes (k_367 : Int)))))) 8 rfl rfl rfl (fun u457 => rfl) (Le.trans hle429 (Le.trans hle436 hst453.rle')) ?_
      refine LA_done (by decide +kernel) ?_
      have c459 : (decide ((namesL ((s.merge (ka : Int) (kb : Int)).2).nodes (k_367 : Int)) = (namesL s.nodes (k_367 : Int)))) = true := (decide_eq_true (hmn _))
      have q460 := of_decide_eq_true c459
      refine W_cond_false (by show Value.bool _ = _; exact congrArg Value.bool (by rw [c459]; rfl)) ?_
      refine W_skip ?_
      refine W_region_lit ?_
      refine Lq (int (k_367 : Int)) rfl rfl rfl rfl ?_
      refine Lq (int ((k_367 + 1 : Nat) : Int)) rfl rfl rfl (x_add_nat rfl rfl rfl (by omega)) ?_
      refine Lq (int ((k_367 + 1 : Nat) : Int)) rfl rfl rfl rfl ?_
      refine L_nil ?_
      refine ⟨s.nodes.length - (k_367 + 1), by first | omega | (simp only [List.length_append, List.length_cons, List.length_nil]; omega), ?_⟩
      exact ⟨_, _, (k_367 + 1), cT368, (upd_of (upd_of (upd_of (upd_of (upd_of (upd_of (upd_of (upd_of (upd_of (upd_of (upd_of (upd_of (upd_of (upd_of (upd_of (upd_of (upd_of (upd_of (upd_of (upd_of (upd_of (upd_of (upd_of (upd_of (upd_of (upd_of (upd_of (upd_of (upd_of (upd_of (upd_of (upd_of (upd_of (upd_of (upd_of (upd_of (upd_of (upd_of (upd_of (upd_of (upd_of (upd_of (upd_of (upd_of (upd_of (upd_of (upd_of (upd_of (upd_of (upd_of (upd_of (upd_of (upd_of (upd_of (upd_of (upd_of (upd_of (upd_of (upd_of (upd_of (upd_of (upd_of (upd_of rfl rfl) rfl) rfl) rfl) rfl) rfl) rfl) rfl) rfl) rfl) rfl) rfl) rfl) rfl) rfl) rfl) rfl) rfl) rfl) rfl) rfl) rfl) rfl) rfl) rfl) rfl) rfl) rfl) rfl) rfl) rfl) rfl) rfl) rfl) rfl) rfl) rfl) rfl) rfl) rfl) rfl) rfl) rfl) rfl) rfl) rfl) rfl) rfl) rfl) rfl) rfl) rfl) rfl) rfl) rfl) rfl) rfl) rfl) rfl) rfl) rfl) rfl) rfl), hmk359, hst453, (Le.trans hle362 (Le.trans hle429 hle436)), hm438, (by omega), rfl⟩
     ·
      have q461 := of_decide_eq_false c370
      refine W_cond_false (by show Value.bool _ = _; exact congrArg Value.bool c370) ?_
      refine W_exit ?_
      refine W_seq ?_
      refine W_seq ?_
      refine W_region_lit ?_
      refine Lq (.bool false) rfl rfl rfl rfl ?_
      refine Lq (.bool true) rfl rfl rfl rfl ?_
      refine L_nil ?_
      refine W_cond_true (by show Value.bool _ = _; exact congrArg Value.bool rfl) ?_
      refine W_seq ?_
      have hg1 := Merges_no hlka hlkb (fun q => (ne_of_beq_false c148) q.1)
      refine W_region_lit ?_
      refine Lq (.bool true) rfl rfl rfl rfl ?_
      refine Lq (.bool true) rfl rfl rfl rfl ?_
      refine L_guard rfl rfl rfl rfl rfl ?_
      refine Lq (int ((s.merge (ka : Int) (kb : Int)).1)) rfl rfl rfl rfl ?_
      refine L_guard rfl rfl rfl rfl rfl ?_
      refine Lq (.bool (((s.merge (ka : Int) (kb : Int)).1) == 1)) rfl rfl rfl (by kernel_rfl) ?_
      refine Lq (.bool (((s.merge (ka : Int) (kb : Int)).1) == 1)) rfl rfl rfl rfl ?_
      refine Lq (.bool (((s.merge (ka : Int) (kb : Int)).1) == 1)) rfl rfl rfl rfl ?_
      refine L_nil ?_
      refine W_ret ?_
      refine ⟨_, _, res_run (rs := [.tmp 6]) (vs := [(.bool (((s.merge (ka : Int) (kb : Int)).1) == 1))]) Tryz.results5 (.cons (.tmp rfl) .nil) hmk359, ?_⟩
      exact ⟨_, _, _, rfl, (hst360).keepN 0 rfl, congrArg Value.bool (by first | exact bneF (by assumption) | exact bneF rfl | exact decide_eq_false (by assumption) | exact decide_eq_true (by assumption) | exact beqT (by assumption) | exact beqT rfl | assumption | exact decide_eq_false (by omega) | exact decide_eq_true (by omega)), rfl⟩

end Go.Fx.YtjpdhfhiimbpgaaGreatDoor
