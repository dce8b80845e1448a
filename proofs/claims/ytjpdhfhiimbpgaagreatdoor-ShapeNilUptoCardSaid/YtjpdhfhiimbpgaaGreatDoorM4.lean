/-
  Sq10, put together.
-/
import Derived.Test.YtjpdhfhiimbpgaaGreatDoorM3
set_option linter.unusedSimpArgs false
set_option linter.unusedVariables false
namespace Go.Fx.YtjpdhfhiimbpgaaGreatDoor
open Go Go.Fx Go.Proofs
set_option maxRecDepth 20000

theorem ent_10 : Ent Tryz.prog 10 := fun _ _ => by kernel_rfl
theorem ent_20 : Ent Tryz.prog 20 := fun _ _ => by kernel_rfl
theorem ent_22 : Ent Tryz.prog 22 := fun _ _ => by kernel_rfl
theorem ent_23 : Ent Tryz.prog 23 := fun _ _ => by kernel_rfl
theorem ent_24 : Ent Tryz.prog 24 := fun _ _ => by kernel_rfl
theorem ent_30 : Ent Tryz.prog 30 := fun _ _ => by kernel_rfl

set_option maxHeartbeats 2000000 in
theorem Canons_spec {w : World} {R : Hp} {v : Value} (n : Int) (acts : List Ac) (hs : Sats w R []) (hv : RdS tyAc R v acts) :
    Calls Tryz.prog 4 #[int n, v] w (Comes' w R [] fun v' R' L' => v' = .bool true ∧ L' = []) := by
 have hst := Step.refl hs
 refine calls_of_W (n := 116) Tryz.func4 rfl Tryz.ntmps4 (Nat.le_of_ble_eq_true rfl) ?_
 refine W_seq ?_
 refine W_region_lit ?_
 refine Lq (.bool false) rfl rfl rfl rfl ?_
 refine L_nil ?_
 refine W_seq ?_
 refine W_region_lit ?_
 refine L_callG hst (v := (.bool true)) rfl rfl rfl (x_call (vs := #[]) rfl rfl (by kernel_rfl) ent_10) sanity_spec (fun w1 hst2 => ?_)
 refine Lq (.bool true) rfl rfl rfl rfl ?_
 refine L_nil ?_
 refine W_seq ?_
 refine W_region_lit ?_
 refine Lq (int n) rfl rfl rfl rfl ?_
 refine Lq v rfl rfl rfl rfl ?_
 obtain ⟨a3, cap4, e5, hc6⟩ := hv.shape
 subst e5
 have hst7 := hst2
 refine L_callS [] [] hst7 rfl rfl rfl (x_call (vs := #[(int n), (.slice a3 acts.length cap4)]) rfl rfl (by kernel_rfl) ent_20) (played_spec (v := (.slice a3 acts.length cap4)) n acts (hst7.sats.take 0 rfl) (RdS.mono hv (Le.refl _))) (fun v8 w9 R10 L11 hp12 hle13 hst14 => ?_)
 obtain ⟨p15, c16, rfl, rfl, htr17⟩ := hp12
 have hwf := played_wf n acts
 have hcore := played_core n acts
 have hbd := played_bd n acts
 have hpos := played_pos n acts
 obtain ⟨s, hs_⟩ : ∃ s_, s_ = (played n acts) := ⟨_, rfl⟩
 rw [← hs_] at htr17 hwf hcore hbd hpos
 have hnl := hbd.len
 refine Lq (ptr p15 0) rfl rfl rfl rfl ?_
 refine L_nil ?_
 refine W_seq ?_
 refine W_seq ?_
 refine W_region_lit ?_
 refine Lq (ptr p15 0) rfl rfl rfl rfl ?_
 refine Lq (.bool false) rfl rfl rfl (by kernel_rfl) ?_
 refine L_nil ?_
 refine W_cond_false (by show Value.bool _ = _; exact congrArg Value.bool rfl) ?_
 refine W_skip ?_
 refine W_seq ?_
 refine W_seq ?_
 refine W_region_lit ?_
 refine Lq (int 0) rfl rfl rfl rfl ?_
 refine L_nil ?_
 refine W_block ?_
 refine W_loop (I := fun σ w_ m_ => ∃ (σ0 : Fr) (R_ : Hp) (k_ : Nat) (cT : Hp), σ = upd (upd (upd (upd (upd (upd (upd (upd (upd (upd (upd σ0 0 (int n)) 1 (.slice a3 acts.length cap4)) 5 (.bool true)) 6 (ptr p15 0)) 7 (int (k_ : Int))) 14 (.bool true)) 15 (int n)) 16 (.slice a3 acts.length cap4)) 17 (ptr p15 0)) 18 (ptr p15 0)) 19 (.bool false) ∧ mks (σ0 0) = [] ∧ Step w R [] w_ R_ [cT] ∧ Le R10 R_ ∧ Tree R_ p15 s cT ∧ k_ ≤ s.nodes.length ∧ m_ = s.nodes.length - k_) (m := s.nodes.length - 0) ?_ ?_
 ·
  exact ⟨_, _, 0, c16, (upd_of (upd_of (upd_of (upd_of (upd_of (upd_of (upd_of (upd_of (upd_of (upd_of (upd_of rfl rfl) rfl) rfl) rfl) rfl) rfl) rfl) rfl) rfl) rfl) rfl), rfl, hst14, Le.refl _, htr17, (by omega), rfl⟩
 ·
  rintro m28 σ_ w20 ⟨s24, R25, k_26, cT27, rfl, hmk18, hst19, hle21, hi22, hf23, rfl⟩
  refine W_seq ?_
  refine W_seq ?_
  refine W_region_lit ?_
  refine Lq (int (k_26 : Int)) rfl rfl rfl rfl ?_
  refine Lq (ptr p15 0) rfl rfl rfl rfl ?_
  refine L_callG hst19 (v := (int (s.nodes.length : Int))) rfl rfl rfl (x_call (vs := #[(ptr p15 0)]) rfl rfl (by kernel_rfl) ent_19) (Count_spec (Tree.view hi22 (hst19.g 0) hst19.rle') (Le.refl _)) (fun w29 hst30 => ?_)
  refine Lq (.bool (decide ((k_26 : Int) < (s.nodes.length : Int)))) rfl rfl rfl (by kernel_rfl) ?_
  refine L_nil ?_
  rcases Bool.eq_false_or_eq_true (decide ((k_26 : Int) < (s.nodes.length : Int))) with c31 | c31
  ·
   have q32 := of_decide_eq_true c31
   refine W_cond_true (by show Value.bool _ = _; exact congrArg Value.bool c31) ?_
   refine W_skip ?_
   refine W_seq ?_
   refine W_block ?_
   refine W_seq ?_
   obtain ⟨hl1, hl2, hl3, hl4, hl5, hl6, hl7⟩ := Canons_law hwf.can hcore.ali (k := k_26) (by omega)
   refine W_region_lit ?_
   refine Lq (ptr p15 0) rfl rfl rfl rfl ?_
   refine Lq (int (k_26 : Int)) rfl rfl rfl rfl ?_
   refine L_callG hst30 (v := (int (canon s.nodes (k_26 : Int)))) rfl rfl rfl (x_call (vs := #[(ptr p15 0), (int (k_26 : Int))]) rfl rfl (by kernel_rfl) ent_21) (Canon_spec (k_26 : Int) (Tree.view hi22 (hst30.g 0) hst30.rle') (Le.refl _)) (fun w33 hst34 => ?_)
   refine Lq (int (canon s.nodes (k_26 : Int))) rfl rfl rfl rfl ?_
   refine L_nil ?_
   refine W_seq ?_
   refine W_seq ?_
   refine W_region_lit ?_
   refine Lq (int (canon s.nodes (k_26 : Int))) rfl rfl rfl rfl ?_
   refine Lq (.bool (decide (canon s.nodes (k_26 : Int) < 0))) rfl rfl rfl (by kernel_rfl) ?_
   refine Lq (.bool (decide (canon s.nodes (k_26 : Int) < 0))) rfl rfl rfl rfl ?_
   have c35 : (decide (canon s.nodes (k_26 : Int) < 0)) = false := (by first | exact bneF (by assumption) | exact decide_eq_false (by assumption) | exact decide_eq_true (by assumption) | exact beqT (by assumption) | assumption)
   have q36 := of_decide_eq_false c35
   refine L_guard rfl rfl rfl rfl c35 ?_
   refine Lq (ptr p15 0) rfl rfl rfl rfl ?_
   refine L_guard rfl rfl rfl rfl c35 ?_
   refine Lq (int (canon s.nodes (k_26 : Int))) rfl rfl rfl rfl ?_
   refine L_guard rfl rfl rfl rfl c35 ?_
   refine L_callG hst34 (v := (int (canon s.nodes (canon s.nodes (k_26 : Int))))) rfl rfl rfl (x_call (vs := #[(ptr p15 0), (int (canon s.nodes (k_26 : Int)))]) rfl rfl (by kernel_rfl) ent_21) (Canon_spec (canon s.nodes (k_26 : Int)) (Tree.view hi22 (hst34.g 0) hst34.rle') (Le.refl _)) (fun w37 hst38 => ?_)
   refine L_guard rfl rfl rfl rfl c35 ?_
   refine Lq (int (canon s.nodes (k_26 : Int))) rfl rfl rfl rfl ?_
   refine L_guard rfl rfl rfl rfl c35 ?_
   refine Lq (.bool ((canon s.nodes (canon s.nodes (k_26 : Int))) != (canon s.nodes (k_26 : Int)))) rfl rfl rfl (by kernel_rfl) ?_
   refine Lq (.bool ((canon s.nodes (canon s.nodes (k_26 : Int))) != (canon s.nodes (k_26 : Int)))) rfl rfl rfl (x_pick rfl rfl (by rw [c35]; rfl)) ?_
   refine Lq (.bool ((canon s.nodes (canon s.nodes (k_26 : Int))) != (canon s.nodes (k_26 : Int)))) rfl rfl rfl rfl ?_
   have c39 : ((canon s.nodes (canon s.nodes (k_26 : Int))) != (canon s.nodes (k_26 : Int))) = false := (by first | exact bneF (by assumption) | exact decide_eq_false (by assumption) | exact decide_eq_true (by assumption) | exact beqT (by assumption) | assumption)
   have q40 : canon s.nodes (canon s.nodes (k_26 : Int)) = canon s.nodes (k_26 : Int) := by simpa using c39
   refine L_guard rfl rfl rfl rfl c39 ?_
   refine Lq (ptr p15 0) rfl rfl rfl rfl ?_
   refine L_guard rfl rfl rfl rfl c39 ?_
   refine Lq (int (canon s.nodes (k_26 : Int))) rfl rfl rfl rfl ?_
   refine L_guard rfl rfl rfl rfl c39 ?_
   refine L_callG hst38 (v := (int (clsL s.nodes (canon s.nodes (k_26 : Int))))) rfl rfl rfl (x_call (vs := #[(ptr p15 0), (int (canon s.nodes (k_26 : Int)))]) rfl rfl (by kernel_rfl) ent_22) (Class_spec (canon s.nodes (k_26 : Int)) (Tree.view hi22 (hst38.g 0) hst38.rle') (Le.refl _)) (fun w41 hst42 => ?_)
   refine L_guard rfl rfl rfl rfl c39 ?_
   refine Lq (ptr p15 0) rfl rfl rfl rfl ?_
   refine L_guard rfl rfl rfl rfl c39 ?_
   refine Lq (int (k_26 : Int)) rfl rfl rfl rfl ?_
   refine L_guard rfl rfl rfl rfl c39 ?_
   refine L_callG hst42 (v := (int (clsL s.nodes (k_26 : Int)))) rfl rfl rfl (x_call (vs := #[(ptr p15 0), (int (k_26 : Int))]) rfl rfl (by kernel_rfl) ent_22) (Class_spec (k_26 : Int) (Tree.view hi22 (hst42.g 0) hst42.rle') (Le.refl _)) (fun w43 hst44 => ?_)
   refine L_guard rfl rfl rfl rfl c39 ?_
   refine Lq (.bool ((clsL s.nodes (canon s.nodes (k_26 : Int))) != (clsL s.nodes (k_26 : Int)))) rfl rfl rfl (by kernel_rfl) ?_
   refine Lq (.bool ((clsL s.nodes (canon s.nodes (k_26 : Int))) != (clsL s.nodes (k_26 : Int)))) rfl rfl rfl (x_pick rfl rfl (by rw [c39]; rfl)) ?_
   refine Lq (.bool ((clsL s.nodes (canon s.nodes (k_26 : Int))) != (clsL s.nodes (k_26 : Int)))) rfl rfl rfl rfl ?_
   have c45 : ((clsL s.nodes (canon s.nodes (k_26 : Int))) != (clsL s.nodes (k_26 : Int))) = false := (by first | exact bneF (by assumption) | exact decide_eq_false (by assumption) | exact decide_eq_true (by assumption) | exact beqT (by assumption) | assumption)
   have q46 : clsL s.nodes (canon s.nodes (k_26 : Int)) = clsL s.nodes (k_26 : Int) := by simpa using c45
   refine L_guard rfl rfl rfl rfl c45 ?_
   refine Lq (ptr p15 0) rfl rfl rfl rfl ?_
   refine L_guard rfl rfl rfl rfl c45 ?_
   refine Lq (int (canon s.nodes (k_26 : Int))) rfl rfl rfl rfl ?_
   refine L_guard rfl rfl rfl rfl c45 ?_
   have hst47 := hst44
   refine L_callS [] [cT27] hst47 rfl rfl rfl (x_call (vs := #[(ptr p15 0), (int (canon s.nodes (k_26 : Int)))]) rfl rfl (by kernel_rfl) ent_24) (Names_spec (canon s.nodes (k_26 : Int)) (hst47.sats.take 0 rfl) (Tree.view hi22 (hst44.g 0) hst44.rle')) (fun v48 w49 R50 L51 hp52 hle53 hst54 => ?_)
   have hm55 := Tree.lift hi22 hle53
   obtain ⟨c56, rfl, ho57⟩ := hp52
   obtain ⟨R58, hst59, hle60, hc61⟩ := Step.frz hst54
   have hm62 := Tree.lift hm55 hle60
   have hrd63 := OwnL.freeze ho57 hle60 hc61
   have hnl64 := namesL_len (Tree.small hm62) (canon s.nodes (k_26 : Int))
   refine L_guard rfl rfl rfl rfl c45 ?_
   refine Lq (ptr p15 0) rfl rfl rfl rfl ?_
   refine L_guard rfl rfl rfl rfl c45 ?_
   refine Lq (int (k_26 : Int)) rfl rfl rfl rfl ?_
   refine L_guard rfl rfl rfl rfl c45 ?_
   have hst65 := hst59
   refine L_callS [] [cT27] hst65 rfl rfl rfl (x_call (vs := #[(ptr p15 0), (int (k_26 : Int))]) rfl rfl (by kernel_rfl) ent_24) (Names_spec (k_26 : Int) (hst65.sats.take 0 rfl) (Tree.view hm62 (hst59.g 0) hst59.rle')) (fun v66 w67 R68 L69 hp70 hle71 hst72 => ?_)
   have hm73 := Tree.lift hm62 hle71
   obtain ⟨c74, rfl, ho75⟩ := hp70
   obtain ⟨R76, hst77, hle78, hc79⟩ := Step.frz hst72
   have hm80 := Tree.lift hm73 hle78
   have hrd81 := OwnL.freeze ho75 hle78 hc79
   have hnl82 := namesL_len (Tree.small hm80) (k_26 : Int)
   refine L_guard rfl rfl rfl rfl c45 ?_
   obtain ⟨a83, cap84, e85, hc86⟩ := hrd63.shape
   subst e85
   obtain ⟨a87, cap88, e89, hc90⟩ := hrd81.shape
   subst e89
   refine L_callG hst77 (v := (.bool (decide ((namesL s.nodes (canon s.nodes (k_26 : Int))) = (namesL s.nodes (k_26 : Int)))))) rfl rfl rfl (x_call (vs := #[(.slice a83 ((namesL s.nodes (canon s.nodes (k_26 : Int))).length) cap84), (.slice a87 ((namesL s.nodes (k_26 : Int)).length) cap88)]) rfl rfl (by kernel_rfl) ent_23) (EqualR_spec (Le.refl _) (RdS.mono hrd63 (Le.trans hle71 (Le.trans hle78 hst77.rle'))) (RdS.mono hrd81 hst77.rle') (by first | omega | assumption | (simp only [List.length_append, List.length_cons, List.length_nil]; omega)) (by first | omega | assumption | (simp only [List.length_append, List.length_cons, List.length_nil]; omega))) (fun w91 hst92 => ?_)
   refine L_guard rfl rfl rfl rfl c45 ?_
   refine Lq (.bool (!(decide ((namesL s.nodes (canon s.nodes (k_26 : Int))) = (namesL s.nodes (k_26 : Int)))))) rfl rfl rfl rfl ?_
   refine Lq (.bool (!(decide ((namesL s.nodes (canon s.nodes (k_26 : Int))) = (namesL s.nodes (k_26 : Int)))))) rfl rfl rfl (x_pick rfl rfl (by rw [c45]; rfl)) ?_
   refine L_nil ?_
   have c93 : (decide ((namesL s.nodes (canon s.nodes (k_26 : Int))) = (namesL s.nodes (k_26 : Int)))) = true := (by first | exact bneF (by assumption) | exact decide_eq_false (by assumption) | exact decide_eq_true (by assumption) | exact beqT (by assumption) | assumption)
   have q94 := of_decide_eq_true c93
   refine W_cond_false (by show Value.bool _ = _; exact congrArg Value.bool (by rw [c93]; rfl)) ?_
   refine W_skip ?_
   refine W_seq ?_
   refine W_region_lit ?_
   refine Lq (ptr p15 0) rfl rfl rfl rfl ?_
   refine Lq (ptr p15 0) rfl rfl rfl rfl ?_
   refine Lq (int (k_26 : Int)) rfl rfl rfl rfl ?_
   refine L_callG hst92 (v := (int (clsL s.nodes (k_26 : Int)))) rfl rfl rfl (x_call (vs := #[(ptr p15 0), (int (k_26 : Int))]) rfl rfl (by kernel_rfl) ent_22) (Class_spec (k_26 : Int) (Tree.view hm80 (hst92.g 0) hst92.rle') (Le.refl _)) (fun w95 hst96 => ?_)
   refine Lq (ptr p15 0) rfl rfl rfl rfl ?_
   refine Lq (int (k_26 : Int)) rfl rfl rfl rfl ?_
   have hst97 := hst96
   refine L_callS [] [cT27] hst97 rfl rfl rfl (x_call (vs := #[(ptr p15 0), (int (k_26 : Int))]) rfl rfl (by kernel_rfl) ent_24) (Names_spec (k_26 : Int) (hst97.sats.take 0 rfl) (Tree.view hm80 (hst96.g 0) hst96.rle')) (fun v98 w99 R100 L101 hp102 hle103 hst104 => ?_)
   have hm105 := Tree.lift hm80 hle103
   obtain ⟨c106, rfl, ho107⟩ := hp102
   obtain ⟨R108, hst109, hle110, hc111⟩ := Step.frz hst104
   have hm112 := Tree.lift hm105 hle110
   have hrd113 := OwnL.freeze ho107 hle110 hc111
   have hnl114 := namesL_len (Tree.small hm112) (k_26 : Int)
   refine L_callG hst109 (v := (.tuple #[(int ((findL s.nodes (clsL s.nodes (k_26 : Int)) (namesL s.nodes (k_26 : Int))).1)), (.bool ((findL s.nodes (clsL s.nodes (k_26 : Int)) (namesL s.nodes (k_26 : Int))).2))])) rfl rfl rfl (x_call (vs := #[(ptr p15 0), (int (clsL s.nodes (k_26 : Int))), v98]) rfl rfl (by kernel_rfl) ent_25) (Find_spec (clsL s.nodes (k_26 : Int)) (namesL s.nodes (k_26 : Int)) (RdS.mono hrd113 hst109.rle') (by first | omega | decide | assumption) (Tree.view hm112 (hst109.g 0) hst109.rle') (Le.refl _)) (fun w115 hst116 => ?_)
   refine Lq (.tuple #[(int ((findL s.nodes (clsL s.nodes (k_26 : Int)) (namesL s.nodes (k_26 : Int))).1)), (.bool ((findL s.nodes (clsL s.nodes (k_26 : Int)) (namesL s.nodes (k_26 : Int))).2))]) rfl rfl rfl rfl ?_
   refine Lq (int ((findL s.nodes (clsL s.nodes (k_26 : Int)) (namesL s.nodes (k_26 : Int))).1)) rfl rfl rfl (by kernel_rfl) ?_
   refine Lq (.bool ((findL s.nodes (clsL s.nodes (k_26 : Int)) (namesL s.nodes (k_26 : Int))).2)) rfl rfl rfl (by kernel_rfl) ?_
   refine Lq (int ((findL s.nodes (clsL s.nodes (k_26 : Int)) (namesL s.nodes (k_26 : Int))).1)) rfl rfl rfl rfl ?_
   refine Lq (.bool ((findL s.nodes (clsL s.nodes (k_26 : Int)) (namesL s.nodes (k_26 : Int))).2)) rfl rfl rfl rfl ?_
   refine L_nil ?_
   refine W_seq ?_
   refine W_region_lit ?_
   refine Lq (.bool ((findL s.nodes (clsL s.nodes (k_26 : Int)) (namesL s.nodes (k_26 : Int))).2)) rfl rfl rfl rfl ?_
   refine Lq (.bool (!((findL s.nodes (clsL s.nodes (k_26 : Int)) (namesL s.nodes (k_26 : Int))).2))) rfl rfl rfl rfl ?_
   refine Lq (.bool (!((findL s.nodes (clsL s.nodes (k_26 : Int)) (namesL s.nodes (k_26 : Int))).2))) rfl rfl rfl rfl ?_
   have c117 : ((findL s.nodes (clsL s.nodes (k_26 : Int)) (namesL s.nodes (k_26 : Int))).2) = true := (by first | exact bneF (by assumption) | exact decide_eq_false (by assumption) | exact decide_eq_true (by assumption) | exact beqT (by assumption) | assumption)
   refine L_guard rfl rfl rfl rfl (by rw [c117]; rfl) ?_
   refine Lq (int ((findL s.nodes (clsL s.nodes (k_26 : Int)) (namesL s.nodes (k_26 : Int))).1)) rfl rfl rfl rfl ?_
   refine L_guard rfl rfl rfl rfl (by rw [c117]; rfl) ?_
   refine Lq (int (canon s.nodes (k_26 : Int))) rfl rfl rfl rfl ?_
   refine L_guard rfl rfl rfl rfl (by rw [c117]; rfl) ?_
   refine Lq (.bool (decide ((findL s.nodes (clsL s.nodes (k_26 : Int)) (namesL s.nodes (k_26 : Int))).1 > canon s.nodes (k_26 : Int)))) rfl rfl rfl (by kernel_rfl) ?_
   refine Lq (.bool (decide ((findL s.nodes (clsL s.nodes (k_26 : Int)) (namesL s.nodes (k_26 : Int))).1 > canon s.nodes (k_26 : Int)))) rfl rfl rfl (x_pick rfl rfl (by rw [c117]; rfl)) ?_
   refine Lq (.bool (decide ((findL s.nodes (clsL s.nodes (k_26 : Int)) (namesL s.nodes (k_26 : Int))).1 > canon s.nodes (k_26 : Int)))) rfl rfl rfl rfl ?_
   have c118 : (decide ((findL s.nodes (clsL s.nodes (k_26 : Int)) (namesL s.nodes (k_26 : Int))).1 > canon s.nodes (k_26 : Int))) = false := (by first | exact bneF (by assumption) | exact decide_eq_false (by assumption) | exact decide_eq_true (by assumption) | exact beqT (by assumption) | assumption)
   have q119 := of_decide_eq_false c118
   refine L_guard rfl rfl rfl rfl c118 ?_
   refine Lq (ptr p15 0) rfl rfl rfl rfl ?_
   refine L_guard rfl rfl rfl rfl c118 ?_
   refine Lq (int ((findL s.nodes (clsL s.nodes (k_26 : Int)) (namesL s.nodes (k_26 : Int))).1)) rfl rfl rfl rfl ?_
   refine L_guard rfl rfl rfl rfl c118 ?_
   refine L_callG hst116 (v := (int (canon s.nodes ((findL s.nodes (clsL s.nodes (k_26 : Int)) (namesL s.nodes (k_26 : Int))).1)))) rfl rfl rfl (x_call (vs := #[(ptr p15 0), (int ((findL s.nodes (clsL s.nodes (k_26 : Int)) (namesL s.nodes (k_26 : Int))).1))]) rfl rfl (by kernel_rfl) ent_21) (Canon_spec ((findL s.nodes (clsL s.nodes (k_26 : Int)) (namesL s.nodes (k_26 : Int))).1) (Tree.view hm112 (hst116.g 0) hst116.rle') (Le.refl _)) (fun w120 hst121 => ?_)
   refine L_guard rfl rfl rfl rfl c118 ?_
   refine Lq (int ((findL s.nodes (clsL s.nodes (k_26 : Int)) (namesL s.nodes (k_26 : Int))).1)) rfl rfl rfl rfl ?_
   refine L_guard rfl rfl rfl rfl c118 ?_
   refine Lq (.bool ((canon s.nodes ((findL s.nodes (clsL s.nodes (k_26 : Int)) (namesL s.nodes (k_26 : Int))).1)) != ((findL s.nodes (clsL s.nodes (k_26 : Int)) (namesL s.nodes (k_26 : Int))).1))) rfl rfl rfl (by kernel_rfl) ?_
   refine Lq (.bool ((canon s.nodes ((findL s.nodes (clsL s.nodes (k_26 : Int)) (namesL s.nodes (k_26 : Int))).1)) != ((findL s.nodes (clsL s.nodes (k_26 : Int)) (namesL s.nodes (k_26 : Int))).1))) rfl rfl rfl (x_pick rfl rfl (by rw [c118]; rfl)) ?_
   refine L_nil ?_
   have c122 : ((canon s.nodes ((findL s.nodes (clsL s.nodes (k_26 : Int)) (namesL s.nodes (k_26 : Int))).1)) != ((findL s.nodes (clsL s.nodes (k_26 : Int)) (namesL s.nodes (k_26 : Int))).1)) = false := (by first | exact bneF (by assumption) | exact decide_eq_false (by assumption) | exact decide_eq_true (by assumption) | exact beqT (by assumption) | assumption)
   have q123 : canon s.nodes ((findL s.nodes (clsL s.nodes (k_26 : Int)) (namesL s.nodes (k_26 : Int))).1) = (findL s.nodes (clsL s.nodes (k_26 : Int)) (namesL s.nodes (k_26 : Int))).1 := by simpa using c122
   refine W_cond_false (by show Value.bool _ = _; exact congrArg Value.bool c122) ?_
   refine W_skip ?_
   refine W_region_lit ?_
   refine Lq (int (k_26 : Int)) rfl rfl rfl rfl ?_
   refine Lq (int ((k_26 + 1 : Nat) : Int)) rfl rfl rfl (x_add_nat rfl rfl rfl (by omega)) ?_
   refine Lq (int ((k_26 + 1 : Nat) : Int)) rfl rfl rfl rfl ?_
   refine L_nil ?_
   refine ⟨s.nodes.length - (k_26 + 1), by first | omega | (simp only [List.length_append, List.length_cons, List.length_nil]; omega), ?_⟩
   exact ⟨_, _, (k_26 + 1), cT27, (upd_of (upd_of (upd_of (upd_of (upd_of (upd_of (upd_of (upd_of (upd_of (upd_of (upd_of rfl rfl) rfl) rfl) rfl) rfl) rfl) rfl) rfl) rfl) rfl) rfl), hmk18, hst121, (Le.trans hle21 (Le.trans hle53 (Le.trans hle60 (Le.trans hle71 (Le.trans hle78 (Le.trans hle103 hle110)))))), hm112, (by omega), rfl⟩
  ·
   have q124 := of_decide_eq_false c31
   refine W_cond_false (by show Value.bool _ = _; exact congrArg Value.bool c31) ?_
   refine W_exit ?_
   refine W_seq ?_
   refine W_seq ?_
   refine W_region_lit ?_
   refine Lq (int n) rfl rfl rfl rfl ?_
   have hst125 := hst30
   refine L_callS [] [cT27] hst125 rfl rfl rfl (x_call (vs := #[(int n)]) rfl rfl (by kernel_rfl) ent_12) (Classes_spec n (hst125.sats.take 0 rfl)) (fun v126 w127 R128 L129 hp130 hle131 hst132 => ?_)
   have hm133 := Tree.lift hi22 hle131
   obtain ⟨rfl, hrd134⟩ := hp130
   have hcl135 : (clsOf n).length = 1 + kN 3 n := clsOf_len _
   have hcl136 := kN3 n
   have hfs : ∀ x ∈ clsOf n, x.fields.length ≤ 64 := fun x hx => Nat.le_trans (clsOf_mem hx).1 (by decide)
   obtain ⟨a137, cap138, e139, hc140⟩ := hrd134.shape
   subst e139
   refine Lq (int (((clsOf n).length : Nat) : Int)) rfl rfl rfl (x_len_slice rfl sl_26 rfl) ?_
   refine Lq (int 0) rfl rfl rfl rfl ?_
   refine L_nil ?_
   refine W_block ?_
   refine W_loop (I := fun σ w_ m_ => ∃ (σ0 : Fr) (R_ : Hp) (k_ : Nat) (cT : Hp), σ = upd (upd (upd (upd (upd (upd (upd (upd (upd (upd (upd (upd (upd (upd (upd (upd (upd (upd (upd σ0 0 (int n)) 1 (.slice a3 acts.length cap4)) 5 (.bool true)) 6 (ptr p15 0)) 7 (int (k_26 : Int))) 14 (.bool true)) 15 (int n)) 16 (.slice a3 acts.length cap4)) 17 (ptr p15 0)) 18 (ptr p15 0)) 19 (.bool false)) 20 (int (k_26 : Int))) 21 (ptr p15 0)) 22 (int (s.nodes.length : Int))) 23 (.bool (decide ((k_26 : Int) < (s.nodes.length : Int))))) 82 (int n)) 83 (.slice a137 ((clsOf n).length) cap138)) 84 (int (((clsOf n).length : Nat) : Int))) 85 (int (k_ : Int)) ∧ mks (σ0 0) = [] ∧ Step w R [] w_ R_ [cT] ∧ Le R128 R_ ∧ Tree R_ p15 s cT ∧ k_ ≤ (clsOf n).length ∧ m_ = (clsOf n).length - k_) (m := (clsOf n).length - 0) ?_ ?_
   ·
    exact ⟨_, _, 0, cT27, (upd_of (upd_of (upd_of (upd_of (upd_of (upd_of (upd_of (upd_of (upd_of (upd_of (upd_of (upd_of (upd_of (upd_of (upd_of (upd_of (upd_of (upd_of (upd_of rfl rfl) rfl) rfl) rfl) rfl) rfl) rfl) rfl) rfl) rfl) rfl) rfl) rfl) rfl) rfl) rfl) rfl) rfl) rfl), hmk18, hst132, Le.refl _, hm133, (by omega), rfl⟩
   ·
    rintro m151 σ_ w143 ⟨s147, R148, k_149, cT150, rfl, hmk141, hst142, hle144, hi145, hf146, rfl⟩
    refine W_seq ?_
    refine W_region_lit ?_
    refine Lq (.bool (decide ((k_149 : Int) < (((clsOf n).length : Nat) : Int)))) rfl rfl rfl (by kernel_rfl) ?_
    refine L_nil ?_
    refine W_seq ?_
    rcases Bool.eq_false_or_eq_true (decide ((k_149 : Int) < (((clsOf n).length : Nat) : Int))) with c152 | c152
    ·
     have q153 := of_decide_eq_true c152
     refine W_cond_true (by show Value.bool _ = _; exact congrArg Value.bool c152) ?_
     refine W_skip ?_
     refine W_seq ?_
     refine W_block ?_
     refine W_seq ?_
     refine W_region_lit ?_
     refine Lq (int (k_149 : Int)) rfl rfl rfl rfl ?_
     obtain ⟨b154, off155, cap156, cs157, T158, fz159, e160, hc161, hb162, he163⟩ := hrd134.open (by omega)
     cases e160
     obtain ⟨cl164, hs165, hr166⟩ := he163.at k_149 (by omega)
     obtain ⟨x167, hx168⟩ : ∃ x_, x_ = ((clsOf n)[k_149]'(by omega)) := ⟨_, rfl⟩
     rw [← hx168] at hr166
     have hx168b : x167.fields.length ≤ 64 := by rw [hx168]; exact hfs _ (List.getElem_mem _)
     obtain ⟨vn169, rfl, hvn170⟩ := tyCls_open hr166
     refine Lq (ptr b154 (off155 + k_149 * 3)) rfl rfl rfl (x_indexAddr' rfl sl_26 ti_48 rfl rfl (by omega)) ?_
     refine Lq (.agg #[(.string x167.name), vn169, (.slice none 0 0)]) rfl rfl rfl (x_load rfl rfl (run_loadVar_agg ti_48 ((Le.trans hle144 hst142.rle') _ _ hb162) hs165 rfl)) ?_
     refine L_new hst142 (v := fun b => ptr b 0) (ob := .cells #[(.string ⟨#[]⟩), (.slice none 0 0), (.slice none 0 0)] 48 (0, 0)) rfl rfl rfl (by kernel_rfl) (fun b171 w172 hst173 => ?_)
     refine Lq (int (k_149 : Int)) rfl rfl rfl rfl ?_
     obtain ⟨a174, cap175, e176, hc177⟩ := hvn170.shape
     subst e176
     refine L_store hst173 0 ti_48 rfl rfl rfl rfl rfl rfl rfl rfl rfl rfl rfl (fun w178 hst179 => ?_)
     change Step _ _ _ _ _ [one b171 (.cells #[(.string x167.name), (.slice a174 x167.fields.length cap175), (.slice none 0 0)] 48 (0, 0)), cT150] at hst179
     refine L_nil ?_
     refine W_seq ?_
     refine W_region_lit ?_
     refine Lq (ptr p15 0) rfl rfl rfl rfl ?_
     refine Lq (int (k_149 : Int)) rfl rfl rfl rfl ?_
     refine L_callG hst179 (v := (int (rootL s.nodes s.roots (k_149 : Int)))) rfl rfl rfl (x_call (vs := #[(ptr p15 0), (int (k_149 : Int))]) rfl rfl (by kernel_rfl) ent_26) (Root_spec (k_149 : Int) (Tree.view hi145 (hst179.g 1) hst179.rle') (Le.refl _)) (fun w180 hst181 => ?_)
     refine Lq (int (rootL s.nodes s.roots (k_149 : Int))) rfl rfl rfl rfl ?_
     refine L_nil ?_
     refine W_seq ?_
     obtain ⟨hr1, hr2, hr3⟩ := Roots_law hwf hcore (i := k_149) (by omega) hx168
     refine W_region_draw [] (fun w => Le R148 (hp w) ∧ Le (one b171 (.cells #[(.string x167.name), (.slice a174 x167.fields.length cap175), (.slice none 0 0)] 48 (0, 0))) (hp w)) hmix (by decide +kernel) (fun _ _ h => h) ?_
     have hst183 := hst181.draws (w180.drawn + 1)
     generalize draws w180 (w180.drawn + 1) = w182 at hst183 ⊢
     refine LP (ptr p15 0) 0 rfl rfl rfl (fun u185 => rfl) ⟨hst183.rle', hst183.g 0⟩ ?_
     refine LP (int (rootL s.nodes s.roots (k_149 : Int))) 1 rfl rfl rfl (fun u188 => rfl) ⟨hst183.rle', hst183.g 0⟩ ?_
     refine LP (int (rootL s.nodes s.roots (k_149 : Int))) 3 rfl rfl rfl (fun u193 => rfl) ⟨hst183.rle', hst183.g 0⟩ ?_
     refine LA_all [2] (by decide +kernel) (by simp) ?_
     intro i_ hi_
     simp only [List.mem_cons, List.not_mem_nil, or_false] at hi_
     subst hi_
     refine One_call (i := 2) rfl rfl rfl (Want.plain rfl) (x_call (vs := #[(ptr p15 0), (int (rootL s.nodes s.roots (k_149 : Int)))]) rfl rfl (by kernel_rfl) ent_21) (Canon_spec (rootL s.nodes s.roots (k_149 : Int)) (Tree.view hi145 (hst183.g 1) hst183.rle') (Le.refl _)) ?_
     rintro e200 w198 ⟨rfl, hw201⟩
     have hst199 := hst183.grown hw201
     refine ⟨_, rfl, (fun _ => ⟨hst199.rle', hst199.g 0⟩), ?_⟩
     refine LP (.bool ((canon s.nodes (rootL s.nodes s.roots (k_149 : Int))) != (rootL s.nodes s.roots (k_149 : Int)))) 4 rfl rfl rfl (fun u203 => (by kernel_rfl)) ⟨hst199.rle', hst199.g 0⟩ ?_
     refine LP (.bool ((canon s.nodes (rootL s.nodes s.roots (k_149 : Int))) != (rootL s.nodes s.roots (k_149 : Int)))) 5 rfl rfl rfl (fun u206 => rfl) ⟨hst199.rle', hst199.g 0⟩ ?_
     have c209 : ((canon s.nodes (rootL s.nodes s.roots (k_149 : Int))) != (rootL s.nodes s.roots (k_149 : Int))) = false := (by first | exact bneF (by assumption) | exact decide_eq_false (by assumption) | exact decide_eq_true (by assumption) | exact beqT (by assumption) | assumption)
     have q210 : canon s.nodes (rootL s.nodes s.roots (k_149 : Int)) = rootL s.nodes s.roots (k_149 : Int) := by simpa using c209
     refine LP (ptr p15 0) 6 rfl rfl rfl (fun u212 => rfl) ⟨hst199.rle', hst199.g 0⟩ ?_ (hw := (Want.of rfl rfl rfl rfl (by rw [c209]; rfl)))
     refine LP (int (rootL s.nodes s.roots (k_149 : Int))) 7 rfl rfl rfl (fun u215 => rfl) ⟨hst199.rle', hst199.g 0⟩ ?_ (hw := (Want.of rfl rfl rfl rfl (by rw [c209]; rfl)))
     refine LP (int (k_149 : Int)) 9 rfl rfl rfl (fun u220 => rfl) ⟨hst199.rle', hst199.g 0⟩ ?_ (hw := (Want.of rfl rfl rfl rfl (by rw [c209]; rfl)))
     refine LA_all [8] (by decide +kernel) (by simp) ?_
     intro i_ hi_
     simp only [List.mem_cons, List.not_mem_nil, or_false] at hi_
     subst hi_
     refine One_call (i := 8) rfl rfl rfl (Want.of rfl rfl rfl rfl (by rw [c209]; rfl)) (x_call (vs := #[(ptr p15 0), (int (rootL s.nodes s.roots (k_149 : Int)))]) rfl rfl (by kernel_rfl) ent_22) (Class_spec (rootL s.nodes s.roots (k_149 : Int)) (Tree.view hi145 (hst199.g 1) hst199.rle') (Le.refl _)) ?_
     rintro e227 w225 ⟨rfl, hw228⟩
     have hst226 := hst199.grown hw228
     refine ⟨_, rfl, (fun _ => ⟨hst226.rle', hst226.g 0⟩), ?_⟩
     refine LP (.bool ((clsL s.nodes (rootL s.nodes s.roots (k_149 : Int))) != (k_149 : Int))) 10 rfl rfl rfl (fun u230 => (by kernel_rfl)) ⟨hst226.rle', hst226.g 0⟩ ?_ (hw := (Want.of rfl rfl rfl rfl (by rw [c209]; rfl)))
     refine LP (.bool ((clsL s.nodes (rootL s.nodes s.roots (k_149 : Int))) != (k_149 : Int))) 11 rfl rfl rfl (fun u233 => (x_pick rfl rfl (by rw [c209]; rfl))) ⟨hst226.rle', hst226.g 0⟩ ?_
     refine LP (.bool ((clsL s.nodes (rootL s.nodes s.roots (k_149 : Int))) != (k_149 : Int))) 12 rfl rfl rfl (fun u236 => rfl) ⟨hst226.rle', hst226.g 0⟩ ?_
     have c239 : ((clsL s.nodes (rootL s.nodes s.roots (k_149 : Int))) != (k_149 : Int)) = false := (by first | exact bneF (by assumption) | exact decide_eq_false (by assumption) | exact decide_eq_true (by assumption) | exact beqT (by assumption) | assumption)
     have q240 : clsL s.nodes (rootL s.nodes s.roots (k_149 : Int)) = (k_149 : Int) := by simpa using c239
     refine LP (ptr p15 0) 13 rfl rfl rfl (fun u242 => rfl) ⟨hst226.rle', hst226.g 0⟩ ?_ (hw := (Want.of rfl rfl rfl rfl (by rw [c239]; rfl)))
     refine LP (int (rootL s.nodes s.roots (k_149 : Int))) 14 rfl rfl rfl (fun u245 => rfl) ⟨hst226.rle', hst226.g 0⟩ ?_ (hw := (Want.of rfl rfl rfl rfl (by rw [c239]; rfl)))
     refine LP (ptr b171 1) 16 rfl rfl rfl (fun u250 => (by kernel_rfl)) ⟨hst226.rle', hst226.g 0⟩ ?_ (hw := (Want.of rfl rfl rfl rfl (by rw [c239]; rfl)))
     refine LT (.slice a174 x167.fields.length cap175) 17 rfl rfl rfl (fun u255 hF256 => (x_load rfl rfl (run_loadVar_one ti_42 (hF256.2 _ _ (one_self _ _)) rfl))) ⟨hst226.rle', hst226.g 0⟩ ?_ (hw := (Want.of rfl rfl rfl rfl (by rw [c239]; rfl)))
     refine LA_all [15] (by decide +kernel) (by simp) ?_
     intro i_ hi_
     simp only [List.mem_cons, List.not_mem_nil, or_false] at hi_
     subst hi_
     have hst260 := hst226
     refine One_callS (i := 15) [] [one b171 (.cells #[(.string x167.name), (.slice a174 x167.fields.length cap175), (.slice none 0 0)] 48 (0, 0)), cT150] hst260 rfl rfl rfl (Want.of rfl rfl rfl rfl (by rw [c239]; rfl)) (x_call (vs := #[(ptr p15 0), (int (rootL s.nodes s.roots (k_149 : Int)))]) rfl rfl (by kernel_rfl) ent_24) (Names_spec (rootL s.nodes s.roots (k_149 : Int)) (hst260.sats.take 0 rfl) (Tree.view hi145 (hst226.g 1) hst226.rle')) (fun v261 w262 R263 L264 hp265 hle266 hst267 => ?_)
     have hm268 := Tree.lift hi145 hle266
     obtain ⟨c269, rfl, ho270⟩ := hp265
     obtain ⟨R271, hst272, hle273, hc274⟩ := Step.frz hst267
     have hm275 := Tree.lift hm268 hle273
     have hrd276 := OwnL.freeze ho270 hle273 hc274
     have hnl277 := namesL_len (Tree.small hm275) (rootL s.nodes s.roots (k_149 : Int))
     refine ⟨(fun _ => ⟨(Le.trans hle266 (Le.trans hle273 hst272.rle')), hst272.g 0⟩), ?_⟩
     refine LA_all [18] (by decide +kernel) (by simp) ?_
     intro i_ hi_
     simp only [List.mem_cons, List.not_mem_nil, or_false] at hi_
     subst hi_
     obtain ⟨a281, cap282, e283, hc284⟩ := hrd276.shape
     subst e283
     refine One_call (i := 18) rfl rfl rfl (Want.of rfl rfl rfl rfl (by rw [c239]; rfl)) (x_call (vs := #[(.slice a281 ((namesL s.nodes (rootL s.nodes s.roots (k_149 : Int))).length) cap282), (.slice a174 x167.fields.length cap175)]) rfl rfl (by kernel_rfl) ent_23) (EqualR_spec (Le.refl _) (RdS.mono hrd276 hst272.rle') (RdS.mono hvn170 (Le.trans hle144 (Le.trans hle266 (Le.trans hle273 hst272.rle')))) (by first | omega | assumption | (simp only [List.length_append, List.length_cons, List.length_nil]; omega)) (by first | omega | assumption | (simp only [List.length_append, List.length_cons, List.length_nil]; omega))) ?_
     rintro e287 w285 ⟨rfl, hw288⟩
     have hst286 := hst272.grown hw288
     refine ⟨_, rfl, (fun _ => ⟨(Le.trans hle266 (Le.trans hle273 hst286.rle')), hst286.g 0⟩), ?_⟩
     refine LP (.bool (!(decide ((namesL s.nodes (rootL s.nodes s.roots (k_149 : Int))) = x167.fields)))) 19 rfl rfl rfl (fun u290 => rfl) ⟨(Le.trans hle266 (Le.trans hle273 hst286.rle')), hst286.g 0⟩ ?_ (hw := (Want.of rfl rfl rfl rfl (by rw [c239]; rfl)))
     refine LP (.bool (!(decide ((namesL s.nodes (rootL s.nodes s.roots (k_149 : Int))) = x167.fields)))) 20 rfl rfl rfl (fun u293 => (x_pick rfl rfl (by rw [c239]; rfl))) ⟨(Le.trans hle266 (Le.trans hle273 hst286.rle')), hst286.g 0⟩ ?_
     refine LA_done (by decide +kernel) ?_
     have c295 : (decide ((namesL s.nodes (rootL s.nodes s.roots (k_149 : Int))) = x167.fields)) = true := (by first | exact bneF (by assumption) | exact decide_eq_false (by assumption) | exact decide_eq_true (by assumption) | exact beqT (by assumption) | assumption)
     have q296 := of_decide_eq_true c295
     refine W_cond_false (by show Value.bool _ = _; exact congrArg Value.bool (by rw [c295]; rfl)) ?_
     refine W_skip ?_
     refine W_region_lit ?_
     refine Lq (int ((k_149 + 1 : Nat) : Int)) rfl rfl rfl (x_add_nat rfl rfl rfl (by omega)) ?_
     refine Lq (int ((k_149 + 1 : Nat) : Int)) rfl rfl rfl rfl ?_
     refine L_nil ?_
     refine ⟨(clsOf n).length - (k_149 + 1), by first | omega | (simp only [List.length_append, List.length_cons, List.length_nil]; omega), ?_⟩
     exact ⟨_, _, (k_149 + 1), cT150, (upd_of (upd_of (upd_of (upd_of (upd_of (upd_of (upd_of (upd_of (upd_of (upd_of (upd_of (upd_of (upd_of (upd_of (upd_of (upd_of (upd_of (upd_of (upd_of rfl rfl) rfl) rfl) rfl) rfl) rfl) rfl) rfl) rfl) rfl) rfl) rfl) rfl) rfl) rfl) rfl) rfl) rfl) rfl), hmk141, ((hst286.front 1 rfl rfl).keepN 1 rfl), (Le.trans hle144 (Le.trans hle266 hle273)), hm275, (by omega), rfl⟩
    ·
     have q297 := of_decide_eq_false c152
     refine W_cond_false (by show Value.bool _ = _; exact congrArg Value.bool c152) ?_
     refine W_exit ?_
     refine W_seq ?_
     refine W_region_lit ?_
     refine Lq (.bool true) rfl rfl rfl rfl ?_
     refine Lq (.bool true) rfl rfl rfl rfl ?_
     refine L_nil ?_
     refine W_ret ?_
     refine ⟨_, _, res_run (rs := [.tmp 4]) (vs := [(.bool true)]) Tryz.results4 (.cons (.tmp rfl) .nil) hmk141, ?_⟩
     exact ⟨_, _, _, rfl, (hst142).keepN 0 rfl, rfl, rfl⟩

set_option maxHeartbeats 2000000 in
theorem Adds_spec {w : World} {R : Hp} {v : Value} (n : Int) (acts : List Ac) (xa ya : Int) (hs : Sats w R []) (hv : RdS tyAc R v acts) :
    Calls Tryz.prog 8 #[int n, v, .agg #[int xa, int ya]] w (Comes' w R [] fun v' R' L' => v' = .bool true ∧ L' = []) := by
 have hst := Step.refl hs
 refine calls_of_W (n := 160) Tryz.func8 rfl Tryz.ntmps8 (Nat.le_of_ble_eq_true rfl) ?_
 refine W_seq ?_
 refine W_region_lit ?_
 refine L_new hst (v := fun b => ptr b 0) (ob := .cells #[(int xa), (int ya)] 49 (0, 0)) rfl rfl rfl (by kernel_rfl) (fun b1 w2 hst3 => ?_)
 refine Lq (.bool false) rfl rfl rfl rfl ?_
 refine L_nil ?_
 refine W_seq ?_
 refine W_region_lit ?_
 refine L_callG hst3 (v := (.bool true)) rfl rfl rfl (x_call (vs := #[]) rfl rfl (by kernel_rfl) ent_10) sanity_spec (fun w4 hst5 => ?_)
 refine Lq (.bool true) rfl rfl rfl rfl ?_
 refine L_nil ?_
 refine W_seq ?_
 refine W_region_lit ?_
 refine Lq (int n) rfl rfl rfl rfl ?_
 refine Lq v rfl rfl rfl rfl ?_
 obtain ⟨a6, cap7, e8, hc9⟩ := hv.shape
 subst e8
 have hst10 := hst5
 refine L_callS [] [one b1 (.cells #[(int xa), (int ya)] 49 (0, 0))] hst10 rfl rfl rfl (x_call (vs := #[(int n), (.slice a6 acts.length cap7)]) rfl rfl (by kernel_rfl) ent_20) (played_spec (v := (.slice a6 acts.length cap7)) n acts (hst10.sats.take 0 rfl) (RdS.mono hv (Le.refl _))) (fun v11 w12 R13 L14 hp15 hle16 hst17 => ?_)
 obtain ⟨p18, c19, rfl, rfl, htr20⟩ := hp15
 have hwf := played_wf n acts
 have hcore := played_core n acts
 have hbd := played_bd n acts
 have hpos := played_pos n acts
 obtain ⟨s, hs_⟩ : ∃ s_, s_ = (played n acts) := ⟨_, rfl⟩
 rw [← hs_] at htr20 hwf hcore hbd hpos
 have hnl := hbd.len
 refine Lq (ptr p18 0) rfl rfl rfl rfl ?_
 refine L_nil ?_
 refine W_seq ?_
 refine W_seq ?_
 refine W_region_lit ?_
 refine Lq (ptr p18 0) rfl rfl rfl rfl ?_
 refine Lq (.bool false) rfl rfl rfl (by kernel_rfl) ?_
 refine Lq (.bool false) rfl rfl rfl rfl ?_
 refine L_guard rfl rfl rfl rfl rfl ?_
 refine Lq (ptr p18 0) rfl rfl rfl rfl ?_
 refine L_guard rfl rfl rfl rfl rfl ?_
 refine L_callG hst17 (v := (int (s.nodes.length : Int))) rfl rfl rfl (x_call (vs := #[(ptr p18 0)]) rfl rfl (by kernel_rfl) ent_19) (Count_spec (Tree.view htr20 (hst17.g 0) hst17.rle') (Le.refl _)) (fun w21 hst22 => ?_)
 refine L_guard rfl rfl rfl rfl rfl ?_
 refine Lq (.bool ((s.nodes.length : Int) == 0)) rfl rfl rfl (by kernel_rfl) ?_
 refine Lq (.bool ((s.nodes.length : Int) == 0)) rfl rfl rfl rfl ?_
 refine L_nil ?_
 have c23 : ((s.nodes.length : Int) == 0) = false := (beqF (by omega))
 have q24 := ne_of_beq_false c23
 refine W_cond_false (by show Value.bool _ = _; exact congrArg Value.bool c23) ?_
 refine W_skip ?_
 refine W_seq ?_
 refine W_region_draw [] (fun w => Le R13 (hp w) ∧ Le (one b1 (.cells #[(int xa), (int ya)] 49 (0, 0))) (hp w)) hmix (by decide +kernel) (fun _ _ h => h) ?_
 have hst26 := hst22.draws (w21.drawn + 1)
 generalize draws w21 (w21.drawn + 1) = w25 at hst26 ⊢
 refine LP (ptr b1 0) 0 rfl rfl rfl (fun u28 => (by kernel_rfl)) ⟨hst26.rle', hst26.g 1⟩ ?_
 refine LT (int xa) 1 rfl rfl rfl (fun u31 hF32 => (x_load rfl rfl (run_loadVar_one ti_3 (hF32.2 _ _ (one_self _ _)) rfl))) ⟨hst26.rle', hst26.g 1⟩ ?_
 refine LP (ptr p18 0) 2 rfl rfl rfl (fun u34 => rfl) ⟨hst26.rle', hst26.g 1⟩ ?_
 refine LP (ptr p18 0) 5 rfl rfl rfl (fun u39 => rfl) ⟨hst26.rle', hst26.g 1⟩ ?_
 refine LP (ptr p18 0) 8 rfl rfl rfl (fun u44 => rfl) ⟨hst26.rle', hst26.g 1⟩ ?_
 refine LA_all [3] (by decide +kernel) (by simp) ?_
 intro i_ hi_
 simp only [List.mem_cons, List.not_mem_nil, or_false] at hi_
 subst hi_
 refine One_call (i := 3) rfl rfl rfl (Want.plain rfl) (x_call (vs := #[(ptr p18 0)]) rfl rfl (by kernel_rfl) ent_19) (Count_spec (Tree.view htr20 (hst26.g 0) hst26.rle') (Le.refl _)) ?_
 rintro e51 w49 ⟨rfl, hw52⟩
 have hst50 := hst26.grown hw52
 refine ⟨_, rfl, (fun _ => ⟨hst50.rle', hst50.g 1⟩), ?_⟩
 have hb56 := tmod_bd xa (m := (s.nodes.length : Int)) (by omega)
 refine LP (int (Int.tmod xa (s.nodes.length : Int))) 4 rfl rfl rfl (fun u54 => (x_rem rfl rfl rfl (by omega))) ⟨hst50.rle', hst50.g 1⟩ ?_
 refine LA_all [6] (by decide +kernel) (by simp) ?_
 intro i_ hi_
 simp only [List.mem_cons, List.not_mem_nil, or_false] at hi_
 subst hi_
 refine One_call (i := 6) rfl rfl rfl (Want.plain rfl) (x_call (vs := #[(ptr p18 0)]) rfl rfl (by kernel_rfl) ent_19) (Count_spec (Tree.view htr20 (hst50.g 0) hst50.rle') (Le.refl _)) ?_
 rintro e62 w60 ⟨rfl, hw63⟩
 have hst61 := hst50.grown hw63
 refine ⟨_, rfl, (fun _ => ⟨hst61.rle', hst61.g 1⟩), ?_⟩
 refine LP (int (Int.tmod xa (s.nodes.length : Int) + (s.nodes.length : Int))) 7 rfl rfl rfl (fun u65 => (x_add rfl rfl rfl (by constructor <;> omega))) ⟨hst61.rle', hst61.g 1⟩ ?_
 refine LA_all [9] (by decide +kernel) (by simp) ?_
 intro i_ hi_
 simp only [List.mem_cons, List.not_mem_nil, or_false] at hi_
 subst hi_
 refine One_call (i := 9) rfl rfl rfl (Want.plain rfl) (x_call (vs := #[(ptr p18 0)]) rfl rfl (by kernel_rfl) ent_19) (Count_spec (Tree.view htr20 (hst61.g 0) hst61.rle') (Le.refl _)) ?_
 rintro e72 w70 ⟨rfl, hw73⟩
 have hst71 := hst61.grown hw73
 refine ⟨_, rfl, (fun _ => ⟨hst71.rle', hst71.g 1⟩), ?_⟩
 have hb77 := kN_lt xa (m := (s.nodes.length : Int)) (by omega)
 refine LP (int (((kN (s.nodes.length : Int) xa) : Nat) : Int)) 10 rfl rfl rfl (fun u75 => (x_kN rfl rfl rfl (by omega))) ⟨hst71.rle', hst71.g 1⟩ ?_
 refine LP (int (((kN (s.nodes.length : Int) xa) : Nat) : Int)) 11 rfl rfl rfl (fun u79 => rfl) ⟨hst71.rle', hst71.g 1⟩ ?_
 refine LA_done (by decide +kernel) ?_
 refine W_seq ?_
 obtain ⟨kx, hkx⟩ : ∃ k_, k_ = (kN (s.nodes.length : Int) xa) := ⟨_, rfl⟩
 have hlkx : kx < s.nodes.length := by rw [hkx]; omega
 rw [← hkx]
 refine W_region_lit ?_
 refine Lq (ptr b1 1) rfl rfl rfl (by kernel_rfl) ?_
 refine Lq (int ya) rfl rfl rfl (x_load rfl rfl (run_loadVar_one ti_3 (hst71.b 1) rfl)) ?_
 refine L_callG hst71 (v := (.string (nameOf ya))) rfl rfl rfl (x_call (vs := #[(int ya)]) rfl rfl (by kernel_rfl) ent_31) (Name_spec ya) (fun w81 hst82 => ?_)
 refine Lq (.string (nameOf ya)) rfl rfl rfl rfl ?_
 refine L_nil ?_
 refine W_seq ?_
 obtain ⟨tn, htn⟩ : ∃ t_, t_ = (nameOf ya) := ⟨_, rfl⟩
 rw [← htn]
 refine W_region_lit ?_
 refine Lq (ptr p18 0) rfl rfl rfl rfl ?_
 refine Lq (int (kx : Int)) rfl rfl rfl rfl ?_
 have hst83 := hst82
 refine L_callS [] [c19, one b1 (.cells #[(int xa), (int ya)] 49 (0, 0))] hst83 rfl rfl rfl (x_call (vs := #[(ptr p18 0), (int (kx : Int))]) rfl rfl (by kernel_rfl) ent_24) (Names_spec (kx : Int) (hst83.sats.take 0 rfl) (Tree.view htr20 (hst82.g 0) hst82.rle')) (fun v84 w85 R86 L87 hp88 hle89 hst90 => ?_)
 have hm91 := Tree.lift htr20 hle89
 obtain ⟨c92, rfl, ho93⟩ := hp88
 obtain ⟨R94, hst95, hle96, hc97⟩ := Step.frz hst90
 have hm98 := Tree.lift hm91 hle96
 have hrd99 := OwnL.freeze ho93 hle96 hc97
 have hnl100 := namesL_len (Tree.small hm98) (kx : Int)
 refine Lq v84 rfl rfl rfl rfl ?_
 refine L_nil ?_
 refine W_seq ?_
 refine W_region_lit ?_
 refine Lq (ptr p18 0) rfl rfl rfl rfl ?_
 refine Lq (int (kx : Int)) rfl rfl rfl rfl ?_
 refine Lq (.string tn) rfl rfl rfl rfl ?_
 refine L_callG hst95 (v := (.tuple #[(int ((slotL s.nodes (kx : Int) tn).1)), (.bool ((slotL s.nodes (kx : Int) tn).2))])) rfl rfl rfl (x_call (vs := #[(ptr p18 0), (int (kx : Int)), (.string tn)]) rfl rfl (by kernel_rfl) ent_30) (Slot_spec (kx : Int) tn (Tree.view hm98 (hst95.g 0) hst95.rle') (Le.refl _)) (fun w101 hst102 => ?_)
 refine Lq (.tuple #[(int ((slotL s.nodes (kx : Int) tn).1)), (.bool ((slotL s.nodes (kx : Int) tn).2))]) rfl rfl rfl rfl ?_
 refine Lq (int ((slotL s.nodes (kx : Int) tn).1)) rfl rfl rfl (by kernel_rfl) ?_
 refine Lq (.bool ((slotL s.nodes (kx : Int) tn).2)) rfl rfl rfl (by kernel_rfl) ?_
 refine Lq (int ((slotL s.nodes (kx : Int) tn).1)) rfl rfl rfl rfl ?_
 refine Lq (.bool ((slotL s.nodes (kx : Int) tn).2)) rfl rfl rfl rfl ?_
 refine L_nil ?_
 refine W_seq ?_
 refine W_region_lit ?_
 refine Lq (ptr p18 0) rfl rfl rfl rfl ?_
 refine L_callG hst102 (v := (int (s.nodes.length : Int))) rfl rfl rfl (x_call (vs := #[(ptr p18 0)]) rfl rfl (by kernel_rfl) ent_19) (Count_spec (Tree.view hm98 (hst102.g 0) hst102.rle') (Le.refl _)) (fun w103 hst104 => ?_)
 refine Lq (int (s.nodes.length : Int)) rfl rfl rfl rfl ?_
 refine L_nil ?_
 refine W_seq ?_
 refine W_region_lit ?_
 refine Lq (ptr p18 0) rfl rfl rfl rfl ?_
 refine Lq (int (kx : Int)) rfl rfl rfl rfl ?_
 refine Lq (.string tn) rfl rfl rfl rfl ?_
 have hst105 := hst104
 refine L_callS [c19] [one b1 (.cells #[(int xa), (int ya)] 49 (0, 0))] hst105 rfl rfl rfl (x_call (vs := #[(ptr p18 0), (int (kx : Int)), (.string tn)]) rfl rfl (by kernel_rfl) ent_28) (Add_spec (kx : Int) tn (hst105.sats.take 1 rfl) hm98 (by omega)) (fun v106 w107 R108 L109 hp110 hle111 hst112 => ?_)
 obtain ⟨c113, rfl, rfl, htr114⟩ := hp110
 refine Lq (.tuple #[(int ((s.add (kx : Int) tn).1)), (int ((s.add (kx : Int) tn).2.1))]) rfl rfl rfl rfl ?_
 refine Lq (int ((s.add (kx : Int) tn).1)) rfl rfl rfl (by kernel_rfl) ?_
 refine Lq (int ((s.add (kx : Int) tn).2.1)) rfl rfl rfl (by kernel_rfl) ?_
 refine Lq (int ((s.add (kx : Int) tn).1)) rfl rfl rfl rfl ?_
 refine Lq (int ((s.add (kx : Int) tn).2.1)) rfl rfl rfl rfl ?_
 refine L_nil ?_
 refine W_seq ?_
 refine W_seq ?_
 refine W_region_lit ?_
 refine Lq (.bool ((slotL s.nodes (kx : Int) tn).2)) rfl rfl rfl rfl ?_
 refine Lq (.bool ((slotL s.nodes (kx : Int) tn).2)) rfl rfl rfl rfl ?_
 rcases Bool.eq_false_or_eq_true ((slotL s.nodes (kx : Int) tn).2) with c115 | c115
 ·
  refine L_unwanted rfl rfl rfl rfl (by rw [c115]; try rfl) rfl rfl ?_
  refine L_unwanted rfl rfl rfl rfl (by rw [c115]; try rfl) rfl rfl ?_
  refine Lq (.bool true) rfl rfl rfl (x_pick rfl rfl (by rw [c115]; rfl)) ?_
  refine L_nil ?_
  refine W_cond_true (by show Value.bool _ = _; exact congrArg Value.bool rfl) ?_
  refine W_seq ?_
  obtain ⟨ha1, ha2⟩ := Adds_no hwf hcore hlkx (.inl c115)
  have ha3 : ((s.add (kx : Int) tn).2.2.nodes.length : Int) = (s.nodes.length : Int) := by rw [ha2]
  refine W_region_lit ?_
  refine Lq (.bool true) rfl rfl rfl rfl ?_
  refine Lq (.bool true) rfl rfl rfl rfl ?_
  refine L_guard rfl rfl rfl rfl rfl ?_
  refine Lq (int ((s.add (kx : Int) tn).2.1)) rfl rfl rfl rfl ?_
  refine L_guard rfl rfl rfl rfl rfl ?_
  refine Lq (.bool (((s.add (kx : Int) tn).2.1) == 13)) rfl rfl rfl (by kernel_rfl) ?_
  refine Lq (.bool (((s.add (kx : Int) tn).2.1) == 13)) rfl rfl rfl rfl ?_
  refine Lq (.bool (((s.add (kx : Int) tn).2.1) == 13)) rfl rfl rfl rfl ?_
  have c116 : (((s.add (kx : Int) tn).2.1) == 13) = true := (by first | exact bneF (by assumption) | exact decide_eq_false (by assumption) | exact decide_eq_true (by assumption) | exact beqT (by assumption) | assumption)
  have q117 := eq_of_beq c116
  refine L_guard rfl rfl rfl rfl c116 ?_
  refine Lq (ptr p18 0) rfl rfl rfl rfl ?_
  refine L_guard rfl rfl rfl rfl c116 ?_
  refine L_callG hst112 (v := (int (((((s.add (kx : Int) tn).2.2).nodes).length : Nat) : Int))) rfl rfl rfl (x_call (vs := #[(ptr p18 0)]) rfl rfl (by kernel_rfl) ent_19) (Count_spec (Tree.view htr114 (hst112.g 0) hst112.rle') (Le.refl _)) (fun w118 hst119 => ?_)
  refine L_guard rfl rfl rfl rfl c116 ?_
  refine Lq (int (s.nodes.length : Int)) rfl rfl rfl rfl ?_
  refine L_guard rfl rfl rfl rfl c116 ?_
  refine Lq (.bool ((((((s.add (kx : Int) tn).2.2).nodes).length : Nat) : Int) == (s.nodes.length : Int))) rfl rfl rfl (by kernel_rfl) ?_
  refine Lq (.bool ((((((s.add (kx : Int) tn).2.2).nodes).length : Nat) : Int) == (s.nodes.length : Int))) rfl rfl rfl (x_pick rfl rfl (by rw [c116]; rfl)) ?_
  refine Lq (.bool ((((((s.add (kx : Int) tn).2.2).nodes).length : Nat) : Int) == (s.nodes.length : Int))) rfl rfl rfl rfl ?_
  refine L_nil ?_
  refine W_ret ?_
  refine ⟨_, _, res_run (rs := [.tmp 6]) (vs := [(.bool ((((((s.add (kx : Int) tn).2.2).nodes).length : Nat) : Int) == (s.nodes.length : Int)))]) Tryz.results8 (.cons (.tmp rfl) .nil) rfl, ?_⟩
  exact ⟨_, _, _, rfl, (hst119).keepN 0 rfl, congrArg Value.bool (by first | exact bneF (by assumption) | exact decide_eq_false (by assumption) | exact decide_eq_true (by assumption) | exact beqT (by assumption) | assumption), rfl⟩
 ·
  refine L_guard rfl rfl rfl rfl c115 ?_
  refine Lq (.string tn) rfl rfl rfl rfl ?_
  refine L_guard rfl rfl rfl rfl c115 ?_
  refine Lq (.bool (decide (tn = ⟨#[]⟩))) rfl rfl rfl (x_eqlD rfl rfl rfl) ?_
  refine Lq (.bool (decide (tn = ⟨#[]⟩))) rfl rfl rfl (x_pick rfl rfl (by rw [c115]; rfl)) ?_
  refine L_nil ?_
  rcases Bool.eq_false_or_eq_true (decide (tn = ⟨#[]⟩)) with c120 | c120
  ·
   have q121 := of_decide_eq_true c120
   refine W_cond_true (by show Value.bool _ = _; exact congrArg Value.bool c120) ?_
   refine W_seq ?_
   obtain ⟨ha1, ha2⟩ := Adds_no hwf hcore hlkx (.inr (of_decide_eq_true c120))
   have ha3 : ((s.add (kx : Int) tn).2.2.nodes.length : Int) = (s.nodes.length : Int) := by rw [ha2]
   refine W_region_lit ?_
   refine Lq (.bool true) rfl rfl rfl rfl ?_
   refine Lq (.bool true) rfl rfl rfl rfl ?_
   refine L_guard rfl rfl rfl rfl rfl ?_
   refine Lq (int ((s.add (kx : Int) tn).2.1)) rfl rfl rfl rfl ?_
   refine L_guard rfl rfl rfl rfl rfl ?_
   refine Lq (.bool (((s.add (kx : Int) tn).2.1) == 13)) rfl rfl rfl (by kernel_rfl) ?_
   refine Lq (.bool (((s.add (kx : Int) tn).2.1) == 13)) rfl rfl rfl rfl ?_
   refine Lq (.bool (((s.add (kx : Int) tn).2.1) == 13)) rfl rfl rfl rfl ?_
   have c122 : (((s.add (kx : Int) tn).2.1) == 13) = true := (by first | exact bneF (by assumption) | exact decide_eq_false (by assumption) | exact decide_eq_true (by assumption) | exact beqT (by assumption) | assumption)
   have q123 := eq_of_beq c122
   refine L_guard rfl rfl rfl rfl c122 ?_
   refine Lq (ptr p18 0) rfl rfl rfl rfl ?_
   refine L_guard rfl rfl rfl rfl c122 ?_
   refine L_callG hst112 (v := (int (((((s.add (kx : Int) tn).2.2).nodes).length : Nat) : Int))) rfl rfl rfl (x_call (vs := #[(ptr p18 0)]) rfl rfl (by kernel_rfl) ent_19) (Count_spec (Tree.view htr114 (hst112.g 0) hst112.rle') (Le.refl _)) (fun w124 hst125 => ?_)
   refine L_guard rfl rfl rfl rfl c122 ?_
   refine Lq (int (s.nodes.length : Int)) rfl rfl rfl rfl ?_
   refine L_guard rfl rfl rfl rfl c122 ?_
   refine Lq (.bool ((((((s.add (kx : Int) tn).2.2).nodes).length : Nat) : Int) == (s.nodes.length : Int))) rfl rfl rfl (by kernel_rfl) ?_
   refine Lq (.bool ((((((s.add (kx : Int) tn).2.2).nodes).length : Nat) : Int) == (s.nodes.length : Int))) rfl rfl rfl (x_pick rfl rfl (by rw [c122]; rfl)) ?_
   refine Lq (.bool ((((((s.add (kx : Int) tn).2.2).nodes).length : Nat) : Int) == (s.nodes.length : Int))) rfl rfl rfl rfl ?_
   refine L_nil ?_
   refine W_ret ?_
   refine ⟨_, _, res_run (rs := [.tmp 6]) (vs := [(.bool ((((((s.add (kx : Int) tn).2.2).nodes).length : Nat) : Int) == (s.nodes.length : Int)))]) Tryz.results8 (.cons (.tmp rfl) .nil) rfl, ?_⟩
   exact ⟨_, _, _, rfl, (hst125).keepN 0 rfl, congrArg Value.bool (by first | exact bneF (by assumption) | exact decide_eq_false (by assumption) | exact decide_eq_true (by assumption) | exact beqT (by assumption) | assumption), rfl⟩
  ·
   have q126 := of_decide_eq_false c120
   refine W_cond_false (by show Value.bool _ = _; exact congrArg Value.bool c120) ?_
   refine W_skip ?_
   refine W_seq ?_
   refine W_seq ?_
   obtain ⟨ha1, ha2, ha3, ha4, ha5, ha6, ha7, ha8, ha9, ha10⟩ := Adds_law hwf hcore hlkx c115 (of_decide_eq_false c120) (fun x hx => by have := hbd.names x hx; omega) (by omega)
   have hnb := namesL_bd hbd.names (kx : Int)
   have ha11 : (((s.add (kx : Int) tn).2.2.nodes.length : Nat) : Int) ≤ ((s.nodes.length + 1 : Nat) : Int) := by omega
   refine W_region_lit ?_
   refine Lq (int ((s.add (kx : Int) tn).2.1)) rfl rfl rfl rfl ?_
   refine Lq (.bool (((s.add (kx : Int) tn).2.1) != 0)) rfl rfl rfl (by kernel_rfl) ?_
   refine L_nil ?_
   have c127 : (((s.add (kx : Int) tn).2.1) != 0) = false := (by first | exact bneF (by assumption) | exact decide_eq_false (by assumption) | exact decide_eq_true (by assumption) | exact beqT (by assumption) | assumption)
   have q128 : (s.add (kx : Int) tn).2.1 = 0 := by simpa using c127
   refine W_cond_false (by show Value.bool _ = _; exact congrArg Value.bool c127) ?_
   refine W_skip ?_
   refine W_seq ?_
   refine W_region_lit ?_
   refine Lq (ptr p18 0) rfl rfl rfl rfl ?_
   refine Lq (int (kx : Int)) rfl rfl rfl rfl ?_
   refine Lq (.string tn) rfl rfl rfl rfl ?_
   have hst129 := hst112
   refine L_callS [c113] [one b1 (.cells #[(int xa), (int ya)] 49 (0, 0))] hst129 rfl rfl rfl (x_call (vs := #[(ptr p18 0), (int (kx : Int)), (.string tn)]) rfl rfl (by kernel_rfl) ent_28) (Add_spec (kx : Int) tn (hst129.sats.take 1 rfl) htr114 (by omega)) (fun v130 w131 R132 L133 hp134 hle135 hst136 => ?_)
   obtain ⟨c137, rfl, rfl, htr138⟩ := hp134
   rw [ha4] at htr138
   refine Lq (.tuple #[(int ((((s.add (kx : Int) tn).2.2).add (kx : Int) tn).1)), (int ((((s.add (kx : Int) tn).2.2).add (kx : Int) tn).2.1))]) rfl rfl rfl rfl ?_
   refine Lq (int ((((s.add (kx : Int) tn).2.2).add (kx : Int) tn).1)) rfl rfl rfl (by kernel_rfl) ?_
   refine Lq (int ((((s.add (kx : Int) tn).2.2).add (kx : Int) tn).2.1)) rfl rfl rfl (by kernel_rfl) ?_
   refine Lq (int ((((s.add (kx : Int) tn).2.2).add (kx : Int) tn).1)) rfl rfl rfl rfl ?_
   refine Lq (int ((((s.add (kx : Int) tn).2.2).add (kx : Int) tn).2.1)) rfl rfl rfl rfl ?_
   refine L_nil ?_
   refine W_seq ?_
   refine W_region_lit ?_
   refine Lq (ptr p18 0) rfl rfl rfl rfl ?_
   refine Lq (int ((s.add (kx : Int) tn).1)) rfl rfl rfl rfl ?_
   refine Lq (.string tn) rfl rfl rfl rfl ?_
   refine L_callG hst136 (v := (.tuple #[(int ((slotL ((s.add (kx : Int) tn).2.2).nodes ((s.add (kx : Int) tn).1) tn).1)), (.bool ((slotL ((s.add (kx : Int) tn).2.2).nodes ((s.add (kx : Int) tn).1) tn).2))])) rfl rfl rfl (x_call (vs := #[(ptr p18 0), (int ((s.add (kx : Int) tn).1)), (.string tn)]) rfl rfl (by kernel_rfl) ent_30) (Slot_spec ((s.add (kx : Int) tn).1) tn (Tree.view htr138 (hst136.g 0) hst136.rle') (Le.refl _)) (fun w139 hst140 => ?_)
   refine Lq (.tuple #[(int ((slotL ((s.add (kx : Int) tn).2.2).nodes ((s.add (kx : Int) tn).1) tn).1)), (.bool ((slotL ((s.add (kx : Int) tn).2.2).nodes ((s.add (kx : Int) tn).1) tn).2))]) rfl rfl rfl rfl ?_
   refine Lq (int ((slotL ((s.add (kx : Int) tn).2.2).nodes ((s.add (kx : Int) tn).1) tn).1)) rfl rfl rfl (by kernel_rfl) ?_
   refine Lq (.bool ((slotL ((s.add (kx : Int) tn).2.2).nodes ((s.add (kx : Int) tn).1) tn).2)) rfl rfl rfl (by kernel_rfl) ?_
   refine Lq (int ((slotL ((s.add (kx : Int) tn).2.2).nodes ((s.add (kx : Int) tn).1) tn).1)) rfl rfl rfl rfl ?_
   refine Lq (.bool ((slotL ((s.add (kx : Int) tn).2.2).nodes ((s.add (kx : Int) tn).1) tn).2)) rfl rfl rfl rfl ?_
   refine L_nil ?_
   refine W_seq ?_
   refine W_region_lit ?_
   refine Lq (.bool true) rfl rfl rfl rfl ?_
   refine Lq (.bool true) rfl rfl rfl rfl ?_
   refine L_guard rfl rfl rfl rfl rfl ?_
   refine Lq (int ((((s.add (kx : Int) tn).2.2).add (kx : Int) tn).2.1)) rfl rfl rfl rfl ?_
   refine L_guard rfl rfl rfl rfl rfl ?_
   refine Lq (.bool (((((s.add (kx : Int) tn).2.2).add (kx : Int) tn).2.1) == 0)) rfl rfl rfl (by kernel_rfl) ?_
   refine Lq (.bool (((((s.add (kx : Int) tn).2.2).add (kx : Int) tn).2.1) == 0)) rfl rfl rfl rfl ?_
   refine Lq (.bool (((((s.add (kx : Int) tn).2.2).add (kx : Int) tn).2.1) == 0)) rfl rfl rfl rfl ?_
   have c141 : (((((s.add (kx : Int) tn).2.2).add (kx : Int) tn).2.1) == 0) = true := (by first | exact bneF (by assumption) | exact decide_eq_false (by assumption) | exact decide_eq_true (by assumption) | exact beqT (by assumption) | assumption)
   have q142 := eq_of_beq c141
   refine L_guard rfl rfl rfl rfl c141 ?_
   refine Lq (int ((s.add (kx : Int) tn).1)) rfl rfl rfl rfl ?_
   refine L_guard rfl rfl rfl rfl c141 ?_
   refine Lq (int ((((s.add (kx : Int) tn).2.2).add (kx : Int) tn).1)) rfl rfl rfl rfl ?_
   refine L_guard rfl rfl rfl rfl c141 ?_
   refine Lq (.bool (((s.add (kx : Int) tn).1) == ((((s.add (kx : Int) tn).2.2).add (kx : Int) tn).1))) rfl rfl rfl (by kernel_rfl) ?_
   refine Lq (.bool (((s.add (kx : Int) tn).1) == ((((s.add (kx : Int) tn).2.2).add (kx : Int) tn).1))) rfl rfl rfl (x_pick rfl rfl (by rw [c141]; rfl)) ?_
   refine Lq (.bool (((s.add (kx : Int) tn).1) == ((((s.add (kx : Int) tn).2.2).add (kx : Int) tn).1))) rfl rfl rfl rfl ?_
   have c143 : (((s.add (kx : Int) tn).1) == ((((s.add (kx : Int) tn).2.2).add (kx : Int) tn).1)) = true := (by first | exact bneF (by assumption) | exact decide_eq_false (by assumption) | exact decide_eq_true (by assumption) | exact beqT (by assumption) | assumption)
   have q144 := eq_of_beq c143
   refine L_guard rfl rfl rfl rfl c143 ?_
   refine Lq (.bool ((slotL ((s.add (kx : Int) tn).2.2).nodes ((s.add (kx : Int) tn).1) tn).2)) rfl rfl rfl rfl ?_
   refine Lq (.bool ((slotL ((s.add (kx : Int) tn).2.2).nodes ((s.add (kx : Int) tn).1) tn).2)) rfl rfl rfl (x_pick rfl rfl (by rw [c143]; rfl)) ?_
   refine Lq (.bool ((slotL ((s.add (kx : Int) tn).2.2).nodes ((s.add (kx : Int) tn).1) tn).2)) rfl rfl rfl rfl ?_
   have c145 : ((slotL ((s.add (kx : Int) tn).2.2).nodes ((s.add (kx : Int) tn).1) tn).2) = true := (by first | exact bneF (by assumption) | exact decide_eq_false (by assumption) | exact decide_eq_true (by assumption) | exact beqT (by assumption) | assumption)
   refine L_guard rfl rfl rfl rfl c145 ?_
   refine Lq (int ((slotL ((s.add (kx : Int) tn).2.2).nodes ((s.add (kx : Int) tn).1) tn).1)) rfl rfl rfl rfl ?_
   refine L_guard rfl rfl rfl rfl c145 ?_
   refine Lq v84 rfl rfl rfl rfl ?_
   refine L_guard rfl rfl rfl rfl c145 ?_
   obtain ⟨a146, cap147, e148, hc149⟩ := hrd99.shape
   subst e148
   refine Lq (int (((namesL s.nodes (kx : Int)).length : Nat) : Int)) rfl rfl rfl (x_len_slice rfl sl_42 rfl) ?_
   refine L_guard rfl rfl rfl rfl c145 ?_
   refine Lq (.bool (((slotL ((s.add (kx : Int) tn).2.2).nodes ((s.add (kx : Int) tn).1) tn).1) == (((namesL s.nodes (kx : Int)).length : Nat) : Int))) rfl rfl rfl (by kernel_rfl) ?_
   refine Lq (.bool (((slotL ((s.add (kx : Int) tn).2.2).nodes ((s.add (kx : Int) tn).1) tn).1) == (((namesL s.nodes (kx : Int)).length : Nat) : Int))) rfl rfl rfl (x_pick rfl rfl (by rw [c145]; rfl)) ?_
   refine Lq (.bool (((slotL ((s.add (kx : Int) tn).2.2).nodes ((s.add (kx : Int) tn).1) tn).1) == (((namesL s.nodes (kx : Int)).length : Nat) : Int))) rfl rfl rfl rfl ?_
   have c150 : (((slotL ((s.add (kx : Int) tn).2.2).nodes ((s.add (kx : Int) tn).1) tn).1) == (((namesL s.nodes (kx : Int)).length : Nat) : Int)) = true := (by first | exact bneF (by assumption) | exact decide_eq_false (by assumption) | exact decide_eq_true (by assumption) | exact beqT (by assumption) | assumption)
   have q151 := eq_of_beq c150
   refine L_guard rfl rfl rfl rfl c150 ?_
   refine Lq (ptr p18 0) rfl rfl rfl rfl ?_
   refine L_guard rfl rfl rfl rfl c150 ?_
   refine Lq (int ((s.add (kx : Int) tn).1)) rfl rfl rfl rfl ?_
   refine L_guard rfl rfl rfl rfl c150 ?_
   have hst152 := hst140
   refine L_callS [] [c137, one b1 (.cells #[(int xa), (int ya)] 49 (0, 0))] hst152 rfl rfl rfl (x_call (vs := #[(ptr p18 0), (int ((s.add (kx : Int) tn).1))]) rfl rfl (by kernel_rfl) ent_24) (Names_spec ((s.add (kx : Int) tn).1) (hst152.sats.take 0 rfl) (Tree.view htr138 (hst140.g 0) hst140.rle')) (fun v153 w154 R155 L156 hp157 hle158 hst159 => ?_)
   have hm160 := Tree.lift htr138 hle158
   obtain ⟨c161, rfl, ho162⟩ := hp157
   obtain ⟨R163, hst164, hle165, hc166⟩ := Step.frz hst159
   have hm167 := Tree.lift hm160 hle165
   have hrd168 := OwnL.freeze ho162 hle165 hc166
   have hnl169 := namesL_len (Tree.small hm167) ((s.add (kx : Int) tn).1)
   refine L_guard rfl rfl rfl rfl c150 ?_
   refine L_new hst164 (v := fun b => .slice (some ⟨b, 0, none⟩) 0 0) (ob := .cells #[] 9 (0, 0)) rfl rfl rfl (by kernel_rfl) (fun b170 w171 hst172 => ?_)
   refine L_guard rfl rfl rfl rfl c150 ?_
   refine Lq (.slice a146 ((namesL s.nodes (kx : Int)).length) cap147) rfl rfl rfl rfl ?_
   refine L_guard rfl rfl rfl rfl c150 ?_
   have ho173 : OwnL Ty.str 9 R163 (.slice (some ⟨b170, 0, none⟩) 0 0) ([] : List Str) (one b170 (.cells #[] 9 (0, 0))) := OwnL.lit (cs := []) Encs.nil rfl (by decide)
   obtain ⟨v174, c175, w176, hr177, ho178, hst179⟩ := run_appendM (P := Tryz.prog) (tt := 42) sl_42 ti_9 rfl ho173 hst172 (RdS.mono hrd99 (Le.trans hle111 (Le.trans hle135 (Le.trans hle158 hle165)))) hst172.rle' (by simp only [List.length_append, List.length_cons, List.length_nil]; omega) (by simp only [List.length_append, List.length_cons, List.length_nil, maxLen]; omega)
   refine L_val (v := v174) (w' := w176) rfl rfl rfl (x_append rfl rfl rfl hr177) ?_
   refine L_guard rfl rfl rfl rfl c150 ?_
   refine Lq (.string tn) rfl rfl rfl rfl ?_
   refine L_guard rfl rfl rfl rfl c150 ?_
   refine L_new hst179 (v := fun b => .slice (some ⟨b, 0, none⟩) 1 1) (ob := .cells #[(.string tn)] 9 (0, 0)) rfl rfl rfl (by kernel_rfl) (fun b180 w181 hst182 => ?_)
   refine L_guard rfl rfl rfl rfl c150 ?_
   refine L_append hst182 (t := 42) (e := 9) (ys := [tn]) (src := [(.string tn)]) 1 rfl rfl rfl rfl rfl rfl sl_42 ti_9 rfl rfl rfl ho178 (src_own (hst182.b 0)) (str_mk _ _) rfl (by first | omega | (simp only [List.length_append, List.length_cons, List.length_nil]; omega)) (by first | (simp only [maxLen]; omega) | (simp only [List.length_append, List.length_cons, List.length_nil, maxLen]; omega)) (fun v183 c184 w185 ho186 hst187 => ?_)
   refine L_guard rfl rfl rfl rfl c150 ?_
   obtain ⟨R188, hst189, hle190, hc191⟩ := Step.frz hst187
   have hm192 := Tree.lift hm167 hle190
   have hrd193 := OwnL.freeze ho186 hle190 hc191
   obtain ⟨a194, cap195, e196, hc197⟩ := hrd168.shape
   subst e196
   obtain ⟨a198, cap199, e200, hc201⟩ := hrd193.shape
   subst e200
   refine L_callG hst189 (v := (.bool (decide ((namesL ((s.add (kx : Int) tn).2.2).nodes ((s.add (kx : Int) tn).1)) = ((([] : List Str) ++ (namesL s.nodes (kx : Int))) ++ [tn]))))) rfl rfl rfl (x_call (vs := #[(.slice a194 ((namesL ((s.add (kx : Int) tn).2.2).nodes ((s.add (kx : Int) tn).1)).length) cap195), (.slice a198 (((([] : List Str) ++ (namesL s.nodes (kx : Int))) ++ [tn]).length) cap199)]) rfl rfl (by kernel_rfl) ent_23) (EqualR_spec (Le.refl _) (RdS.mono hrd168 (Le.trans hle190 hst189.rle')) (RdS.mono hrd193 hst189.rle') (by first | omega | assumption | (simp only [List.length_append, List.length_cons, List.length_nil]; omega)) (by first | omega | assumption | (simp only [List.length_append, List.length_cons, List.length_nil]; omega))) (fun w202 hst203 => ?_)
   refine Lq (.bool (decide ((namesL ((s.add (kx : Int) tn).2.2).nodes ((s.add (kx : Int) tn).1)) = ((([] : List Str) ++ (namesL s.nodes (kx : Int))) ++ [tn])))) rfl rfl rfl (x_pick rfl rfl (by rw [c150]; rfl)) ?_
   refine Lq (.bool (decide ((namesL ((s.add (kx : Int) tn).2.2).nodes ((s.add (kx : Int) tn).1)) = ((([] : List Str) ++ (namesL s.nodes (kx : Int))) ++ [tn])))) rfl rfl rfl rfl ?_
   have c204 : (decide ((namesL ((s.add (kx : Int) tn).2.2).nodes ((s.add (kx : Int) tn).1)) = ((([] : List Str) ++ (namesL s.nodes (kx : Int))) ++ [tn]))) = true := (by first | exact bneF (by assumption) | exact decide_eq_false (by assumption) | exact decide_eq_true (by assumption) | exact beqT (by assumption) | assumption)
   have q205 := of_decide_eq_true c204
   refine L_guard rfl rfl rfl rfl c204 ?_
   refine Lq (ptr p18 0) rfl rfl rfl rfl ?_
   refine L_guard rfl rfl rfl rfl c204 ?_
   refine Lq (int ((s.add (kx : Int) tn).1)) rfl rfl rfl rfl ?_
   refine L_guard rfl rfl rfl rfl c204 ?_
   refine L_callG hst203 (v := (int (clsL ((s.add (kx : Int) tn).2.2).nodes ((s.add (kx : Int) tn).1)))) rfl rfl rfl (x_call (vs := #[(ptr p18 0), (int ((s.add (kx : Int) tn).1))]) rfl rfl (by kernel_rfl) ent_22) (Class_spec ((s.add (kx : Int) tn).1) (Tree.view hm192 (hst203.g 1) hst203.rle') (Le.refl _)) (fun w206 hst207 => ?_)
   refine L_guard rfl rfl rfl rfl c204 ?_
   refine Lq (ptr p18 0) rfl rfl rfl rfl ?_
   refine L_guard rfl rfl rfl rfl c204 ?_
   refine Lq (int (kx : Int)) rfl rfl rfl rfl ?_
   refine L_guard rfl rfl rfl rfl c204 ?_
   refine L_callG hst207 (v := (int (clsL ((s.add (kx : Int) tn).2.2).nodes (kx : Int)))) rfl rfl rfl (x_call (vs := #[(ptr p18 0), (int (kx : Int))]) rfl rfl (by kernel_rfl) ent_22) (Class_spec (kx : Int) (Tree.view hm192 (hst207.g 1) hst207.rle') (Le.refl _)) (fun w208 hst209 => ?_)
   refine L_guard rfl rfl rfl rfl c204 ?_
   refine Lq (.bool ((clsL ((s.add (kx : Int) tn).2.2).nodes ((s.add (kx : Int) tn).1)) == (clsL ((s.add (kx : Int) tn).2.2).nodes (kx : Int)))) rfl rfl rfl (by kernel_rfl) ?_
   refine Lq (.bool ((clsL ((s.add (kx : Int) tn).2.2).nodes ((s.add (kx : Int) tn).1)) == (clsL ((s.add (kx : Int) tn).2.2).nodes (kx : Int)))) rfl rfl rfl (x_pick rfl rfl (by rw [c204]; rfl)) ?_
   refine Lq (.bool ((clsL ((s.add (kx : Int) tn).2.2).nodes ((s.add (kx : Int) tn).1)) == (clsL ((s.add (kx : Int) tn).2.2).nodes (kx : Int)))) rfl rfl rfl rfl ?_
   have c210 : ((clsL ((s.add (kx : Int) tn).2.2).nodes ((s.add (kx : Int) tn).1)) == (clsL ((s.add (kx : Int) tn).2.2).nodes (kx : Int))) = true := (by first | exact bneF (by assumption) | exact decide_eq_false (by assumption) | exact decide_eq_true (by assumption) | exact beqT (by assumption) | assumption)
   have q211 := eq_of_beq c210
   refine L_guard rfl rfl rfl rfl c210 ?_
   refine Lq (ptr p18 0) rfl rfl rfl rfl ?_
   refine L_guard rfl rfl rfl rfl c210 ?_
   refine Lq (int ((s.add (kx : Int) tn).1)) rfl rfl rfl rfl ?_
   refine L_guard rfl rfl rfl rfl c210 ?_
   refine L_callG hst209 (v := (int (canon (((s.add (kx : Int) tn).2.2).nodes) ((s.add (kx : Int) tn).1)))) rfl rfl rfl (x_call (vs := #[(ptr p18 0), (int ((s.add (kx : Int) tn).1))]) rfl rfl (by kernel_rfl) ent_21) (Canon_spec ((s.add (kx : Int) tn).1) (Tree.view hm192 (hst209.g 1) hst209.rle') (Le.refl _)) (fun w212 hst213 => ?_)
   refine L_guard rfl rfl rfl rfl c210 ?_
   refine Lq (int ((s.add (kx : Int) tn).1)) rfl rfl rfl rfl ?_
   refine L_guard rfl rfl rfl rfl c210 ?_
   refine Lq (.bool ((canon (((s.add (kx : Int) tn).2.2).nodes) ((s.add (kx : Int) tn).1)) == ((s.add (kx : Int) tn).1))) rfl rfl rfl (by kernel_rfl) ?_
   refine Lq (.bool ((canon (((s.add (kx : Int) tn).2.2).nodes) ((s.add (kx : Int) tn).1)) == ((s.add (kx : Int) tn).1))) rfl rfl rfl (x_pick rfl rfl (by rw [c210]; rfl)) ?_
   refine Lq (.bool ((canon (((s.add (kx : Int) tn).2.2).nodes) ((s.add (kx : Int) tn).1)) == ((s.add (kx : Int) tn).1))) rfl rfl rfl rfl ?_
   have c214 : ((canon (((s.add (kx : Int) tn).2.2).nodes) ((s.add (kx : Int) tn).1)) == ((s.add (kx : Int) tn).1)) = true := (by first | exact bneF (by assumption) | exact decide_eq_false (by assumption) | exact decide_eq_true (by assumption) | exact beqT (by assumption) | assumption)
   have q215 := eq_of_beq c214
   refine L_guard rfl rfl rfl rfl c214 ?_
   refine Lq (ptr p18 0) rfl rfl rfl rfl ?_
   refine L_guard rfl rfl rfl rfl c214 ?_
   refine L_callG hst213 (v := (int (((((s.add (kx : Int) tn).2.2).nodes).length : Nat) : Int))) rfl rfl rfl (x_call (vs := #[(ptr p18 0)]) rfl rfl (by kernel_rfl) ent_19) (Count_spec (Tree.view hm192 (hst213.g 1) hst213.rle') (Le.refl _)) (fun w216 hst217 => ?_)
   refine L_guard rfl rfl rfl rfl c214 ?_
   refine Lq (int (s.nodes.length : Int)) rfl rfl rfl rfl ?_
   refine L_guard rfl rfl rfl rfl c214 ?_
   refine Lq (int ((s.nodes.length + 1 : Nat) : Int)) rfl rfl rfl (x_add_nat rfl rfl rfl (by omega)) ?_
   refine L_guard rfl rfl rfl rfl c214 ?_
   refine Lq (.bool (decide ((((((s.add (kx : Int) tn).2.2).nodes).length : Nat) : Int) ≤ ((s.nodes.length + 1 : Nat) : Int)))) rfl rfl rfl (by kernel_rfl) ?_
   refine Lq (.bool (decide ((((((s.add (kx : Int) tn).2.2).nodes).length : Nat) : Int) ≤ ((s.nodes.length + 1 : Nat) : Int)))) rfl rfl rfl (x_pick rfl rfl (by rw [c214]; rfl)) ?_
   refine Lq (.bool (decide ((((((s.add (kx : Int) tn).2.2).nodes).length : Nat) : Int) ≤ ((s.nodes.length + 1 : Nat) : Int)))) rfl rfl rfl rfl ?_
   refine L_nil ?_
   refine W_ret ?_
   refine ⟨_, _, res_run (rs := [.tmp 6]) (vs := [(.bool (decide ((((((s.add (kx : Int) tn).2.2).nodes).length : Nat) : Int) ≤ ((s.nodes.length + 1 : Nat) : Int))))]) Tryz.results8 (.cons (.tmp rfl) .nil) rfl, ?_⟩
   exact ⟨_, _, _, rfl, (hst217).keepN 0 rfl, congrArg Value.bool (by first | exact bneF (by assumption) | exact decide_eq_false (by assumption) | exact decide_eq_true (by assumption) | exact beqT (by assumption) | assumption), rfl⟩

end Go.Fx.YtjpdhfhiimbpgaaGreatDoor
