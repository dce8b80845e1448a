/-
  Chapter 14: Text, printed by gent.py
-/
import Derived.Test.YtdkjoljcffkpkaaDoorPrT1
set_option linter.unusedSimpArgs false
set_option linter.unusedVariables false
namespace Go.Fx.YtdkjoljcffkpkaaDoor
open Go Go.Fx Go.Proofs
set_option maxRecDepth 20000

theorem ent_34 : Ent Tryd.prog 34 := fun _ _ => by kernel_rfl
theorem ent_35 : Ent Tryd.prog 35 := fun _ _ => by kernel_rfl
theorem ent_39 : Ent Tryd.prog 39 := fun _ _ => by kernel_rfl
theorem ent_41 : Ent Tryd.prog 41 := fun _ _ => by kernel_rfl

set_option maxHeartbeats 2000000 in
theorem Text_spec {w : World} {R c : Hp} {p : Nat} {s : PS} (hprof : Prof R p s c) (hpc : Le c (hp w)) (hT : Tab (hp w)) (hn : s.n ≤ 1000000000) (hlen : s.recs.length ≤ 12) (hkb : ∀ k, k ∈ AL.keys s.recs → I64 k.1 ∧ I64 k.2) :
    Calls Tryd.prog 14 #[ptr p 0] w fun e w' => ∃ ys, ys.Perm (AL.keys s.recs) ∧ SortedTo leP ys ys.length ∧ e = .returned (.string ⟨(textL s ys).toArray⟩) ∧ Grow w w' := by
 obtain ⟨bm, m, v, cM, cR, cD, rfl, hd1, hd2, hd3, hM, hRs, hD, hok⟩ := hprof
 have h1 := (uni_l _ _).trans hpc
 have h2 := (tri_1 cM cR cD).trans ((uni_r hd1).trans hpc)
 have h3 := (tri_2 hd2).trans ((uni_r hd1).trans hpc)
 have hst := Step.ro (Le.refl (hp w))
 have hml : m.length = s.recs.length := by have := congrArg List.length hRs.keys; simpa [AL.keys] using this
 have hlen' : m.length ≤ 12 := by omega
 refine calls_of_W (n := 60) Tryd.func14 rfl Tryd.ntmps14 (Nat.le_of_ble_eq_true rfl) ?_
 refine W_seq ?_
 refine W_region_lit ?_
 refine Lq (.string ⟨#[]⟩) rfl rfl rfl rfl ?_
 refine L_nil ?_
 refine W_seq ?_
 refine W_seq ?_
 refine W_region_lit ?_
 refine Lq (ptr p 0) rfl rfl rfl rfl ?_
 refine Lq (.bool false) rfl rfl rfl (by kernel_rfl) ?_
 refine L_nil ?_
 refine W_cond_false (by show Value.bool _ = _; exact congrArg Value.bool rfl) ?_
 refine W_skip ?_
 refine W_seq ?_
 refine W_region_lit ?_
 refine Lq (ptr p 0) rfl rfl rfl rfl ?_
 refine Lq (ptr p 0) rfl rfl rfl rfl ?_
 refine Lq (ptr p 4) rfl rfl rfl (by kernel_rfl) ?_
 refine Lq (.map (some bm)) rfl rfl rfl (x_load rfl rfl (run_loadVar_one ti_65 (hst.rle' _ _ (h1 _ _ (one_self _ _))) rfl)) ?_
 refine L_call rfl rfl rfl (x_call (vs := #[(.map (some bm))]) rfl rfl (by kernel_rfl) ent_35) ?_ (fun _ _ h => h)
 refine calls_of_W (n := 4) Tryd.func35 rfl Tryd.ntmps35 (Nat.le_of_ble_eq_true rfl) ?_
 refine W_seq ?_
 refine W_region_lit ?_
 refine L_new hst (v := fun b => ptr b 0) (ob := .cells #[(.map (some bm))] 65 (0, 0)) rfl rfl rfl (by kernel_rfl) (fun b1 w2 hst3 => ?_)
 refine Lq .nilFunc rfl rfl rfl rfl ?_
 refine L_nil ?_
 refine W_seq ?_
 refine W_region_lit ?_
 refine Lq (.func (.func 54) #[] #[(ptr b1 0)]) rfl rfl rfl (by kernel_rfl) ?_
 refine Lq (.func (.func 54) #[] #[(ptr b1 0)]) rfl rfl rfl rfl ?_
 refine L_nil ?_
 refine W_ret ?_
 refine ⟨_, _, res_run (rs := [.tmp 2]) (vs := [(.func (.func 54) #[] #[(ptr b1 0)])]) Tryd.results35 (.cons (.tmp rfl) .nil) rfl, ?_⟩
 refine ⟨_, rfl, ?_⟩
 obtain ⟨R4, hst5, hle6, hc7⟩ := Step.frz hst3
 have hst8 := hst5
 refine L_callS [] [] hst8 rfl rfl rfl (x_call (vs := #[(.func (.func 54) #[] #[(ptr b1 0)]), (.func (.func 36) #[] #[])]) rfl rfl (by kernel_rfl) ent_34) (SortedFunc_spec (m := m) (hst8.sats.take 0 rfl) hc7 hM (Le.trans h2 hle6) hlen') (fun v9 w10 R11 L12 hp13 hle14 hst15 => ?_)
 obtain ⟨c16, ys17, rfl, hperm18, hsrt19, ho20⟩ := hp13
 obtain ⟨R21, hst22, hle23, hc24⟩ := Step.frz hst15
 have hrd25 := OwnL.freeze ho20 hle23 hc24
 have hkl : ys17.length ≤ 12 := by rw [hperm18.length_eq]; simpa [AL.keys] using hlen'
 have hyk : ∀ k ∈ ys17, I64 k.1 ∧ I64 k.2 := fun k hk => hkb k (by rw [← hRs.keys]; exact hperm18.mem_iff.1 hk)
 have hline : ∀ k ∈ ys17, (lineB s k).size ≤ 1129 := fun k hk => lineB_le hok hn (hyk k hk)
 refine Lq v9 rfl rfl rfl rfl ?_
 refine L_nil ?_
 refine W_seq ?_
 refine W_region_lit ?_
 refine L_new hst22 (v := fun b => ptr b 0) (ob := .cells #[(.pointer none), (.slice none 0 0)] 86 (0, 0)) rfl rfl rfl (by kernel_rfl) (fun b26 w27 hst28 => ?_)
 refine L_nil ?_
 refine W_seq ?_
 refine W_seq ?_
 obtain ⟨c29, hst30, hB31⟩ := Bld.new hst28
 have hk0 : Bld b26 (textL s (List.take 0 ys17)) c29 := by simpa [textL] using hB31
 refine W_region_lit ?_
 refine Lq v9 rfl rfl rfl rfl ?_
 obtain ⟨a32, cap33, e34, hc35⟩ := hrd25.shape
 subst e34
 refine Lq (int (ys17.length : Int)) rfl rfl rfl (x_len_slice rfl sl_76 rfl) ?_
 refine Lq (int 0) rfl rfl rfl rfl ?_
 refine L_nil ?_
 refine W_block ?_
 refine W_loop (I := fun σ w_ m_ => ∃ (σ0 : Fr) (R_ : Hp) (k_ : Nat) (cB : Hp), σ = upd (upd (upd (upd (upd (upd (upd (upd (upd (upd (upd (upd (upd (upd (upd σ0 0 (ptr p 0)) 2 (.string ⟨#[]⟩)) 3 (.slice a32 ys17.length cap33)) 4 (ptr b26 0)) 8 (ptr p 0)) 9 (.bool false)) 10 (ptr p 0)) 11 (ptr p 0)) 12 (ptr p 4)) 13 (.map (some bm))) 14 (.func (.func 54) #[] #[(ptr b1 0)])) 15 (.slice a32 ys17.length cap33)) 16 (.slice a32 ys17.length cap33)) 17 (int (ys17.length : Int))) 18 (int (k_ : Int)) ∧ mks (σ0 0) = [] ∧ Step w (hp w) [] w_ R_ [cB] ∧ Le R21 R_ ∧ Bld b26 (textL s (List.take k_ ys17)) cB ∧ k_ ≤ ys17.length ∧ m_ = ys17.length - k_) (m := ys17.length - 0) ?_ ?_
 ·
  exact ⟨_, _, 0, c29, (upd_of (upd_of (upd_of (upd_of (upd_of (upd_of (upd_of (upd_of (upd_of (upd_of (upd_of (upd_of (upd_of (upd_of (upd_of rfl rfl) rfl) rfl) rfl) rfl) rfl) rfl) rfl) rfl) rfl) rfl) rfl) rfl) rfl) rfl), rfl, hst30, Le.refl _, hk0, (by omega), rfl⟩
 ·
  rintro m46 σ_ w38 ⟨s42, R43, k_44, cB45, rfl, hmk36, hst37, hle39, hi40, hf41, rfl⟩
  refine W_seq ?_
  refine W_region_lit ?_
  refine Lq (.bool (decide ((k_44 : Int) < (ys17.length : Int)))) rfl rfl rfl (by kernel_rfl) ?_
  refine L_nil ?_
  refine W_seq ?_
  rcases Bool.eq_false_or_eq_true (decide ((k_44 : Int) < (ys17.length : Int))) with c47 | c47
  ·
   have q48 := of_decide_eq_true c47
   refine W_cond_true (by show Value.bool _ = _; exact congrArg Value.bool c47) ?_
   refine W_skip ?_
   refine W_seq ?_
   refine W_block ?_
   refine W_seq ?_
   refine W_region_lit ?_
   obtain ⟨b49, off50, cap51, cs52, T53, fz54, e55, hc56, hb57, he58⟩ := hrd25.open (by omega)
   cases e55
   obtain ⟨cl59, hs60, hr61⟩ := he58.at k_44 (by omega)
   obtain rfl := tyPl_open hr61
   refine Lq (ptr b49 (off50 + k_44 * 2)) rfl rfl rfl (x_indexAddr' rfl sl_76 ti_43 rfl rfl (by omega)) ?_
   refine Lq (.agg #[(int ((ys17[k_44]'(by omega)).1)), (int ((ys17[k_44]'(by omega)).2))]) rfl rfl rfl (x_load rfl rfl (run_loadVar_agg ti_43 ((Le.trans hle39 hst37.rle') _ _ hb57) hs60 rfl)) ?_
   refine L_new hst37 (v := fun b => ptr b 0) (ob := .cells #[(int 0), (int 0)] 43 (0, 0)) rfl rfl rfl (by kernel_rfl) (fun b62 w63 hst64 => ?_)
   refine L_store hst64 0 ti_43 rfl rfl rfl rfl rfl rfl rfl rfl rfl rfl rfl (fun w65 hst66 => ?_)
   change Step _ _ _ _ _ [one b62 (.cells #[(int ((ys17[k_44]'(by omega)).1)), (int ((ys17[k_44]'(by omega)).2))] 43 (0, 0)), cB45] at hst66
   refine L_nil ?_
   refine W_seq ?_
   obtain ⟨y, hy⟩ : ∃ y : Pl, y = (ys17[k_44]'(by omega)) := ⟨_, rfl⟩
   rw [← hy] at hst66
   have hkm : y ∈ ys17 := by rw [hy]; exact List.getElem_mem _
   rcases Recs.look hRs y with ⟨hg, _⟩ | ⟨a, r, c1, c2, hg, hgr, hrec, hcu, hdj, _⟩
   · exact absurd hg (get_of_key (hperm18.mem_iff.1 hkm))
   obtain ⟨be, cE, rfl, hd4, hE⟩ := hrec
   have ha : Le (one a (.cells #[(int r.tier), (int r.calls), (int r.count), (int r.failures), (.map (some be))] 93 (0, 0))) cR := by rw [hcu]; exact (uni_l _ _).trans (uni_l _ _)
   have hrc := PS.rc_some hgr
   have hro := hok.recs y r hgr
   obtain ⟨hr67, hr68⟩ := hro.tier
   obtain ⟨hr69, hr70⟩ := hro.calls
   obtain ⟨hr71, hr72⟩ := hro.count
   obtain ⟨hr73, hr74⟩ := hro.failures
   obtain ⟨⟨hk1, hk2⟩, ⟨hk3, hk4⟩⟩ := hyk y hkm
   refine W_region_draw [] (fun w => Le R43 (hp w) ∧ Le (one b62 (.cells #[(int y.1), (int y.2)] 43 (0, 0))) (hp w) ∧ Le cB45 (hp w)) hmix (by decide +kernel) (fun _ _ h => h) ?_
   have hst76 := hst66.draws (w65.drawn + 1)
   generalize draws w65 (w65.drawn + 1) = w75 at hst76 ⊢
   refine LP (ptr p 0) 0 rfl rfl rfl (fun u78 => rfl) hst76.a2 ?_
   refine LP (ptr p 0) 1 rfl rfl rfl (fun u81 => rfl) hst76.a2 ?_
   refine LP (ptr p 4) 2 rfl rfl rfl (fun u84 => (by kernel_rfl)) hst76.a2 ?_
   refine LT (.map (some bm)) 3 rfl rfl rfl (fun u87 hF88 => (x_load rfl rfl (run_loadVar_one ti_65 ((Le.trans (Le.trans (Le.trans (Le.trans (Le.trans h1 hle6) hle14) hle23) hle39) hF88.1) _ _ (one_self _ _)) rfl))) hst76.a2 ?_
   refine LT (.agg #[(int y.1), (int y.2)]) 4 rfl rfl rfl (fun u90 hF91 => (x_load rfl rfl (run_loadVar_agg ti_43 (hF91.2.1 _ _ (one_self _ _)) (l := [(int y.1), (int y.2)]) rfl rfl))) hst76.a2 ?_
   refine LT (ptr a 0) 5 rfl rfl rfl (fun u93 hF94 => x_lookup rfl rfl rfl (by have h_ := MapC.lookupP (w := u93) hM (Le.trans (Le.trans (Le.trans (Le.trans (Le.trans h2 hle6) hle14) hle23) hle39) hF94.1) law43 mt_65 ti_81 y false none rfl; rw [hg] at h_; exact h_)) hst76.a2 ?_
   refine LP (ptr a 0) 6 rfl rfl rfl (fun u96 => rfl) hst76.a2 ?_
   refine LA_done (by decide +kernel) ?_
   refine W_region_draw [] (fun w => Le R43 (hp w) ∧ Le (one b62 (.cells #[(int y.1), (int y.2)] 43 (0, 0))) (hp w)) hmix (by decide +kernel) (fun _ _ h => h) ?_
   have hst99 := hst76.draws (w75.drawn + 1)
   generalize draws w75 (w75.drawn + 1) = w98 at hst99 ⊢
   refine LP (ptr b62 0) 0 rfl rfl rfl (fun u101 => (by kernel_rfl)) ⟨hst99.rle', hst99.g 0⟩ ?_
   refine LT (int y.1) 1 rfl rfl rfl (fun u104 hF105 => (x_load rfl rfl (run_loadVar_one ti_3 (hF105.2 _ _ (one_self _ _)) rfl))) ⟨hst99.rle', hst99.g 0⟩ ?_
   refine LT (.iface 3 (int y.1)) 2 rfl rfl rfl (fun u107 hF108 => (by kernel_rfl)) ⟨hst99.rle', hst99.g 0⟩ ?_
   refine LP (ptr b62 1) 3 rfl rfl rfl (fun u110 => (by kernel_rfl)) ⟨hst99.rle', hst99.g 0⟩ ?_
   refine LT (int y.2) 4 rfl rfl rfl (fun u113 hF114 => (x_load rfl rfl (run_loadVar_one ti_3 (hF114.2 _ _ (one_self _ _)) rfl))) ⟨hst99.rle', hst99.g 0⟩ ?_
   refine LT (.iface 3 (int y.2)) 5 rfl rfl rfl (fun u116 hF117 => (by kernel_rfl)) ⟨hst99.rle', hst99.g 0⟩ ?_
   refine LP (ptr a 0) 6 rfl rfl rfl (fun u119 => rfl) ⟨hst99.rle', hst99.g 0⟩ ?_
   refine LP (ptr a 0) 7 rfl rfl rfl (fun u122 => rfl) ⟨hst99.rle', hst99.g 0⟩ ?_
   refine LP (ptr a 0) 8 rfl rfl rfl (fun u125 => (by kernel_rfl)) ⟨hst99.rle', hst99.g 0⟩ ?_
   refine LT (int r.tier) 9 rfl rfl rfl (fun u128 hF129 => (x_load rfl rfl (run_loadVar_one ti_3 ((Le.trans (Le.trans ha (Le.trans (Le.trans (Le.trans (Le.trans h3 hle6) hle14) hle23) hle39)) hF129.1) _ _ (one_self _ _)) rfl))) ⟨hst99.rle', hst99.g 0⟩ ?_
   refine LT (.iface 3 (int r.tier)) 10 rfl rfl rfl (fun u131 hF132 => (by kernel_rfl)) ⟨hst99.rle', hst99.g 0⟩ ?_
   refine LP (ptr a 0) 11 rfl rfl rfl (fun u134 => rfl) ⟨hst99.rle', hst99.g 0⟩ ?_
   refine LP (ptr a 0) 12 rfl rfl rfl (fun u137 => rfl) ⟨hst99.rle', hst99.g 0⟩ ?_
   refine LP (ptr a 1) 13 rfl rfl rfl (fun u140 => (by kernel_rfl)) ⟨hst99.rle', hst99.g 0⟩ ?_
   refine LT (int r.calls) 14 rfl rfl rfl (fun u143 hF144 => (x_load rfl rfl (run_loadVar_one ti_3 ((Le.trans (Le.trans ha (Le.trans (Le.trans (Le.trans (Le.trans h3 hle6) hle14) hle23) hle39)) hF144.1) _ _ (one_self _ _)) rfl))) ⟨hst99.rle', hst99.g 0⟩ ?_
   refine LT (.iface 3 (int r.calls)) 15 rfl rfl rfl (fun u146 hF147 => (by kernel_rfl)) ⟨hst99.rle', hst99.g 0⟩ ?_
   refine LP (ptr a 0) 16 rfl rfl rfl (fun u149 => rfl) ⟨hst99.rle', hst99.g 0⟩ ?_
   refine LP (ptr a 0) 17 rfl rfl rfl (fun u152 => rfl) ⟨hst99.rle', hst99.g 0⟩ ?_
   refine LP (ptr a 2) 18 rfl rfl rfl (fun u155 => (by kernel_rfl)) ⟨hst99.rle', hst99.g 0⟩ ?_
   refine LT (int r.count) 19 rfl rfl rfl (fun u158 hF159 => (x_load rfl rfl (run_loadVar_one ti_3 ((Le.trans (Le.trans ha (Le.trans (Le.trans (Le.trans (Le.trans h3 hle6) hle14) hle23) hle39)) hF159.1) _ _ (one_self _ _)) rfl))) ⟨hst99.rle', hst99.g 0⟩ ?_
   refine LT (.iface 3 (int r.count)) 20 rfl rfl rfl (fun u161 hF162 => (by kernel_rfl)) ⟨hst99.rle', hst99.g 0⟩ ?_
   refine LP (ptr a 0) 21 rfl rfl rfl (fun u164 => rfl) ⟨hst99.rle', hst99.g 0⟩ ?_
   refine LP (ptr a 0) 22 rfl rfl rfl (fun u167 => rfl) ⟨hst99.rle', hst99.g 0⟩ ?_
   refine LP (ptr a 3) 23 rfl rfl rfl (fun u170 => (by kernel_rfl)) ⟨hst99.rle', hst99.g 0⟩ ?_
   refine LT (int r.failures) 24 rfl rfl rfl (fun u173 hF174 => (x_load rfl rfl (run_loadVar_one ti_3 ((Le.trans (Le.trans ha (Le.trans (Le.trans (Le.trans (Le.trans h3 hle6) hle14) hle23) hle39)) hF174.1) _ _ (one_self _ _)) rfl))) ⟨hst99.rle', hst99.g 0⟩ ?_
   refine LT (.iface 3 (int r.failures)) 25 rfl rfl rfl (fun u176 hF177 => (by kernel_rfl)) ⟨hst99.rle', hst99.g 0⟩ ?_
   refine LA_all [26] (by decide +kernel) (by simp) ?_
   intro i_ hi_
   simp only [List.mem_cons, List.not_mem_nil, or_false] at hi_
   subst hi_
   refine One_new hst99 (i := 26) (v := fun b => .slice (some ⟨b, 0, none⟩) 6 6) (ob := .cells #[(.iface 3 (int y.1)), (.iface 3 (int y.2)), (.iface 3 (int r.tier)), (.iface 3 (int r.calls)), (.iface 3 (int r.count)), (.iface 3 (int r.failures))] 20 (0, 0)) rfl rfl rfl (Want.plain rfl) (by kernel_rfl) (fun b181 w182 hst183 => ?_)
   refine ⟨(fun _ => ⟨hst183.rle', hst183.g 1⟩), ?_⟩
   refine LA_all [27] (by decide +kernel) (by simp) ?_
   intro i_ hi_
   simp only [List.mem_cons, List.not_mem_nil, or_false] at hi_
   subst hi_
   refine One_call (i := 27) rfl rfl rfl (Want.plain rfl) (x_call (vs := #[(.slice (some ⟨b181, 0, none⟩) 6 6)]) rfl rfl (by kernel_rfl) ent_40) (words_spec (w := w182) (R := hp w182) (xs := [Wd.i y.1, Wd.i y.2, Wd.i r.tier, Wd.i r.calls, Wd.i r.count, Wd.i r.failures]) (hT.mono (Le.trans hle6 (Le.trans hle14 (Le.trans hle23 (Le.trans hle39 hst183.rle'))))) (Le.refl _) (OwnL.freeze (OwnL.lit (t := tyWd) (xs := [Wd.i y.1, Wd.i y.2, Wd.i r.tier, Wd.i r.calls, Wd.i r.count, Wd.i r.failures]) (T := 20) (R := R43) (cs := [(.iface 3 (int y.1)), (.iface 3 (int y.2)), (.iface 3 (int r.tier)), (.iface 3 (int r.calls)), (.iface 3 (int r.count)), (.iface 3 (int r.failures))]) (Encs.cons (show tyWd.rel _ _ [_] from rfl) (Encs.cons (show tyWd.rel _ _ [_] from rfl) (Encs.cons (show tyWd.rel _ _ [_] from rfl) (Encs.cons (show tyWd.rel _ _ [_] from rfl) (Encs.cons (show tyWd.rel _ _ [_] from rfl) (Encs.cons (show tyWd.rel _ _ [_] from rfl) Encs.nil)))))) rfl (Nat.le_of_ble_eq_true rfl)) hst183.rle' (hst183.g 0)) (Oks (Sm6 (Sm_i (by constructor <;> omega)) (Sm_i (by constructor <;> omega)) (Sm_i (by constructor <;> omega)) (Sm_i (by constructor <;> omega)) (Sm_i (by constructor <;> omega)) (Sm_i (by constructor <;> omega)))) (Nat.le_of_ble_eq_true rfl)) ?_
   rintro e189 w187 ⟨rfl, hw190⟩
   have hst188 := hst183.grown hw190
   refine ⟨_, rfl, (fun _ => ⟨hst188.rle', hst188.g 1⟩), ?_⟩
   refine LP (.string ((joinW [Wd.i y.1, Wd.i y.2, Wd.i r.tier, Wd.i r.calls, Wd.i r.count, Wd.i r.failures]) ++ ⟨#[10]⟩)) 28 rfl rfl rfl (fun u192 => (x_strcat rfl rfl rfl (line_room (joinW_line (Oks (Sm6 (Sm_i (by constructor <;> omega)) (Sm_i (by constructor <;> omega)) (Sm_i (by constructor <;> omega)) (Sm_i (by constructor <;> omega)) (Sm_i (by constructor <;> omega)) (Sm_i (by constructor <;> omega)))) (Nat.le_of_ble_eq_true rfl))))) ⟨hst188.rle', hst188.g 1⟩ ?_
   refine LA_all [29] (by decide +kernel) (by simp) ?_
   intro i_ hi_
   simp only [List.mem_cons, List.not_mem_nil, or_false] at hi_
   subst hi_
   have hsm197 : ((joinW [Wd.i y.1, Wd.i y.2, Wd.i r.tier, Wd.i r.calls, Wd.i r.count, Wd.i r.failures]) ++ ⟨#[10]⟩).size ≤ 1129 := line_size (joinW_line (Oks (Sm6 (Sm_i (by constructor <;> omega)) (Sm_i (by constructor <;> omega)) (Sm_i (by constructor <;> omega)) (Sm_i (by constructor <;> omega)) (Sm_i (by constructor <;> omega)) (Sm_i (by constructor <;> omega)))) (Nat.le_of_ble_eq_true rfl))
   have hro198 := textL_room (s := s) (ys := ys17) (k := k_44) (t := (joinW [Wd.i y.1, Wd.i y.2, Wd.i r.tier, Wd.i r.calls, Wd.i r.count, Wd.i r.failures]) ++ ⟨#[10]⟩) hline hkl hsm197
   have hst199 := (hst188.front 2 rfl rfl)
   have hws := WriteString_spec ((joinW [Wd.i y.1, Wd.i y.2, Wd.i r.tier, Wd.i r.calls, Wd.i r.count, Wd.i r.failures]) ++ ⟨#[10]⟩) (hst199.sats.take 1 rfl) hi40 hro198
   obtain ⟨t_, ht_⟩ : ∃ t_ : Array Value, t_ = #[(ptr b26 0), (.string ((joinW [Wd.i y.1, Wd.i y.2, Wd.i r.tier, Wd.i r.calls, Wd.i r.count, Wd.i r.failures]) ++ ⟨#[10]⟩))] := ⟨_, rfl⟩
   rw [← ht_] at hws
   refine One_callS (i := 29) [cB45] [one b181 (.cells #[(.iface 3 (int y.1)), (.iface 3 (int y.2)), (.iface 3 (int r.tier)), (.iface 3 (int r.calls)), (.iface 3 (int r.count)), (.iface 3 (int r.failures))] 20 (0, 0)), one b62 (.cells #[(int y.1), (int y.2)] 43 (0, 0))] hst199 rfl rfl rfl (Want.plain rfl) (x_call (vs := t_) rfl rfl (by rw [ht_]; kernel_rfl) ent_39) (hws) (fun v200 w201 R202 L203 hp204 hle205 hst206 => ?_)
   obtain ⟨c207, rfl, rfl, hB208⟩ := hp204
   refine ⟨(fun _ => ⟨(Le.trans hle205 hst206.rle'), hst206.g 2⟩), ?_⟩
   refine LA_done (by decide +kernel) ?_
   refine W_region_lit ?_
   refine Lq (int ((k_44 + 1 : Nat) : Int)) rfl rfl rfl (x_add_nat rfl rfl rfl (by omega)) ?_
   refine Lq (int ((k_44 + 1 : Nat) : Int)) rfl rfl rfl rfl ?_
   refine L_nil ?_
   refine ⟨ys17.length - (k_44 + 1), by first | omega | (simp only [List.length_append, List.length_cons, List.length_nil]; omega), ?_⟩
   exact ⟨_, _, (k_44 + 1), c207, (upd_of (upd_of (upd_of (upd_of (upd_of (upd_of (upd_of (upd_of (upd_of (upd_of (upd_of (upd_of (upd_of (upd_of (upd_of rfl rfl) rfl) rfl) rfl) rfl) rfl) rfl) rfl) rfl) rfl) rfl) rfl) rfl) rfl) rfl), hmk36, (hst206.keepN 1 rfl), (Le.trans hle39 hle205), (by rw [textL_take (by omega), ← hy]; simp only [lineB, lineW, hrc]; exact hB208), (by omega), rfl⟩
  ·
   have q209 := of_decide_eq_false c47
   refine W_cond_false (by show Value.bool _ = _; exact congrArg Value.bool c47) ?_
   refine W_exit ?_
   refine W_seq ?_
   refine W_region_lit ?_
   refine L_call rfl rfl rfl (x_call (vs := #[(ptr b26 0)]) rfl rfl (by kernel_rfl) ent_41) (Tryd.Builder_String_any w.heap.size b26 (textL s (List.take k_44 ys17)) w38 (Bld.is hi40 (hst37.g 0) (Step.fresh hst37 (i := 0) rfl)) hst37.size) ?_
   rintro e210 w211 ⟨rfl, hbel⟩
   refine ⟨_, rfl, ?_⟩
   refine Lq (.string ⟨(textL s (List.take k_44 ys17)).toArray⟩) rfl rfl rfl rfl ?_
   refine L_nil ?_
   refine W_ret ?_
   refine ⟨_, _, res_run (rs := [.tmp 2]) (vs := [(.string ⟨(textL s (List.take k_44 ys17)).toArray⟩)]) Tryd.results14 (.cons (.tmp rfl) .nil) hmk36, ?_⟩
   exact ⟨ys17, by rw [← hRs.keys]; exact hperm18, hsrt19, by rw [textL_all (by omega)]; rfl, Grow.below_of hst37.grow hbel⟩

end Go.Fx.YtdkjoljcffkpkaaDoor
