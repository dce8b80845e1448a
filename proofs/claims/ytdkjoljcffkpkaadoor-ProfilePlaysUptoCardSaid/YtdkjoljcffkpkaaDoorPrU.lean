/-
  Chapter 14: Decisions and New, printed by genu.py
-/
import Derived.Test.YtdkjoljcffkpkaaDoorPrN
set_option linter.unusedSimpArgs false
set_option linter.unusedVariables false
namespace Go.Fx.YtdkjoljcffkpkaaDoor
open Go Go.Fx Go.Proofs
set_option maxRecDepth 20000

theorem ent_43 : Ent Tryd.prog 43 := fun _ _ => by kernel_rfl
theorem ent_46 : Ent Tryd.prog 46 := fun _ _ => by kernel_rfl

theorem Clone_spec {w : World} {R B : Hp} {v : Value} {xs : List Dec} (hs : Sats w R []) (hv : RdS tyDec B v xs) (hB : Le B (hp w)) (hmax : xs.length ≤ 1099511627776) :
    Calls Tryd.prog 43 #[v] w (Comes' w R [] fun v' R' L' => ∃ c', L' = [c'] ∧ OwnL tyDec 49 R' v' xs c') := by
 have hst := Step.refl hs
 refine calls_of_W (n := 8) Tryd.func43 rfl Tryd.ntmps43 (Nat.le_of_ble_eq_true rfl) ?_
 refine W_seq ?_
 refine W_region_lit ?_
 refine Lq (.slice none 0 0) rfl rfl rfl rfl ?_
 refine L_nil ?_
 refine W_seq ?_
 refine W_seq ?_
 refine W_region_lit ?_
 refine Lq v rfl rfl rfl rfl ?_
 obtain ⟨a1, cap2, e3, hc4⟩ := hv.shape
 subst e3
 rcases a1 with _ | a5
 ·
  refine Lq (.bool true) rfl rfl rfl (by kernel_rfl) ?_
  refine L_nil ?_
  refine W_cond_true (by show Value.bool _ = _; exact congrArg Value.bool rfl) ?_
  refine W_seq ?_
  refine W_region_lit ?_
  refine Lq (.slice none 0 0) rfl rfl rfl rfl ?_
  refine L_nil ?_
  refine W_ret ?_
  refine ⟨_, _, res_run (rs := [.tmp 2]) (vs := [(.slice none 0 0)]) Tryd.results43 (.cons (.tmp rfl) .nil) rfl, ?_⟩
  have hx := RdS.nil hv
  subst hx
  exact ⟨_, R, [non], rfl, hst.nothing, non, rfl, OwnL.empty _ _ _⟩
 ·
  refine Lq (.bool false) rfl rfl rfl (by kernel_rfl) ?_
  refine L_nil ?_
  refine W_cond_false (by show Value.bool _ = _; exact congrArg Value.bool rfl) ?_
  refine W_skip ?_
  refine W_seq ?_
  refine W_region_lit ?_
  refine L_new hst (v := fun b => .slice (some ⟨b, 0, none⟩) 0 0) (ob := .cells #[] 49 (0, 0)) rfl rfl rfl (by kernel_rfl) (fun b6 w7 hst8 => ?_)
  refine Lq (.slice (some a5) xs.length cap2) rfl rfl rfl rfl ?_
  have ho9 : OwnL tyDec 49 R (.slice (some ⟨b6, 0, none⟩) 0 0) [] (one b6 (.cells #[] 49 (0, 0))) := OwnL.lit (cs := []) Encs.nil rfl (by decide)
  obtain ⟨src10, hy11, hsrc12⟩ := RdS.src hv (Step.keepB hst8 hB (by simp))
  refine L_append hst8 (t := 36) (e := 49) (ys := xs)  0 rfl rfl rfl rfl rfl rfl sl_36 ti_49 rfl rfl rfl ho9 hsrc12 (Encs.redec (R' := R) hy11) rfl (by first | omega | (simp only [List.length_append, List.length_cons, List.length_nil]; omega)) (by first | (simp only [maxLen]; omega) | (simp only [List.length_append, List.length_cons, List.length_nil, maxLen]; omega)) (fun v13 c14 w15 ho16 hst17 => ?_)
  refine Lq v13 rfl rfl rfl rfl ?_
  refine L_nil ?_
  refine W_ret ?_
  refine ⟨_, _, res_run (rs := [.tmp 2]) (vs := [v13]) Tryd.results43 (.cons (.tmp rfl) .nil) rfl, ?_⟩
  exact ⟨_, R, _, rfl, (hst17).keepN 1 rfl, _, rfl, by simpa [retV] using ho16⟩

theorem Decisions_spec {w : World} {R c : Hp} {p : Nat} {s : PS} (hs : Sats w R [c]) (hprof : Prof R p s c) (hn : s.n ≤ 1000000000) :
    Calls Tryd.prog 17 #[ptr p 0] w (Comes' w R [c] fun v' R' L' => ∃ co c', L' = [co, c'] ∧ OwnL tyDec 49 R' v' s.decs co ∧ Prof R' p s c') := by
 obtain ⟨bm, m, v, cM, cR, cD, rfl, hd1, hd2, hd3, hM, hRs, hD, hok⟩ := hprof
 have hst := Prof.opened (Step.refl hs) hd1 hd2 hd3
 obtain ⟨hb1, hb2⟩ := hok.sample
 obtain ⟨hb3, hb4⟩ := hok.warm
 obtain ⟨hb5, hb6⟩ := hok.hot
 obtain ⟨hb7, hb8⟩ := hok.cold
 have hb9 := hok.decs
 refine calls_of_W (n := 10) Tryd.func17 rfl Tryd.ntmps17 (Nat.le_of_ble_eq_true rfl) ?_
 refine W_seq ?_
 refine W_region_lit ?_
 refine Lq (.slice none 0 0) rfl rfl rfl rfl ?_
 refine L_nil ?_
 refine W_seq ?_
 refine W_seq ?_
 refine W_region_lit ?_
 refine Lq (ptr p 0) rfl rfl rfl rfl ?_
 refine Lq (.bool false) rfl rfl rfl (by kernel_rfl) ?_
 refine L_nil ?_
 refine W_cond_false (by show Value.bool _ = _; exact congrArg Value.bool rfl) ?_
 refine W_skip ?_
 refine W_seq ?_
 refine W_region_lit ?_
 refine Lq (ptr p 0) rfl rfl rfl rfl ?_
 refine Lq (ptr p 0) rfl rfl rfl rfl ?_
 refine Lq (ptr p 5) rfl rfl rfl (by kernel_rfl) ?_
 refine Lq v rfl rfl rfl (x_load rfl rfl (run_loadVar_one ti_36 (hst.b 0) rfl)) ?_
 obtain ⟨a1, cap2, e3, hc4⟩ := hD.value
 subst e3
 have hv5 := (OwnL.freeze hD hst.rle' (hst.g 3))
 have hst6 := hst
 refine L_callS [] [one p (.cells #[(int s.sample), (int s.warm), (int s.hot), (int s.cold), (.map (some bm)), (.slice a1 s.decs.length cap2)] 67 (0, 0)), cM, cR, cD] hst6 rfl rfl rfl (x_call (vs := #[(.slice a1 s.decs.length cap2)]) rfl rfl (by kernel_rfl) ent_43) (Clone_spec (v := (.slice a1 s.decs.length cap2)) (xs := s.decs) (hst6.sats.take 0 rfl) hv5 (Le.refl _) (by omega)) (fun v7 w8 R9 L10 hp11 hle12 hst13 => ?_)
 have hm14 := OwnL.mono hD hle12
 obtain ⟨c15, rfl, ho16⟩ := hp11
 refine Lq v7 rfl rfl rfl rfl ?_
 refine L_nil ?_
 refine W_ret ?_
 refine ⟨_, _, res_run (rs := [.tmp 2]) (vs := [v7]) Tryd.results17 (.cons (.tmp rfl) .nil) rfl, ?_⟩
 obtain ⟨c', hst', hprof'⟩ := Prof.close (s := s) ((((hst13.front 4 rfl rfl).front 4 rfl rfl).front 4 rfl rfl).front 4 rfl rfl) hM hRs hm14 hok
 exact ⟨_, _, _, rfl, (hst'.front 1 rfl rfl).keepN 2 rfl, _, c', rfl, ho16, hprof'⟩

theorem New_spec {w : World} {R : Hp} {a b c d : Int} (hs : Sats w R []) (ha : 1 ≤ a ∧ a ≤ 1000) (hb : 1 ≤ b ∧ b ≤ 1000000) (hc : b + 1 ≤ c ∧ c ≤ 1000000) (hd : 1 ≤ d ∧ d ≤ 1000000) :
    Calls Tryd.prog 22 #[int a, int b, int c, int d] w (Comes' w R [] fun v' R' L' => ∃ p c', v' = .tuple #[ptr p 0, int 0] ∧ L' = [c'] ∧ Prof R' p ⟨a, b, c, d, [], [], 0⟩ c') := by
 have hst := Step.refl hs
 refine calls_of_W (n := 42) Tryd.func22 rfl Tryd.ntmps22 (Nat.le_of_ble_eq_true rfl) ?_
 refine W_seq ?_
 refine W_region_lit ?_
 refine Lq (.pointer none) rfl rfl rfl rfl ?_
 refine Lq (int 0) rfl rfl rfl rfl ?_
 refine L_nil ?_
 refine W_seq ?_
 refine W_region_lit ?_
 refine Lq (.func (.func 46) #[] #[]) rfl rfl rfl rfl ?_
 refine L_nil ?_
 refine W_seq ?_
 refine W_seq ?_
 refine W_region_lit ?_
 refine Lq (.func (.func 46) #[] #[]) rfl rfl rfl rfl ?_
 refine Lq (int a) rfl rfl rfl rfl ?_
 refine L_call rfl rfl rfl (x_callv (vs := #[(int a), (int 1), (int 1000)]) rfl rfl (by kernel_rfl) ent_46) ?_ (fun _ _ h => h)
 refine calls_of_W (n := 15) Tryd.func46 rfl Tryd.ntmps46 (Nat.le_of_ble_eq_true rfl) ?_
 refine W_seq ?_
 refine W_region_lit ?_
 refine Lq (.bool false) rfl rfl rfl rfl ?_
 refine L_nil ?_
 refine W_seq ?_
 refine W_region_lit ?_
 refine Lq (int 1) rfl rfl rfl rfl ?_
 refine Lq (int a) rfl rfl rfl rfl ?_
 refine Lq (.bool (decide (1 ≤ a))) rfl rfl rfl (by kernel_rfl) ?_
 refine Lq (.bool (decide (1 ≤ a))) rfl rfl rfl rfl ?_
 have c1 : (decide (1 ≤ a)) = true := decide_eq_true (by omega)
 have q2 := of_decide_eq_true c1
 refine L_guard rfl rfl rfl rfl c1 ?_
 refine Lq (int a) rfl rfl rfl rfl ?_
 refine L_guard rfl rfl rfl rfl c1 ?_
 refine Lq (int 1000) rfl rfl rfl rfl ?_
 refine L_guard rfl rfl rfl rfl c1 ?_
 refine Lq (.bool (decide (a ≤ 1000))) rfl rfl rfl (by kernel_rfl) ?_
 refine Lq (.bool (decide (a ≤ 1000))) rfl rfl rfl (x_pick rfl rfl (by rw [c1]; rfl)) ?_
 refine Lq (.bool (decide (a ≤ 1000))) rfl rfl rfl rfl ?_
 refine L_nil ?_
 refine W_ret ?_
 refine ⟨_, _, res_run (rs := [.tmp 6]) (vs := [(.bool (decide (a ≤ 1000)))]) Tryd.results46 (.cons (.tmp rfl) .nil) rfl, ?_⟩
 refine ⟨_, rfl, ?_⟩
 refine Lq (.bool (!(decide (a ≤ 1000)))) rfl rfl rfl rfl ?_
 refine Lq (.bool (!(decide (a ≤ 1000)))) rfl rfl rfl rfl ?_
 have c3 : (decide (a ≤ 1000)) = true := decide_eq_true (by omega)
 have q4 := of_decide_eq_true c3
 refine L_guard rfl rfl rfl rfl (by rw [c3]; rfl) ?_
 refine Lq (.func (.func 46) #[] #[]) rfl rfl rfl rfl ?_
 refine L_guard rfl rfl rfl rfl (by rw [c3]; rfl) ?_
 refine Lq (int b) rfl rfl rfl rfl ?_
 refine L_guard rfl rfl rfl rfl (by rw [c3]; rfl) ?_
 refine L_call rfl rfl rfl (x_callv (vs := #[(int b), (int 1), (int 1000000)]) rfl rfl (by kernel_rfl) ent_46) ?_ (fun _ _ h => h)
 refine calls_of_W (n := 15) Tryd.func46 rfl Tryd.ntmps46 (Nat.le_of_ble_eq_true rfl) ?_
 refine W_seq ?_
 refine W_region_lit ?_
 refine Lq (.bool false) rfl rfl rfl rfl ?_
 refine L_nil ?_
 refine W_seq ?_
 refine W_region_lit ?_
 refine Lq (int 1) rfl rfl rfl rfl ?_
 refine Lq (int b) rfl rfl rfl rfl ?_
 refine Lq (.bool (decide (1 ≤ b))) rfl rfl rfl (by kernel_rfl) ?_
 refine Lq (.bool (decide (1 ≤ b))) rfl rfl rfl rfl ?_
 have c5 : (decide (1 ≤ b)) = true := decide_eq_true (by omega)
 have q6 := of_decide_eq_true c5
 refine L_guard rfl rfl rfl rfl c5 ?_
 refine Lq (int b) rfl rfl rfl rfl ?_
 refine L_guard rfl rfl rfl rfl c5 ?_
 refine Lq (int 1000000) rfl rfl rfl rfl ?_
 refine L_guard rfl rfl rfl rfl c5 ?_
 refine Lq (.bool (decide (b ≤ 1000000))) rfl rfl rfl (by kernel_rfl) ?_
 refine Lq (.bool (decide (b ≤ 1000000))) rfl rfl rfl (x_pick rfl rfl (by rw [c5]; rfl)) ?_
 refine Lq (.bool (decide (b ≤ 1000000))) rfl rfl rfl rfl ?_
 refine L_nil ?_
 refine W_ret ?_
 refine ⟨_, _, res_run (rs := [.tmp 6]) (vs := [(.bool (decide (b ≤ 1000000)))]) Tryd.results46 (.cons (.tmp rfl) .nil) rfl, ?_⟩
 refine ⟨_, rfl, ?_⟩
 refine L_guard rfl rfl rfl rfl (by rw [c3]; rfl) ?_
 refine Lq (.bool (!(decide (b ≤ 1000000)))) rfl rfl rfl rfl ?_
 refine Lq (.bool (!(decide (b ≤ 1000000)))) rfl rfl rfl (x_pick rfl rfl (by rw [c3]; rfl)) ?_
 refine Lq (.bool (!(decide (b ≤ 1000000)))) rfl rfl rfl rfl ?_
 have c7 : (decide (b ≤ 1000000)) = true := decide_eq_true (by omega)
 have q8 := of_decide_eq_true c7
 refine L_guard rfl rfl rfl rfl (by rw [c7]; rfl) ?_
 refine Lq (.func (.func 46) #[] #[]) rfl rfl rfl rfl ?_
 refine L_guard rfl rfl rfl rfl (by rw [c7]; rfl) ?_
 refine Lq (int c) rfl rfl rfl rfl ?_
 refine L_guard rfl rfl rfl rfl (by rw [c7]; rfl) ?_
 refine Lq (int b) rfl rfl rfl rfl ?_
 refine L_guard rfl rfl rfl rfl (by rw [c7]; rfl) ?_
 refine Lq (int (b + 1)) rfl rfl rfl (x_add rfl rfl rfl (by constructor <;> omega)) ?_
 refine L_guard rfl rfl rfl rfl (by rw [c7]; rfl) ?_
 refine L_call rfl rfl rfl (x_callv (vs := #[(int c), (int (b + 1)), (int 1000000)]) rfl rfl (by kernel_rfl) ent_46) ?_ (fun _ _ h => h)
 refine calls_of_W (n := 15) Tryd.func46 rfl Tryd.ntmps46 (Nat.le_of_ble_eq_true rfl) ?_
 refine W_seq ?_
 refine W_region_lit ?_
 refine Lq (.bool false) rfl rfl rfl rfl ?_
 refine L_nil ?_
 refine W_seq ?_
 refine W_region_lit ?_
 refine Lq (int (b + 1)) rfl rfl rfl rfl ?_
 refine Lq (int c) rfl rfl rfl rfl ?_
 refine Lq (.bool (decide (b + 1 ≤ c))) rfl rfl rfl (by kernel_rfl) ?_
 refine Lq (.bool (decide (b + 1 ≤ c))) rfl rfl rfl rfl ?_
 have c9 : (decide (b + 1 ≤ c)) = true := decide_eq_true (by omega)
 have q10 := of_decide_eq_true c9
 refine L_guard rfl rfl rfl rfl c9 ?_
 refine Lq (int c) rfl rfl rfl rfl ?_
 refine L_guard rfl rfl rfl rfl c9 ?_
 refine Lq (int 1000000) rfl rfl rfl rfl ?_
 refine L_guard rfl rfl rfl rfl c9 ?_
 refine Lq (.bool (decide (c ≤ 1000000))) rfl rfl rfl (by kernel_rfl) ?_
 refine Lq (.bool (decide (c ≤ 1000000))) rfl rfl rfl (x_pick rfl rfl (by rw [c9]; rfl)) ?_
 refine Lq (.bool (decide (c ≤ 1000000))) rfl rfl rfl rfl ?_
 refine L_nil ?_
 refine W_ret ?_
 refine ⟨_, _, res_run (rs := [.tmp 6]) (vs := [(.bool (decide (c ≤ 1000000)))]) Tryd.results46 (.cons (.tmp rfl) .nil) rfl, ?_⟩
 refine ⟨_, rfl, ?_⟩
 refine L_guard rfl rfl rfl rfl (by rw [c7]; rfl) ?_
 refine Lq (.bool (!(decide (c ≤ 1000000)))) rfl rfl rfl rfl ?_
 refine Lq (.bool (!(decide (c ≤ 1000000)))) rfl rfl rfl (x_pick rfl rfl (by rw [c7]; rfl)) ?_
 refine Lq (.bool (!(decide (c ≤ 1000000)))) rfl rfl rfl rfl ?_
 have c11 : (decide (c ≤ 1000000)) = true := decide_eq_true (by omega)
 have q12 := of_decide_eq_true c11
 refine L_guard rfl rfl rfl rfl (by rw [c11]; rfl) ?_
 refine Lq (.func (.func 46) #[] #[]) rfl rfl rfl rfl ?_
 refine L_guard rfl rfl rfl rfl (by rw [c11]; rfl) ?_
 refine Lq (int d) rfl rfl rfl rfl ?_
 refine L_guard rfl rfl rfl rfl (by rw [c11]; rfl) ?_
 refine L_call rfl rfl rfl (x_callv (vs := #[(int d), (int 1), (int 1000000)]) rfl rfl (by kernel_rfl) ent_46) ?_ (fun _ _ h => h)
 refine calls_of_W (n := 15) Tryd.func46 rfl Tryd.ntmps46 (Nat.le_of_ble_eq_true rfl) ?_
 refine W_seq ?_
 refine W_region_lit ?_
 refine Lq (.bool false) rfl rfl rfl rfl ?_
 refine L_nil ?_
 refine W_seq ?_
 refine W_region_lit ?_
 refine Lq (int 1) rfl rfl rfl rfl ?_
 refine Lq (int d) rfl rfl rfl rfl ?_
 refine Lq (.bool (decide (1 ≤ d))) rfl rfl rfl (by kernel_rfl) ?_
 refine Lq (.bool (decide (1 ≤ d))) rfl rfl rfl rfl ?_
 have c13 : (decide (1 ≤ d)) = true := decide_eq_true (by omega)
 have q14 := of_decide_eq_true c13
 refine L_guard rfl rfl rfl rfl c13 ?_
 refine Lq (int d) rfl rfl rfl rfl ?_
 refine L_guard rfl rfl rfl rfl c13 ?_
 refine Lq (int 1000000) rfl rfl rfl rfl ?_
 refine L_guard rfl rfl rfl rfl c13 ?_
 refine Lq (.bool (decide (d ≤ 1000000))) rfl rfl rfl (by kernel_rfl) ?_
 refine Lq (.bool (decide (d ≤ 1000000))) rfl rfl rfl (x_pick rfl rfl (by rw [c13]; rfl)) ?_
 refine Lq (.bool (decide (d ≤ 1000000))) rfl rfl rfl rfl ?_
 refine L_nil ?_
 refine W_ret ?_
 refine ⟨_, _, res_run (rs := [.tmp 6]) (vs := [(.bool (decide (d ≤ 1000000)))]) Tryd.results46 (.cons (.tmp rfl) .nil) rfl, ?_⟩
 refine ⟨_, rfl, ?_⟩
 refine L_guard rfl rfl rfl rfl (by rw [c11]; rfl) ?_
 refine Lq (.bool (!(decide (d ≤ 1000000)))) rfl rfl rfl rfl ?_
 refine Lq (.bool (!(decide (d ≤ 1000000)))) rfl rfl rfl (x_pick rfl rfl (by rw [c11]; rfl)) ?_
 refine L_nil ?_
 have c15 : (decide (d ≤ 1000000)) = true := decide_eq_true (by omega)
 have q16 := of_decide_eq_true c15
 refine W_cond_false (by show Value.bool _ = _; exact congrArg Value.bool (by rw [c15]; rfl)) ?_
 refine W_skip ?_
 refine W_seq ?_
 refine W_region_lit ?_
 refine Lq (int a) rfl rfl rfl rfl ?_
 refine Lq (int b) rfl rfl rfl rfl ?_
 refine Lq (int c) rfl rfl rfl rfl ?_
 refine Lq (int d) rfl rfl rfl rfl ?_
 refine L_new hst (v := fun b => .map (some b)) (ob := .map #[] 0) rfl rfl rfl (by kernel_rfl) (fun b17 w18 hst19 => ?_)
 have hm20 : MapC kk (vE vP) (some b17) [] _ := MapC.made b17
 generalize one b17 (.map #[] 0) = c21 at hm20 hst19
 refine Lq (.agg #[(int a), (int b), (int c), (int d), (.map (some b17)), (.slice none 0 0)]) rfl rfl rfl (by kernel_rfl) ?_
 refine L_new hst19 (v := fun b => ptr b 0) (ob := .cells #[(int a), (int b), (int c), (int d), (.map (some b17)), (.slice none 0 0)] 67 (0, 0)) rfl rfl rfl (by kernel_rfl) (fun b22 w23 hst24 => ?_)
 refine Lq (ptr b22 0) rfl rfl rfl rfl ?_
 refine Lq (int 0) rfl rfl rfl rfl ?_
 refine L_nil ?_
 refine W_ret ?_
 refine ⟨_, _, res_run (rs := [.tmp 8, .tmp 9]) (vs := [(ptr b22 0), (int 0)]) Tryd.results22 (.cons (.tmp rfl) (.cons (.tmp rfl) .nil)) rfl, ?_⟩
 obtain ⟨c', hst', hprof'⟩ := Prof.close (s := ⟨a, b, c, d, [], [], 0⟩) (((((hst24.front 1 rfl rfl).front 1 rfl rfl)).nothing.nothing.front 3 rfl rfl).front 3 rfl rfl) hm20 .nil (OwnL.empty _ _ _) (PS.newOk (by omega) (by omega) (by omega) (by omega))
 exact ⟨_, _, _, rfl, hst'.keepN 1 rfl, b22, c', rfl, rfl, hprof'⟩

end Go.Fx.YtdkjoljcffkpkaaDoor
