/-
  Chapter 14: WriteString, printed by genr.py
-/
import Derived.Test.YtdkjoljcffkpkaaDoorPrB
set_option linter.unusedSimpArgs false
set_option linter.unusedVariables false
namespace Go.Fx.YtdkjoljcffkpkaaDoor
open Go Go.Fx Go.Proofs
set_option maxRecDepth 20000

theorem ent_56 : Ent Tryd.prog 56 := fun _ _ => by kernel_rfl
theorem ti_58 : TI Tryd.prog 58 false 1 24 (.slice none 0 0) := ⟨by kernel_rfl, by kernel_rfl⟩
theorem ti_84 : TI Tryd.prog 84 false 1 8 (.pointer none) := ⟨by kernel_rfl, by kernel_rfl⟩

theorem WriteString_new {w : World} {R cb : Hp} {B : Nat} {l : List UInt8} {a : Option Addr} {cap : Nat} (t : ByteArray) (hs : Sats w R [uni (one B (.cells #[(.pointer none), .slice a l.length cap] 86 (0, 0))) cb]) (hd : Dj (one B (.cells #[(.pointer none), .slice a l.length cap] 86 (0, 0))) cb) (ho : OwnS 5 1 (.slice a l.length cap) l.length (Lib.byteCells l) cb) (hroom : l.length + t.size ≤ 140737488355328) :
    Calls Tryd.prog 39 #[ptr B 0, .string t] w (Comes' w R [uni (one B (.cells #[(.pointer none), .slice a l.length cap] 86 (0, 0))) cb] fun v' R' L' => ∃ c', v' = .tuple #[int (t.size : Int), .nilIface] ∧ L' = [c'] ∧ Bld B (l ++ t.data.toList) c') := by
 have hst := (Step.refl hs).split hd
 refine calls_of_W (n := 19) Tryd.func39 rfl Tryd.ntmps39 (Nat.le_of_ble_eq_true rfl) ?_
 refine W_seq ?_
 refine W_region_lit ?_
 refine Lq (int 0) rfl rfl rfl rfl ?_
 refine Lq .nilIface rfl rfl rfl rfl ?_
 refine L_nil ?_
 refine W_seq ?_
 refine W_region_lit ?_
 refine Lq (ptr B 0) rfl rfl rfl rfl ?_
 refine L_call rfl rfl rfl (x_call (vs := #[(ptr B 0)]) rfl rfl (by kernel_rfl) ent_56) ?_ (fun _ _ h => h)
 refine calls_of_W (n := 20) Tryd.func56 rfl Tryd.ntmps56 (Nat.le_of_ble_eq_true rfl) ?_
 refine W_seq ?_
 refine W_region_lit ?_
 refine Lq (ptr B 0) rfl rfl rfl rfl ?_
 refine Lq (ptr B 0) rfl rfl rfl rfl ?_
 refine Lq (ptr B 0) rfl rfl rfl (by kernel_rfl) ?_
 refine Lq (.pointer none) rfl rfl rfl (x_load rfl rfl (run_loadVar_one ti_84 (hst.b 0) rfl)) ?_
 refine Lq (.bool true) rfl rfl rfl (by kernel_rfl) ?_
 refine L_nil ?_
 refine W_cond_true (by show Value.bool _ = _; exact congrArg Value.bool rfl) ?_
 refine W_region_lit ?_
 refine Lq (ptr B 0) rfl rfl rfl rfl ?_
 refine Lq (ptr B 0) rfl rfl rfl rfl ?_
 refine L_val (v := (ptr B 0)) (w' := w) rfl rfl rfl (x_toU rfl rfl (hst.b 0)) ?_
 refine L_val (v := (ptr B 0)) (w' := w) rfl rfl rfl (x_noesc rfl rfl rfl) ?_
 refine L_val (v := (ptr B 0)) (w' := w) rfl rfl rfl (x_fromU rfl rfl (hst.b 0)) ?_
 refine Lq (ptr B 0) rfl rfl rfl rfl ?_
 refine Lq (ptr B 0) rfl rfl rfl (by kernel_rfl) ?_
 refine L_store hst 0 ti_84 rfl rfl rfl rfl rfl rfl rfl rfl rfl rfl rfl (fun w1 hst2 => ?_)
 change Step _ _ _ _ _ [one B (.cells #[(ptr B 0), (.slice a l.length cap)] 86 (0, 0)), cb] at hst2
 refine L_nil ?_
 refine ⟨_, _, res_run (rs := []) (vs := []) Tryd.results56 .nil rfl, ?_⟩
 refine ⟨_, rfl, ?_⟩
 refine L_nil ?_
 refine W_seq ?_
 refine W_region_lit ?_
 refine Lq (ptr B 0) rfl rfl rfl rfl ?_
 refine Lq (ptr B 0) rfl rfl rfl rfl ?_
 refine Lq (ptr B 0) rfl rfl rfl rfl ?_
 refine Lq (ptr B 1) rfl rfl rfl (by kernel_rfl) ?_
 refine Lq (.slice a l.length cap) rfl rfl rfl (x_load rfl rfl (run_loadVar_one ti_58 (hst2.b 0) rfl)) ?_
 refine Lq (.string t) rfl rfl rfl rfl ?_
 refine L_appendStr hst2 (s := t) 1 rfl rfl rfl rfl rfl rfl slB58 strB9 tiB5 rfl rfl ho hroom (fun v3 c4 w5 ho6 hst7 => ?_)
 obtain ⟨a8, cap9, rfl⟩ := OwnS_shape ho6
 refine Lq (ptr B 0) rfl rfl rfl rfl ?_
 refine Lq (ptr B 1) rfl rfl rfl (by kernel_rfl) ?_
 refine L_store hst7 1 ti_58 rfl rfl rfl rfl rfl rfl rfl rfl rfl rfl rfl (fun w10 hst11 => ?_)
 change Step _ _ _ _ _ [c4, one B (.cells #[(ptr B 0), (.slice a8 (l.length + t.size) cap9)] 86 (0, 0))] at hst11
 refine L_nil ?_
 refine W_seq ?_
 refine W_region_lit ?_
 refine Lq (.string t) rfl rfl rfl rfl ?_
 refine Lq (int (t.size : Int)) rfl rfl rfl (x_len_string rfl (by kernel_rfl) rfl) ?_
 refine Lq (int (t.size : Int)) rfl rfl rfl rfl ?_
 refine Lq .nilIface rfl rfl rfl rfl ?_
 refine L_nil ?_
 refine W_ret ?_
 refine ⟨_, _, res_run (rs := [.tmp 4, .tmp 5]) (vs := [(int (t.size : Int)), .nilIface]) Tryd.results39 (.cons (.tmp rfl) (.cons (.tmp rfl) .nil)) rfl, ?_⟩
 have hsz : l.length + t.size = (l ++ t.data.toList).length := by rw [List.length_append, Array.length_toList]; rfl
 have hf := (hst11.front 1 rfl rfl)
 have hdj := (List.pairwise_cons.1 hf.sats.dj).1 _ (List.mem_cons_self ..)
 exact ⟨_, _, _, rfl, hf.join.keepN 1 rfl, _, rfl, rfl, ptr B 0, _, _, rfl, hdj, .inr rfl, by rw [Lib.byteCells_append, ← hsz]; exact ho6⟩

theorem WriteString_old {w : World} {R cb : Hp} {B : Nat} {l : List UInt8} {a : Option Addr} {cap : Nat} (t : ByteArray) (hs : Sats w R [uni (one B (.cells #[(ptr B 0), .slice a l.length cap] 86 (0, 0))) cb]) (hd : Dj (one B (.cells #[(ptr B 0), .slice a l.length cap] 86 (0, 0))) cb) (ho : OwnS 5 1 (.slice a l.length cap) l.length (Lib.byteCells l) cb) (hroom : l.length + t.size ≤ 140737488355328) :
    Calls Tryd.prog 39 #[ptr B 0, .string t] w (Comes' w R [uni (one B (.cells #[(ptr B 0), .slice a l.length cap] 86 (0, 0))) cb] fun v' R' L' => ∃ c', v' = .tuple #[int (t.size : Int), .nilIface] ∧ L' = [c'] ∧ Bld B (l ++ t.data.toList) c') := by
 have hst := (Step.refl hs).split hd
 refine calls_of_W (n := 19) Tryd.func39 rfl Tryd.ntmps39 (Nat.le_of_ble_eq_true rfl) ?_
 refine W_seq ?_
 refine W_region_lit ?_
 refine Lq (int 0) rfl rfl rfl rfl ?_
 refine Lq .nilIface rfl rfl rfl rfl ?_
 refine L_nil ?_
 refine W_seq ?_
 refine W_region_lit ?_
 refine Lq (ptr B 0) rfl rfl rfl rfl ?_
 refine L_call rfl rfl rfl (x_call (vs := #[(ptr B 0)]) rfl rfl (by kernel_rfl) ent_56) ?_ (fun _ _ h => h)
 refine calls_of_W (n := 20) Tryd.func56 rfl Tryd.ntmps56 (Nat.le_of_ble_eq_true rfl) ?_
 refine W_seq ?_
 refine W_region_lit ?_
 refine Lq (ptr B 0) rfl rfl rfl rfl ?_
 refine Lq (ptr B 0) rfl rfl rfl rfl ?_
 refine Lq (ptr B 0) rfl rfl rfl (by kernel_rfl) ?_
 refine Lq (ptr B 0) rfl rfl rfl (x_load rfl rfl (run_loadVar_one ti_84 (hst.b 0) rfl)) ?_
 refine Lq (.bool false) rfl rfl rfl (by kernel_rfl) ?_
 refine L_nil ?_
 refine W_cond_false (by show Value.bool _ = _; exact congrArg Value.bool rfl) ?_
 refine W_seq ?_
 refine W_region_lit ?_
 refine Lq (ptr B 0) rfl rfl rfl rfl ?_
 refine Lq (ptr B 0) rfl rfl rfl rfl ?_
 refine Lq (ptr B 0) rfl rfl rfl (by kernel_rfl) ?_
 refine Lq (ptr B 0) rfl rfl rfl (x_load rfl rfl (run_loadVar_one ti_84 (hst.b 0) rfl)) ?_
 refine Lq (ptr B 0) rfl rfl rfl rfl ?_
 refine L_val (v := (.bool false)) (w' := w) rfl rfl rfl (x_same rfl rfl rfl) ?_
 refine L_nil ?_
 refine W_cond_false (by show Value.bool _ = _; exact congrArg Value.bool rfl) ?_
 refine W_skip ?_
 refine ⟨_, _, res_run (rs := []) (vs := []) Tryd.results56 .nil rfl, ?_⟩
 refine ⟨_, rfl, ?_⟩
 refine L_nil ?_
 refine W_seq ?_
 refine W_region_lit ?_
 refine Lq (ptr B 0) rfl rfl rfl rfl ?_
 refine Lq (ptr B 0) rfl rfl rfl rfl ?_
 refine Lq (ptr B 0) rfl rfl rfl rfl ?_
 refine Lq (ptr B 1) rfl rfl rfl (by kernel_rfl) ?_
 refine Lq (.slice a l.length cap) rfl rfl rfl (x_load rfl rfl (run_loadVar_one ti_58 (hst.b 0) rfl)) ?_
 refine Lq (.string t) rfl rfl rfl rfl ?_
 refine L_appendStr hst (s := t) 1 rfl rfl rfl rfl rfl rfl slB58 strB9 tiB5 rfl rfl ho hroom (fun v1 c2 w3 ho4 hst5 => ?_)
 obtain ⟨a6, cap7, rfl⟩ := OwnS_shape ho4
 refine Lq (ptr B 0) rfl rfl rfl rfl ?_
 refine Lq (ptr B 1) rfl rfl rfl (by kernel_rfl) ?_
 refine L_store hst5 1 ti_58 rfl rfl rfl rfl rfl rfl rfl rfl rfl rfl rfl (fun w8 hst9 => ?_)
 change Step _ _ _ _ _ [c2, one B (.cells #[(ptr B 0), (.slice a6 (l.length + t.size) cap7)] 86 (0, 0))] at hst9
 refine L_nil ?_
 refine W_seq ?_
 refine W_region_lit ?_
 refine Lq (.string t) rfl rfl rfl rfl ?_
 refine Lq (int (t.size : Int)) rfl rfl rfl (x_len_string rfl (by kernel_rfl) rfl) ?_
 refine Lq (int (t.size : Int)) rfl rfl rfl rfl ?_
 refine Lq .nilIface rfl rfl rfl rfl ?_
 refine L_nil ?_
 refine W_ret ?_
 refine ⟨_, _, res_run (rs := [.tmp 4, .tmp 5]) (vs := [(int (t.size : Int)), .nilIface]) Tryd.results39 (.cons (.tmp rfl) (.cons (.tmp rfl) .nil)) rfl, ?_⟩
 have hsz : l.length + t.size = (l ++ t.data.toList).length := by rw [List.length_append, Array.length_toList]; rfl
 have hf := (hst9.front 1 rfl rfl)
 have hdj := (List.pairwise_cons.1 hf.sats.dj).1 _ (List.mem_cons_self ..)
 exact ⟨_, _, _, rfl, hf.join.keepN 1 rfl, _, rfl, rfl, ptr B 0, _, _, rfl, hdj, .inr rfl, by rw [Lib.byteCells_append, ← hsz]; exact ho4⟩

theorem WriteString_spec {w : World} {R c : Hp} {B : Nat} {l : List UInt8} (t : ByteArray) (hs : Sats w R [c]) (h : Bld B l c) (hroom : l.length + t.size ≤ 140737488355328) :
    Calls Tryd.prog 39 #[ptr B 0, .string t] w (Comes' w R [c] fun v' R' L' => ∃ c', v' = .tuple #[int (t.size : Int), .nilIface] ∧ L' = [c'] ∧ Bld B (l ++ t.data.toList) c') := by
  obtain ⟨addr, v, cb, rfl, hd, ha, ho⟩ := h
  obtain ⟨a, cap, rfl⟩ := OwnS_shape ho
  rcases ha with rfl | rfl
  · exact WriteString_new t hs hd ho hroom
  · exact WriteString_old t hs hd ho hroom

end Go.Fx.YtdkjoljcffkpkaaDoor
