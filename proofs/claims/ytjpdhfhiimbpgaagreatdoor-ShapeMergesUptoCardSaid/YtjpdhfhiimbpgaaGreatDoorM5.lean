/-
  Sp15, Sq11, put together.
-/
import Derived.Test.YtjpdhfhiimbpgaaGreatDoorM3
import Derived.Test.YtjpdhfhiimbpgaaGreatDoorM4
set_option linter.unusedSimpArgs false
set_option linter.unusedVariables false
set_option linter.unusedSectionVars false
namespace Go.Fx.YtjpdhfhiimbpgaaGreatDoor
open Go Go.Fx Go.Proofs Go.MapKept
set_option maxRecDepth 20000
theorem str_beq (k a : Str) : (k == a) = decide (k = a) := by
  by_cases h : k = a
  · subst h
    rw [decide_eq_true rfl]
    show (k.data == k.data) = true
    simp
  · rw [decide_eq_false h]
    show (k.data == a.data) = false
    exact beq_false_of_ne fun e => h (ByteArray.ext e)
theorem findNow_str {β : Type} {vr : β → Value → Prop} (k : Str) {es : List MapEntry} {m : List (Str × β)} (h : MapIs Value.string vr es m) (i : Nat) :
    Instr.findNow .string (.string k) es i = some ((place k m i).map fun j => (j, (es.map (·.val)).getD (j - i) undef)) := by
  induction h generalizing i with
  | nil => rfl
  | @cons e p es m he _ ih =>
    obtain ⟨a, b⟩ := p
    have hk : e.key = .string a := he.1
    simp only [Instr.findNow, hk, Instr.sameNow, place]
    rw [str_beq]
    by_cases hx : k = a
    · subst hx; simp
    · simp only [decide_eq_false hx, Ne.symm hx, if_false, ih (i + 1)]
      rw [place_shift k m (i + 1)]
      cases hp : place k m 0 with
      | none => rfl
      | some j =>
        simp only [Option.map_some, List.map_cons]
        rw [show j + (i + 1) - i = (j + (i + 1) - (i + 1)) + 1 by omega, List.getD_cons_succ]
theorem lawStr {β : Type} : KeyLaw (β := β) Tryz.prog 9 Value.string where
  check := fun b k w => run_checkKey (w := w) Tryz.underlying9 (k := .string k) (by simp [IsKey]) b 9999
  find := fun vr k es m w h => run_findKey Tryz.underlying9 (by simpa using findNow_str k h 0)
  bits := fun k => by
    have e : (k == k) = true := by show (k.data == k.data) = true; simp
    simp [Instr.sameBits, e]
/-! ### Names that are good -/
def okP (names : List Str) (k : Nat) : Bool := decide (names.length ≤ 64 ∧ eStr ∉ names.take k ∧ (names.take k).Nodup)
theorem take_nodup {names : List Str} {k : Nat} (hk : k < names.length) : (names.take (k + 1)).Nodup ↔ (names.take k).Nodup ∧ names[k] ∉ names.take k := by
  rw [List.take_succ_eq_append_getElem hk, List.nodup_append]
  constructor
  · rintro ⟨h1, _, h3⟩
    exact ⟨h1, fun hm => h3 _ hm _ (List.mem_singleton.2 rfl) rfl⟩
  · rintro ⟨h1, h2⟩
    refine ⟨h1, List.nodup_cons.2 ⟨by simp, List.nodup_nil⟩, fun a ha b hb e => h2 ?_⟩
    obtain rfl := List.mem_singleton.1 hb
    rw [← e]; exact ha
theorem okP_f1 {names : List Str} {k : Nat} (hk : k < names.length) (h : okP names k = false) : false = okP names (k + 1) := by
  symm
  unfold okP at *
  rw [decide_eq_false_iff_not] at *
  rintro ⟨h1, h2, h3⟩
  refine h ⟨h1, fun hm => h2 ?_, ((take_nodup hk).1 h3).1⟩
  rw [List.take_succ_eq_append_getElem hk]
  exact List.mem_append_left _ hm
theorem okP_f2 {names : List Str} {k : Nat} (hk : k < names.length) (h : names[k] = eStr) : false = okP names (k + 1) := by
  symm
  unfold okP
  rw [decide_eq_false_iff_not]
  rintro ⟨h1, h2, h3⟩
  refine h2 ?_
  rw [List.take_succ_eq_append_getElem hk, ← h]
  exact List.mem_append_right _ (List.mem_singleton.2 rfl)
theorem okP_f3 {names : List Str} {k : Nat} (hk : k < names.length) (h : names[k] ∈ names.take k) : false = okP names (k + 1) := by
  symm
  unfold okP
  rw [decide_eq_false_iff_not]
  rintro ⟨h1, h2, h3⟩
  exact ((take_nodup hk).1 h3).2 h
theorem okP_t {names : List Str} {k : Nat} (hk : k < names.length) (h : okP names k = true) (h2 : ¬ names[k] = eStr) (h3 : names[k] ∉ names.take k) : true = okP names (k + 1) := by
  symm
  unfold okP at *
  rw [decide_eq_true_eq] at *
  refine ⟨h.1, ?_, (take_nodup hk).2 ⟨h.2.2, h3⟩⟩
  rw [List.take_succ_eq_append_getElem hk]
  intro hm
  rcases List.mem_append.1 hm with hm | hm
  · exact h.2.1 hm
  · exact h2 (List.mem_singleton.1 hm).symm
theorem okP_n {names : List Str} {k : Nat} (hk : k < names.length) (h : okP names k = true) (h2 : ¬ names[k] = eStr) {b : Bool} (hb : b = decide (names[k] ∈ names.take k)) : (!b) = okP names (k + 1) := by
  by_cases q : names[k] ∈ names.take k
  · rw [hb, decide_eq_true q]; exact okP_f3 hk q
  · rw [hb, decide_eq_false q]; exact okP_t hk h h2 q
theorem okP_zero (names : List Str) : decide ((names.length : Int) ≤ 64) = okP names 0 := by
  unfold okP
  rw [decide_eq_decide]
  constructor
  · intro q; exact ⟨by omega, by simp, by simp⟩
  · intro q; omega
theorem okP_all {names : List Str} {k : Nat} (hk : names.length ≤ k) : okP names k = true ↔ names.length ≤ 64 ∧ eStr ∉ names ∧ names.Nodup := by
  unfold okP
  rw [decide_eq_true_eq, List.take_of_length_le hk]
def seenOk (names : List Str) (k : Nat) (m : List (Str × Bool)) : Prop := ∀ t, (AL.get m t).getD false = decide (t ∈ names.take k)
theorem seenOk_zero (names : List Str) : seenOk names 0 [] := fun t => by simp [AL.get]
theorem seenOk_succ {names : List Str} {k : Nat} {m : List (Str × Bool)} (hk : k < names.length) (h : seenOk names k m) : seenOk names (k + 1) (AL.set m names[k] true) := fun t => by
  rw [AL.get_set, List.take_succ_eq_append_getElem hk]
  by_cases e : names[k] = t
  · rw [if_pos e, ← e]
    exact (decide_eq_true (List.mem_append_right _ (List.mem_singleton.2 rfl))).symm
  · rw [if_neg e, h t]
    have : (t ∈ names.take k ++ [names[k]]) ↔ t ∈ names.take k := ⟨fun q => by
      rcases List.mem_append.1 q with q | q
      · exact q
      · exact absurd (List.mem_singleton.1 q).symm e, fun q => List.mem_append_left _ q⟩
    rw [decide_eq_decide]
    exact this.symm
/-! ### What is made -/
variable {n : Int} {s : TS}
theorem Makes_no (h : Core n s) {c : Int} {names : List Str} (hb : okP names names.length = false ∨ c < 0 ∨ c ≥ ((clsOf n).length : Int)) : (s.make c names).2.1 = 1 ∧ (s.make c names).2.2 = s := by
  have e := make_arg (s := s) (cls := c) (names := names) (by
    rw [h.rlen]
    rcases hb with hb | hb | hb
    · have h2 : ¬ (names.length ≤ 64 ∧ eStr ∉ names ∧ names.Nodup) := fun q => by rw [(okP_all (Nat.le_refl _)).2 q] at hb; cases hb
      by_cases q1 : names.length ≤ 64
      · by_cases q2 : eStr ∈ names
        · exact .inr (.inr (.inr (.inr q2)))
        · exact .inr (.inr (.inr (.inl fun q3 => h2 ⟨q1, q2, q3⟩)))
      · exact .inr (.inr (.inl (by omega)))
    · exact .inl hb
    · exact .inr (.inl hb))
  rw [e]
  exact ⟨rfl, rfl⟩
theorem findIdx_app {l : List Nd} {x : Nd} {p : Nd → Bool} (h : l.findIdx? p = none) (hp : p x = true) : (l ++ [x]).findIdx? p = some l.length := by
  rw [List.findIdx?_append, h]
  simp [List.findIdx?_cons, hp]
theorem Makes_law (hw : WF s) (h : Core n s) {c : Int} {names : List Str} (hk : okP names names.length = true) (h0 : ¬ c < 0) (h1 : ¬ c ≥ ((clsOf n).length : Int)) (hl : s.nodes.length < 200) :
    (s.make c names).2.1 = 0 ∧ ((s.make c names).2.2.make c names).2.1 = 0 ∧ (s.make c names).1 = ((s.make c names).2.2.make c names).1 ∧ ((s.make c names).2.2.make c names).2.2 = (s.make c names).2.2 ∧
      (s.make c names).2.2.nodes.length ≤ s.nodes.length + 1 ∧ canon (s.make c names).2.2.nodes (s.make c names).1 = (s.make c names).1 ∧ clsL (s.make c names).2.2.nodes (s.make c names).1 = c ∧ namesL (s.make c names).2.2.nodes (s.make c names).1 = names := by
  obtain ⟨q1, q2, q3⟩ := (okP_all (Nat.le_refl _)).1 hk
  obtain ⟨c, rfl⟩ : ∃ k : Nat, c = (k : Int) := ⟨c.toNat, by omega⟩
  have hc : c < s.roots.length := by rw [h.rlen]; omega
  have cond : ∀ s' : TS, s'.roots = s.roots → ¬ ((c : Int) < 0 ∨ (s'.roots.length : Int) ≤ (c : Int) ∨ 64 < names.length ∨ ¬ names.Nodup ∨ eStr ∈ names) := fun s' e q => by
    rw [e] at q
    rcases q with q | q | q | q | q
    · omega
    · omega
    · omega
    · exact q q3
    · exact q2 q
  obtain ⟨g1, g2, g3⟩ := Roots_law hw h (i := c) (x := (clsOf n)[c]'(by rw [← h.rlen]; exact hc)) (by rw [← h.rlen]; exact hc) rfl
  obtain ⟨r, hr, hr2⟩ := rootL_nat hw.can hw.root hc
  have e0 := make_go (s := s) (cond s rfl)
  rw [hr] at e0 g1 g2 g3
  rw [Int.toNat_natCast] at e0
  by_cases hsame : (ndL s.nodes r).names = names
  · rw [if_pos hsame] at e0
    rw [e0]
    simp only
    rw [e0]
    exact ⟨by trivial, by trivial, by trivial, by trivial, by omega, g1, g2, by rw [namesN hr2]; exact hsame⟩
  · rw [if_neg hsame] at e0
    cases hf : s.nodes.findIdx? (findP (c : Int) names) with
    | some k =>
      rw [hf] at e0
      simp only at e0
      rw [e0]
      simp only
      rw [e0]
      obtain ⟨hk2, h4, _⟩ := List.findIdx?_eq_some_iff_getElem.1 hf
      unfold findP sameN at h4
      simp only [Bool.and_eq_true, decide_eq_true_eq] at h4
      refine ⟨by trivial, by trivial, by trivial, by trivial, by omega, canon_self hk2 (by rw [ndL_eq hk2]; exact h4.1), ?_, ?_⟩
      · rw [clsN hk2, ndL_eq hk2]; exact h4.2.1
      · rw [namesN hk2, ndL_eq hk2]; exact h4.2.2
    | none =>
      rw [hf] at e0
      simp only at e0
      rw [if_neg (by omega)] at e0
      have hlast : ndL (s.addN (c : Int) names).nodes s.nodes.length = ⟨(c : Int), -1, names⟩ := ndL_last _ _
      have hl2 : (s.addN (c : Int) names).nodes.length = s.nodes.length + 1 := by simp [TS.addN]
      have e1 := make_go (s := s.addN (c : Int) names) (cond (s.addN (c : Int) names) rfl)
      have hroot : rootL (s.addN (c : Int) names).nodes (s.addN (c : Int) names).roots (c : Int) = (r : Int) := by
        rw [← hr]
        obtain ⟨r0, w1, w2, _⟩ := h.root c hc
        have er : s.roots[c] = (r0 : Int) := by rw [← w1, List.getD_eq_getElem?_getD, List.getElem?_eq_getElem hc]; rfl
        rw [rootL_in (l := s.nodes) hc, rootL_in (l := (s.addN (c : Int) names).nodes) (rs := (s.addN (c : Int) names).roots) hc]
        show canon (s.nodes ++ [_]) s.roots[c] = canon s.nodes s.roots[c]
        rw [er]
        exact canon_app hw.can w2
      rw [hroot, Int.toNat_natCast] at e1
      have hold : ndL (s.addN (c : Int) names).nodes r = ndL s.nodes r := ndL_app hr2
      have hfind : (s.addN (c : Int) names).nodes.findIdx? (findP (c : Int) names) = some s.nodes.length := findIdx_app hf (by unfold findP sameN; simp)
      rw [hold, if_neg hsame, hfind] at e1
      simp only at e1
      rw [e0]
      simp only
      rw [e1]
      refine ⟨by trivial, by trivial, by trivial, by trivial, by omega, canon_self (by omega) (by rw [hlast]; show (-1 : Int) < 0; decide), ?_, ?_⟩
      · rw [clsN (by omega), hlast]
      · rw [namesN (by omega), hlast]
end Go.Fx.YtjpdhfhiimbpgaaGreatDoor

set_option linter.unusedSimpArgs false
set_option linter.unusedVariables false
namespace Go.Fx.YtjpdhfhiimbpgaaGreatDoor
open Go Go.Fx Go.Proofs
set_option maxRecDepth 20000

theorem mt_54 : Tryz.prog.underlying 54 = some (.map 9 4) := by kernel_rfl
theorem ti_4 : TI Tryz.prog 4 false 1 1 (.bool false) := ⟨by kernel_rfl, by kernel_rfl⟩

set_option maxHeartbeats 2000000 in
theorem Makes_spec {w : World} {R : Hp} {v : Value} (n : Int) (acts : List Ac) {u : Value} (names : List Str) (hu : RdS Ty.str R u names) (hl : names.length ≤ 1048576) (hs : Sats w R []) (hv : RdS tyAc R v acts) :
    Calls Tryz.prog 6 #[int n, v, u] w (Comes' w R [] fun v' R' L' => v' = .bool true ∧ L' = []) := by
 have hst := Step.refl hs
 refine calls_of_W (n := 142) Tryz.func6 rfl Tryz.ntmps6 (Nat.le_of_ble_eq_true rfl) ?_
 refine W_seq ?_
 refine W_region_lit ?_
 refine Lq (.bool false) rfl rfl rfl rfl ?_
 refine L_nil ?_
 refine W_seq ?_
 refine W_region_lit ?_
 refine L_callG hst (v := (.bool true)) rfl rfl rfl (x_call (vs := #[]) rfl rfl (by kernel_rfl) ent_10) sanity_spec (fun w1 hst2 => ?_)
 refine Lq (.bool true) rfl rfl rfl rfl ?_
 refine L_nil ?_
 refine W_seq ?_
 refine W_region_lit ?_
 refine Lq (int n) rfl rfl rfl rfl ?_
 refine Lq v rfl rfl rfl rfl ?_
 obtain ⟨a3, cap4, e5, hc6⟩ := hv.shape
 subst e5
 have hst7 := hst2
 refine L_callS [] [] hst7 rfl rfl rfl (x_call (vs := #[(int n), (.slice a3 acts.length cap4)]) rfl rfl (by kernel_rfl) ent_20) (played_spec (v := (.slice a3 acts.length cap4)) n acts (hst7.sats.take 0 rfl) (RdS.mono hv (Le.refl _))) (fun v8 w9 R10 L11 hp12 hle13 hst14 => ?_)
 obtain ⟨p15, c16, rfl, rfl, htr17⟩ := hp12
 have hwf := played_wf n acts
 have hcore := played_core n acts
 have hbd := played_bd n acts
 have hpos := played_pos n acts
 obtain ⟨s, hs_⟩ : ∃ s_, s_ = (played n acts) := ⟨_, rfl⟩
 rw [← hs_] at htr17 hwf hcore hbd hpos
 have hnl := hbd.len
 refine Lq (ptr p15 0) rfl rfl rfl rfl ?_
 refine L_nil ?_
 refine W_seq ?_
 refine W_seq ?_
 refine W_region_lit ?_
 refine Lq (ptr p15 0) rfl rfl rfl rfl ?_
 refine Lq (.bool false) rfl rfl rfl (by kernel_rfl) ?_
 refine L_nil ?_
 refine W_cond_false (by show Value.bool _ = _; exact congrArg Value.bool rfl) ?_
 refine W_skip ?_
 refine W_seq ?_
 refine W_region_lit ?_
 refine L_new hst14 (v := fun b => .map (some b)) (ob := .map #[] 0) rfl rfl rfl (by kernel_rfl) (fun b18 w19 hst20 => ?_)
 have hm21 : MapC Value.string (vE Value.bool) (some b18) [] _ := MapC.made b18
 generalize one b18 (.map #[] 0) = c22 at hm21 hst20
 refine Lq (.map (some b18)) rfl rfl rfl rfl ?_
 refine L_nil ?_
 refine W_seq ?_
 refine W_region_lit ?_
 refine Lq u rfl rfl rfl rfl ?_
 obtain ⟨a23, cap24, e25, hc26⟩ := hu.shape
 subst e25
 refine Lq (int (names.length : Int)) rfl rfl rfl (x_len_slice rfl sl_42 rfl) ?_
 refine Lq (.bool (decide ((names.length : Int) ≤ 64))) rfl rfl rfl (by kernel_rfl) ?_
 refine Lq (.bool (decide ((names.length : Int) ≤ 64))) rfl rfl rfl rfl ?_
 refine L_nil ?_
 refine W_seq ?_
 refine W_seq ?_
 refine W_region_lit ?_
 refine Lq (.slice a23 names.length cap24) rfl rfl rfl rfl ?_
 refine Lq (int (names.length : Int)) rfl rfl rfl (x_len_slice rfl sl_42 rfl) ?_
 refine Lq (int 0) rfl rfl rfl rfl ?_
 refine L_nil ?_
 refine W_block ?_
 refine W_loop (I := fun σ w_ m_ => ∃ (σ0 : Fr) (R_ : Hp) (k_ : Nat) (ok_ : Bool) (sn_ : List (Str × Bool)) (cT : Hp) (cM : Hp), σ = upd (upd (upd (upd (upd (upd (upd (upd (upd (upd (upd (upd (upd (upd (upd (upd (upd (upd (upd (upd (upd σ0 0 (int n)) 1 (.slice a3 acts.length cap4)) 2 (.slice a23 names.length cap24)) 6 (.bool false)) 7 (.bool true)) 8 (ptr p15 0)) 9 (.map (some b18))) 10 (.bool ok_)) 20 (.bool true)) 21 (int n)) 22 (.slice a3 acts.length cap4)) 23 (ptr p15 0)) 24 (ptr p15 0)) 25 (.bool false)) 26 (.map (some b18))) 27 (.slice a23 names.length cap24)) 28 (int (names.length : Int))) 29 (.bool (decide ((names.length : Int) ≤ 64)))) 30 (.slice a23 names.length cap24)) 31 (int (names.length : Int))) 32 (int (k_ : Int)) ∧ mks (σ0 0) = [] ∧ Step w R [] w_ R_ [cT, cM] ∧ Le R10 R_ ∧ Tree R_ p15 s cT ∧ MapC Value.string (vE Value.bool) (some b18) sn_ cM ∧ k_ ≤ names.length ∧ ok_ = okP names k_ ∧ seenOk names k_ sn_ ∧ m_ = names.length - k_) (m := names.length - 0) ?_ ?_
 ·
  exact ⟨_, _, 0, (decide ((names.length : Int) ≤ 64)), [], c16, c22, (upd_of (upd_of (upd_of (upd_of (upd_of (upd_of (upd_of (upd_of (upd_of (upd_of (upd_of (upd_of (upd_of (upd_of (upd_of (upd_of (upd_of (upd_of (upd_of (upd_of (upd_of rfl rfl) rfl) rfl) rfl) rfl) rfl) rfl) rfl) rfl) rfl) rfl) rfl) rfl) rfl) rfl) rfl) rfl) rfl) rfl) rfl) rfl), rfl, (hst20.front 1 rfl rfl), Le.refl _, htr17, hm21, (by omega), (okP_zero names), (seenOk_zero names), rfl⟩
 ·
  rintro m43 σ_ w29 ⟨s36, R37, k_38, ok_39, sn_40, cT41, cM42, rfl, hmk27, hst28, hle30, hi31, hi32, hf33, hf34, hf35, rfl⟩
  refine W_seq ?_
  refine W_region_lit ?_
  refine Lq (.bool (decide ((k_38 : Int) < (names.length : Int)))) rfl rfl rfl (by kernel_rfl) ?_
  refine L_nil ?_
  refine W_seq ?_
  rcases Bool.eq_false_or_eq_true (decide ((k_38 : Int) < (names.length : Int))) with c44 | c44
  ·
   have q45 := of_decide_eq_true c44
   refine W_cond_true (by show Value.bool _ = _; exact congrArg Value.bool c44) ?_
   refine W_skip ?_
   refine W_seq ?_
   refine W_block ?_
   refine W_seq ?_
   refine W_region_lit ?_
   obtain ⟨b46, off47, cap48, cs49, T50, fz51, e52, hc53, hb54, he55⟩ := hu.open (by omega)
   cases e52
   obtain ⟨cl56, hs57, hr58⟩ := he55.at k_38 (by omega)
   have hx59 : cl56 = [.string (names[k_38]'(by omega))] := hr58
   subst hx59
   refine Lq (ptr b46 (off47 + k_38 * 1)) rfl rfl rfl (x_indexAddr' rfl sl_42 ti_9 rfl rfl (by omega)) ?_
   refine Lq (.string (names[k_38]'(by omega))) rfl rfl rfl (x_load rfl rfl (run_loadVar_one ti_9 ((Le.trans hle13 (Le.trans hle30 hst28.rle')) _ _ hb54) (seg_get (j := 0) hs57 rfl))) ?_
   refine Lq (.string (names[k_38]'(by omega))) rfl rfl rfl rfl ?_
   refine L_nil ?_
   refine W_seq ?_
   refine W_region_lit ?_
   refine Lq (.bool ok_39) rfl rfl rfl rfl ?_
   refine Lq (.bool ok_39) rfl rfl rfl rfl ?_
   rcases Bool.eq_false_or_eq_true ok_39 with c60 | c60
   ·
    refine L_guard rfl rfl rfl rfl c60 ?_
    refine Lq (.string (names[k_38]'(by omega))) rfl rfl rfl rfl ?_
    refine L_guard rfl rfl rfl rfl c60 ?_
    refine Lq (.bool (!(decide ((names[k_38]'(by omega)) = ⟨#[]⟩)))) rfl rfl rfl (x_neqD rfl rfl rfl) ?_
    refine Lq (.bool (!(decide ((names[k_38]'(by omega)) = ⟨#[]⟩)))) rfl rfl rfl (x_pick rfl rfl (by rw [c60]; rfl)) ?_
    refine Lq (.bool (!(decide ((names[k_38]'(by omega)) = ⟨#[]⟩)))) rfl rfl rfl rfl ?_
    rcases Bool.eq_false_or_eq_true (decide ((names[k_38]'(by omega)) = ⟨#[]⟩)) with c61 | c61
    ·
     have q62 := of_decide_eq_true c61
     refine L_unwanted rfl rfl rfl rfl (by rw [c61]; try rfl) rfl rfl ?_
     refine L_unwanted rfl rfl rfl rfl (by rw [c61]; try rfl) rfl rfl ?_
     refine L_unwanted rfl rfl rfl rfl (by rw [c61]; try rfl) rfl rfl ?_
     refine L_unwanted rfl rfl rfl rfl (by rw [c61]; try rfl) rfl rfl ?_
     refine Lq (.bool false) rfl rfl rfl (x_pick rfl rfl (by rw [c61]; rfl)) ?_
     refine Lq (.bool false) rfl rfl rfl rfl ?_
     refine L_nil ?_
     refine W_region_lit ?_
     refine Lq (.map (some b18)) rfl rfl rfl rfl ?_
     refine Lq (.string (names[k_38]'(by omega))) rfl rfl rfl rfl ?_
     obtain ⟨c63, w64, hr65, hm66, hst67⟩ := MapC.update hi32 (hst28.front 1 rfl rfl) lawStr mt_54 (names[k_38]'(by omega)) true (.bool true) rfl
     refine L_skip rfl rfl (x_mapUpdate rfl rfl rfl rfl hr65) ?_
     refine L_nil ?_
     refine W_region_lit ?_
     refine Lq (int ((k_38 + 1 : Nat) : Int)) rfl rfl rfl (x_add_nat rfl rfl rfl (by omega)) ?_
     refine Lq (int ((k_38 + 1 : Nat) : Int)) rfl rfl rfl rfl ?_
     refine L_nil ?_
     refine ⟨names.length - (k_38 + 1), by first | omega | (simp only [List.length_append, List.length_cons, List.length_nil]; omega), ?_⟩
     exact ⟨_, _, (k_38 + 1), false, (AL.set sn_40 (names[k_38]'(by omega)) true), cT41, c63, (upd_of (upd_of (upd_of (upd_of (upd_of (upd_of (upd_of (upd_of (upd_of (upd_of (upd_of (upd_of (upd_of (upd_of (upd_of (upd_of (upd_of (upd_of (upd_of (upd_of (upd_of rfl rfl) rfl) rfl) rfl) rfl) rfl) rfl) rfl) rfl) rfl) rfl) rfl) rfl) rfl) rfl) rfl) rfl) rfl) rfl) rfl) rfl), hmk27, (hst67.front 1 rfl rfl), hle30, hi31, hm66, (by omega), (okP_f2 (by omega) (of_decide_eq_true c61)), (seenOk_succ (by omega) hf35), rfl⟩
    ·
     have q68 := of_decide_eq_false c61
     refine L_guard rfl rfl rfl rfl (by rw [c61]; rfl) ?_
     refine Lq (.map (some b18)) rfl rfl rfl rfl ?_
     refine L_guard rfl rfl rfl rfl (by rw [c61]; rfl) ?_
     refine Lq (.string (names[k_38]'(by omega))) rfl rfl rfl rfl ?_
     refine L_guard rfl rfl rfl rfl (by rw [c61]; rfl) ?_
     obtain ⟨v69, hr70, hv71⟩ := MapC.lookupD (w := w29) hi32 (hst28.g 1) lawStr mt_54 ti_4 (names[k_38]'(by omega)) false false rfl
     have hv71' : v69 = .bool ((AL.get sn_40 (names[k_38]'(by omega))).getD false) := hv71
     subst hv71'
     refine Lq (.bool ((AL.get sn_40 (names[k_38]'(by omega))).getD false)) rfl rfl rfl (x_lookup rfl rfl rfl hr70) ?_
     refine L_guard rfl rfl rfl rfl (by rw [c61]; rfl) ?_
     refine Lq (.bool (!((AL.get sn_40 (names[k_38]'(by omega))).getD false))) rfl rfl rfl rfl ?_
     refine Lq (.bool (!((AL.get sn_40 (names[k_38]'(by omega))).getD false))) rfl rfl rfl (x_pick rfl rfl (by rw [c61]; rfl)) ?_
     refine Lq (.bool (!((AL.get sn_40 (names[k_38]'(by omega))).getD false))) rfl rfl rfl rfl ?_
     refine L_nil ?_
     refine W_region_lit ?_
     refine Lq (.map (some b18)) rfl rfl rfl rfl ?_
     refine Lq (.string (names[k_38]'(by omega))) rfl rfl rfl rfl ?_
     obtain ⟨c72, w73, hr74, hm75, hst76⟩ := MapC.update hi32 (hst28.front 1 rfl rfl) lawStr mt_54 (names[k_38]'(by omega)) true (.bool true) rfl
     refine L_skip rfl rfl (x_mapUpdate rfl rfl rfl rfl hr74) ?_
     refine L_nil ?_
     refine W_region_lit ?_
     refine Lq (int ((k_38 + 1 : Nat) : Int)) rfl rfl rfl (x_add_nat rfl rfl rfl (by omega)) ?_
     refine Lq (int ((k_38 + 1 : Nat) : Int)) rfl rfl rfl rfl ?_
     refine L_nil ?_
     refine ⟨names.length - (k_38 + 1), by first | omega | (simp only [List.length_append, List.length_cons, List.length_nil]; omega), ?_⟩
     exact ⟨_, _, (k_38 + 1), (!((AL.get sn_40 (names[k_38]'(by omega))).getD false)), (AL.set sn_40 (names[k_38]'(by omega)) true), cT41, c72, (upd_of (upd_of (upd_of (upd_of (upd_of (upd_of (upd_of (upd_of (upd_of (upd_of (upd_of (upd_of (upd_of (upd_of (upd_of (upd_of (upd_of (upd_of (upd_of (upd_of (upd_of rfl rfl) rfl) rfl) rfl) rfl) rfl) rfl) rfl) rfl) rfl) rfl) rfl) rfl) rfl) rfl) rfl) rfl) rfl) rfl) rfl) rfl), hmk27, (hst76.front 1 rfl rfl), hle30, hi31, hm75, (by omega), (okP_n (by omega) (hf34.symm.trans c60) (of_decide_eq_false c61) (hf35 _)), (seenOk_succ (by omega) hf35), rfl⟩
   ·
    refine L_unwanted rfl rfl rfl rfl (by rw [c60]; try rfl) rfl rfl ?_
    refine L_unwanted rfl rfl rfl rfl (by rw [c60]; try rfl) rfl rfl ?_
    refine Lq (.bool false) rfl rfl rfl (x_pick rfl rfl (by rw [c60]; rfl)) ?_
    refine Lq (.bool false) rfl rfl rfl rfl ?_
    refine L_unwanted rfl rfl rfl rfl rfl rfl rfl ?_
    refine L_unwanted rfl rfl rfl rfl rfl rfl rfl ?_
    refine L_unwanted rfl rfl rfl rfl rfl rfl rfl ?_
    refine L_unwanted rfl rfl rfl rfl rfl rfl rfl ?_
    refine Lq (.bool false) rfl rfl rfl rfl ?_
    refine Lq (.bool false) rfl rfl rfl rfl ?_
    refine L_nil ?_
    refine W_region_lit ?_
    refine Lq (.map (some b18)) rfl rfl rfl rfl ?_
    refine Lq (.string (names[k_38]'(by omega))) rfl rfl rfl rfl ?_
    obtain ⟨c77, w78, hr79, hm80, hst81⟩ := MapC.update hi32 (hst28.front 1 rfl rfl) lawStr mt_54 (names[k_38]'(by omega)) true (.bool true) rfl
    refine L_skip rfl rfl (x_mapUpdate rfl rfl rfl rfl hr79) ?_
    refine L_nil ?_
    refine W_region_lit ?_
    refine Lq (int ((k_38 + 1 : Nat) : Int)) rfl rfl rfl (x_add_nat rfl rfl rfl (by omega)) ?_
    refine Lq (int ((k_38 + 1 : Nat) : Int)) rfl rfl rfl rfl ?_
    refine L_nil ?_
    refine ⟨names.length - (k_38 + 1), by first | omega | (simp only [List.length_append, List.length_cons, List.length_nil]; omega), ?_⟩
    exact ⟨_, _, (k_38 + 1), false, (AL.set sn_40 (names[k_38]'(by omega)) true), cT41, c77, (upd_of (upd_of (upd_of (upd_of (upd_of (upd_of (upd_of (upd_of (upd_of (upd_of (upd_of (upd_of (upd_of (upd_of (upd_of (upd_of (upd_of (upd_of (upd_of (upd_of (upd_of rfl rfl) rfl) rfl) rfl) rfl) rfl) rfl) rfl) rfl) rfl) rfl) rfl) rfl) rfl) rfl) rfl) rfl) rfl) rfl) rfl) rfl), hmk27, (hst81.front 1 rfl rfl), hle30, hi31, hm80, (by omega), (okP_f1 (by omega) (hf34.symm.trans c60)), (seenOk_succ (by omega) hf35), rfl⟩
  ·
   have q82 := of_decide_eq_false c44
   refine W_cond_false (by show Value.bool _ = _; exact congrArg Value.bool c44) ?_
   refine W_exit ?_
   refine W_seq ?_
   refine W_seq ?_
   have hkn : k_38 = names.length := by omega
   have hokf : ok_39 = okP names names.length := by rw [← hkn]; exact hf34
   refine W_region_lit ?_
   refine Lq (int (-1)) rfl rfl rfl rfl ?_
   refine L_nil ?_
   refine W_block ?_
   refine W_loop (I := fun σ w_ m_ => ∃ (σ0 : Fr) (R_ : Hp) (c_ : Int) (s_ : TS) (cT : Hp), σ = upd (upd (upd (upd (upd (upd (upd (upd (upd (upd (upd (upd (upd (upd (upd (upd (upd (upd (upd (upd (upd (upd σ0 0 (int n)) 1 (.slice a3 acts.length cap4)) 2 (.slice a23 names.length cap24)) 7 (.bool true)) 8 (ptr p15 0)) 9 (.map (some b18))) 10 (.bool ok_39)) 13 (int c_)) 20 (.bool true)) 21 (int n)) 22 (.slice a3 acts.length cap4)) 23 (ptr p15 0)) 24 (ptr p15 0)) 25 (.bool false)) 26 (.map (some b18))) 27 (.slice a23 names.length cap24)) 28 (int (names.length : Int))) 29 (.bool (decide ((names.length : Int) ≤ 64)))) 30 (.slice a23 names.length cap24)) 31 (int (names.length : Int))) 32 (int (k_38 : Int))) 33 (.bool (decide ((k_38 : Int) < (names.length : Int)))) ∧ mks (σ0 0) = [] ∧ Step w R [] w_ R_ [cT] ∧ Le R37 R_ ∧ Tree R_ p15 s_ cT ∧ -1 ≤ c_ ∧ c_ ≤ 4 ∧ WF s_ ∧ Core n s_ ∧ ((s_).nodes.length : Int) ≤ 65 + c_ ∧ m_ = (5 - c_).toNat) (m := (5 - (-1)).toNat) ?_ ?_
   ·
    exact ⟨_, _, (-1), s, cT41, (upd_of (upd_of (upd_of (upd_of (upd_of (upd_of (upd_of (upd_of (upd_of (upd_of (upd_of (upd_of (upd_of (upd_of (upd_of (upd_of (upd_of (upd_of (upd_of (upd_of (upd_of (upd_of rfl rfl) rfl) rfl) rfl) rfl) rfl) rfl) rfl) rfl) rfl) rfl) rfl) rfl) rfl) rfl) rfl) rfl) rfl) rfl) rfl) rfl) rfl), hmk27, (hst28.keepN 1 rfl), Le.refl _, hi31, (by decide), (by decide), hwf, hcore, (by omega), rfl⟩
   ·
    rintro m98 σ_ w85 ⟨s93, R94, c_95, s_96, cT97, rfl, hmk83, hst84, hle86, hi87, hf88, hf89, hf90, hf91, hf92, rfl⟩
    refine W_seq ?_
    refine W_seq ?_
    refine W_region_lit ?_
    refine Lq (int c_95) rfl rfl rfl rfl ?_
    refine Lq (.bool (decide (c_95 < 4))) rfl rfl rfl (by kernel_rfl) ?_
    refine L_nil ?_
    rcases Bool.eq_false_or_eq_true (decide (c_95 < 4)) with c99 | c99
    ·
     have q100 := of_decide_eq_true c99
     refine W_cond_true (by show Value.bool _ = _; exact congrArg Value.bool c99) ?_
     refine W_skip ?_
     refine W_seq ?_
     refine W_block ?_
     refine W_seq ?_
     refine W_region_lit ?_
     refine Lq (ptr p15 0) rfl rfl rfl rfl ?_
     refine L_callG hst84 (v := (int (s_96.nodes.length : Int))) rfl rfl rfl (x_call (vs := #[(ptr p15 0)]) rfl rfl (by kernel_rfl) ent_19) (Count_spec (Tree.view hi87 (hst84.g 0) hst84.rle') (Le.refl _)) (fun w101 hst102 => ?_)
     refine Lq (int (s_96.nodes.length : Int)) rfl rfl rfl rfl ?_
     refine L_nil ?_
     refine W_seq ?_
     refine W_region_lit ?_
     refine Lq (ptr p15 0) rfl rfl rfl rfl ?_
     refine Lq (int c_95) rfl rfl rfl rfl ?_
     refine Lq (.slice a23 names.length cap24) rfl rfl rfl rfl ?_
     have hst103 := hst102
     refine L_callS [cT97] [] hst103 rfl rfl rfl (x_call (vs := #[(ptr p15 0), (int c_95), (.slice a23 names.length cap24)]) rfl rfl (by kernel_rfl) ent_29) (Make_spec (v := (.slice a23 names.length cap24)) c_95 names (hst103.sats.take 1 rfl) hi87 (RdS.mono hu (Le.trans hle13 (Le.trans hle30 hle86))) (by first | omega | decide) (by omega)) (fun v104 w105 R106 L107 hp108 hle109 hst110 => ?_)
     obtain ⟨c111, rfl, rfl, htr112⟩ := hp108
     refine Lq (.tuple #[(int ((s_96.make c_95 names).1)), (int ((s_96.make c_95 names).2.1))]) rfl rfl rfl rfl ?_
     refine Lq (int ((s_96.make c_95 names).1)) rfl rfl rfl (by kernel_rfl) ?_
     refine Lq (int ((s_96.make c_95 names).2.1)) rfl rfl rfl (by kernel_rfl) ?_
     refine Lq (int ((s_96.make c_95 names).1)) rfl rfl rfl rfl ?_
     refine Lq (int ((s_96.make c_95 names).2.1)) rfl rfl rfl rfl ?_
     refine L_nil ?_
     refine W_seq ?_
     refine W_seq ?_
     refine W_region_lit ?_
     refine Lq (.bool ok_39) rfl rfl rfl rfl ?_
     refine Lq (.bool (!ok_39)) rfl rfl rfl rfl ?_
     refine Lq (.bool (!ok_39)) rfl rfl rfl rfl ?_
     rcases Bool.eq_false_or_eq_true ok_39 with c113 | c113
     ·
      refine L_guard rfl rfl rfl rfl (by rw [c113]; rfl) ?_
      refine Lq (int c_95) rfl rfl rfl rfl ?_
      refine L_guard rfl rfl rfl rfl (by rw [c113]; rfl) ?_
      refine Lq (.bool (decide (c_95 < 0))) rfl rfl rfl (by kernel_rfl) ?_
      refine Lq (.bool (decide (c_95 < 0))) rfl rfl rfl (x_pick rfl rfl (by rw [c113]; rfl)) ?_
      refine Lq (.bool (decide (c_95 < 0))) rfl rfl rfl rfl ?_
      rcases Bool.eq_false_or_eq_true (decide (c_95 < 0)) with c114 | c114
      ·
       have q115 := of_decide_eq_true c114
       refine L_unwanted rfl rfl rfl rfl (by rw [c114]; try rfl) rfl rfl ?_
       refine L_unwanted rfl rfl rfl rfl (by rw [c114]; try rfl) rfl rfl ?_
       refine L_unwanted rfl rfl rfl rfl (by rw [c114]; try rfl) rfl rfl ?_
       refine L_unwanted rfl rfl rfl rfl (by rw [c114]; try rfl) rfl rfl ?_
       refine L_unwanted rfl rfl rfl rfl (by rw [c114]; try rfl) rfl rfl ?_
       refine Lq (.bool true) rfl rfl rfl (x_pick rfl rfl (by rw [c114]; rfl)) ?_
       refine L_nil ?_
       refine W_cond_true (by show Value.bool _ = _; exact congrArg Value.bool rfl) ?_
       refine W_seq ?_
       refine W_seq ?_
       obtain ⟨hb1, hb2⟩ := Makes_no (c := c_95) hf91 (.inr (.inl (of_decide_eq_true c114)))
       rw [hb2] at htr112
       refine W_region_lit ?_
       refine Lq (int ((s_96.make c_95 names).2.1)) rfl rfl rfl rfl ?_
       refine Lq (.bool (((s_96.make c_95 names).2.1) != 1)) rfl rfl rfl (by kernel_rfl) ?_
       refine Lq (.bool (((s_96.make c_95 names).2.1) != 1)) rfl rfl rfl rfl ?_
       have c116 : (((s_96.make c_95 names).2.1) != 1) = false := (by first | exact bneF (by assumption) | exact bneF rfl | exact decide_eq_false (by assumption) | exact decide_eq_true (by assumption) | exact beqT (by assumption) | exact beqT rfl | assumption | exact decide_eq_false (by omega) | exact decide_eq_true (by omega))
       have q117 : (s_96.make c_95 names).2.1 = 1 := by simpa using c116
       refine L_guard rfl rfl rfl rfl c116 ?_
       refine Lq (ptr p15 0) rfl rfl rfl rfl ?_
       refine L_guard rfl rfl rfl rfl c116 ?_
       refine L_callG hst110 (v := (int (s_96.nodes.length : Int))) rfl rfl rfl (x_call (vs := #[(ptr p15 0)]) rfl rfl (by kernel_rfl) ent_19) (Count_spec (Tree.view htr112 (hst110.g 0) hst110.rle') (Le.refl _)) (fun w118 hst119 => ?_)
       refine L_guard rfl rfl rfl rfl c116 ?_
       refine Lq (int (s_96.nodes.length : Int)) rfl rfl rfl rfl ?_
       refine L_guard rfl rfl rfl rfl c116 ?_
       refine Lq (.bool ((s_96.nodes.length : Int) != (s_96.nodes.length : Int))) rfl rfl rfl (by kernel_rfl) ?_
       refine Lq (.bool ((s_96.nodes.length : Int) != (s_96.nodes.length : Int))) rfl rfl rfl (x_pick rfl rfl (by rw [c116]; rfl)) ?_
       refine L_nil ?_
       have c120 : ((s_96.nodes.length : Int) != (s_96.nodes.length : Int)) = false := (by first | exact bneF (by assumption) | exact bneF rfl | exact decide_eq_false (by assumption) | exact decide_eq_true (by assumption) | exact beqT (by assumption) | exact beqT rfl | assumption | exact decide_eq_false (by omega) | exact decide_eq_true (by omega))
       refine W_cond_false (by show Value.bool _ = _; exact congrArg Value.bool c120) ?_
       refine W_skip ?_
       refine W_exit ?_
       refine W_region_lit ?_
       refine Lq (int c_95) rfl rfl rfl rfl ?_
       refine Lq (int (c_95 + 1)) rfl rfl rfl (x_add rfl rfl rfl (by constructor <;> omega)) ?_
       refine Lq (int (c_95 + 1)) rfl rfl rfl rfl ?_
       refine L_nil ?_
       refine ⟨(5 - (c_95 + 1)).toNat, by first | omega | (simp only [List.length_append, List.length_cons, List.length_nil]; omega), ?_⟩
       exact ⟨_, _, (c_95 + 1), s_96, c111, (upd_of (upd_of (upd_of (upd_of (upd_of (upd_of (upd_of (upd_of (upd_of (upd_of (upd_of (upd_of (upd_of (upd_of (upd_of (upd_of (upd_of (upd_of (upd_of (upd_of (upd_of (upd_of rfl rfl) rfl) rfl) rfl) rfl) rfl) rfl) rfl) rfl) rfl) rfl) rfl) rfl) rfl) rfl) rfl) rfl) rfl) rfl) rfl) rfl) rfl), hmk83, hst119, (Le.trans hle86 hle109), htr112, (by omega), (by omega), hf90, hf91, (by omega), rfl⟩
      ·
       have q122 := of_decide_eq_false c114
       refine L_guard rfl rfl rfl rfl c114 ?_
       refine Lq (int c_95) rfl rfl rfl rfl ?_
       refine L_guard rfl rfl rfl rfl c114 ?_
       refine Lq (int n) rfl rfl rfl rfl ?_
       refine L_guard rfl rfl rfl rfl c114 ?_
       have hst123 := hst110
       refine L_callS [] [c111] hst123 rfl rfl rfl (x_call (vs := #[(int n)]) rfl rfl (by kernel_rfl) ent_12) (Classes_spec n (hst123.sats.take 0 rfl)) (fun v124 w125 R126 L127 hp128 hle129 hst130 => ?_)
       have hm131 := Tree.lift htr112 hle129
       obtain ⟨rfl, hrd132⟩ := hp128
       have hcl133 : (clsOf n).length = 1 + kN 3 n := clsOf_len _
       have hcl134 := kN3 n
       have hfs : ∀ x ∈ clsOf n, x.fields.length ≤ 64 := fun x hx => Nat.le_trans (clsOf_mem hx).1 (by decide)
       refine L_guard rfl rfl rfl rfl c114 ?_
       obtain ⟨a135, cap136, e137, hc138⟩ := hrd132.shape
       subst e137
       refine Lq (int (((clsOf n).length : Nat) : Int)) rfl rfl rfl (x_len_slice rfl sl_26 rfl) ?_
       refine L_guard rfl rfl rfl rfl c114 ?_
       refine Lq (.bool (decide (c_95 ≥ (((clsOf n).length : Nat) : Int)))) rfl rfl rfl (by kernel_rfl) ?_
       refine Lq (.bool (decide (c_95 ≥ (((clsOf n).length : Nat) : Int)))) rfl rfl rfl (x_pick rfl rfl (by rw [c114]; rfl)) ?_
       refine L_nil ?_
       rcases Bool.eq_false_or_eq_true (decide (c_95 ≥ (((clsOf n).length : Nat) : Int))) with c139 | c139
       ·
        have q140 := of_decide_eq_true c139
        refine W_cond_true (by show Value.bool _ = _; exact congrArg Value.bool c139) ?_
        refine W_seq ?_
        refine W_seq ?_
        obtain ⟨hb1, hb2⟩ := Makes_no (c := c_95) hf91 (.inr (.inr (of_decide_eq_true c139)))
        rw [hb2] at hm131
        refine W_region_lit ?_
        refine Lq (int ((s_96.make c_95 names).2.1)) rfl rfl rfl rfl ?_
        refine Lq (.bool (((s_96.make c_95 names).2.1) != 1)) rfl rfl rfl (by kernel_rfl) ?_
        refine Lq (.bool (((s_96.make c_95 names).2.1) != 1)) rfl rfl rfl rfl ?_
        have c141 : (((s_96.make c_95 names).2.1) != 1) = false := (by first | exact bneF (by assumption) | exact bneF rfl | exact decide_eq_false (by assumption) | exact decide_eq_true (by assumption) | exact beqT (by assumption) | exact beqT rfl | assumption | exact decide_eq_false (by omega) | exact decide_eq_true (by omega))
        have q142 : (s_96.make c_95 names).2.1 = 1 := by simpa using c141
        refine L_guard rfl rfl rfl rfl c141 ?_
        refine Lq (ptr p15 0) rfl rfl rfl rfl ?_
        refine L_guard rfl rfl rfl rfl c141 ?_
        refine L_callG hst130 (v := (int (s_96.nodes.length : Int))) rfl rfl rfl (x_call (vs := #[(ptr p15 0)]) rfl rfl (by kernel_rfl) ent_19) (Count_spec (Tree.view hm131 (hst130.g 0) hst130.rle') (Le.refl _)) (fun w143 hst144 => ?_)
        refine L_guard rfl rfl rfl rfl c141 ?_
        refine Lq (int (s_96.nodes.length : Int)) rfl rfl rfl rfl ?_
        refine L_guard rfl rfl rfl rfl c141 ?_
        refine Lq (.bool ((s_96.nodes.length : Int) != (s_96.nodes.length : Int))) rfl rfl rfl (by kernel_rfl) ?_
        refine Lq (.bool ((s_96.nodes.length : Int) != (s_96.nodes.length : Int))) rfl rfl rfl (x_pick rfl rfl (by rw [c141]; rfl)) ?_
        refine L_nil ?_
        have c145 : ((s_96.nodes.length : Int) != (s_96.nodes.length : Int)) = false := (by first | exact bneF (by assumption) | exact bneF rfl | exact decide_eq_false (by assumption) | exact decide_eq_true (by assumption) | exact beqT (by assumption) | exact beqT rfl | assumption | exact decide_eq_false (by omega) | exact decide_eq_true (by omega))
        refine W_cond_false (by show Value.bool _ = _; exact congrArg Value.bool c145) ?_
        refine W_skip ?_
        refine W_exit ?_
        refine W_region_lit ?_
        refine Lq (int c_95) rfl rfl rfl rfl ?_
        refine Lq (int (c_95 + 1)) rfl rfl rfl (x_add rfl rfl rfl (by constructor <;> omega)) ?_
        refine Lq (int (c_95 + 1)) rfl rfl rfl rfl ?_
        refine L_nil ?_
        refine ⟨(5 - (c_95 + 1)).toNat, by first | omega | (simp only [List.length_append, List.length_cons, List.length_nil]; omega), ?_⟩
        exact ⟨_, _, (c_95 + 1), s_96, c111, (upd_of (upd_of (upd_of (upd_of (upd_of (upd_of (upd_of (upd_of (upd_of (upd_of (upd_of (upd_of (upd_of (upd_of (upd_of (upd_of (upd_of (upd_of (upd_of (upd_of (upd_of (upd_of rfl rfl) rfl) rfl) rfl) rfl) rfl) rfl) rfl) rfl) rfl) rfl) rfl) rfl) rfl) rfl) rfl) rfl) rfl) rfl) rfl) rfl) rfl), hmk83, hst144, (Le.trans hle86 (Le.trans hle109 hle129)), hm131, (by omega), (by omega), hf90, hf91, (by omega), rfl⟩
       ·
        have q147 := of_decide_eq_false c139
        refine W_cond_false (by show Value.bool _ = _; exact congrArg Value.bool c139) ?_
        refine W_skip ?_
        refine W_seq ?_
        refine W_seq ?_
        obtain ⟨hm1, hm2, hm3, hm4, hm5, hm6, hm7, hm8⟩ := Makes_law hf90 hf91 (hokf.symm.trans c113) (of_decide_eq_false c114) (of_decide_eq_false c139) (by omega)
        have hn64 := ((okP_all (Nat.le_refl _)).1 (hokf.symm.trans c113)).1
        refine W_region_lit ?_
        refine Lq (int ((s_96.make c_95 names).2.1)) rfl rfl rfl rfl ?_
        refine Lq (.bool (((s_96.make c_95 names).2.1) != 0)) rfl rfl rfl (by kernel_rfl) ?_
        refine L_nil ?_
        have c148 : (((s_96.make c_95 names).2.1) != 0) = false := (by first | exact bneF (by assumption) | exact bneF rfl | exact decide_eq_false (by assumption) | exact decide_eq_true (by assumption) | exact beqT (by assumption) | exact beqT rfl | assumption | exact decide_eq_false (by omega) | exact decide_eq_true (by omega))
        have q149 : (s_96.make c_95 names).2.1 = 0 := by simpa using c148
        refine W_cond_false (by show Value.bool _ = _; exact congrArg Value.bool c148) ?_
        refine W_skip ?_
        refine W_seq ?_
        refine W_region_lit ?_
        refine Lq (ptr p15 0) rfl rfl rfl rfl ?_
        refine L_callG hst130 (v := (int (((((s_96.make c_95 names).2.2).nodes).length : Nat) : Int))) rfl rfl rfl (x_call (vs := #[(ptr p15 0)]) rfl rfl (by kernel_rfl) ent_19) (Count_spec (Tree.view hm131 (hst130.g 0) hst130.rle') (Le.refl _)) (fun w150 hst151 => ?_)
        refine Lq (int (((((s_96.make c_95 names).2.2).nodes).length : Nat) : Int)) rfl rfl rfl rfl ?_
        refine L_nil ?_
        refine W_seq ?_
        refine W_region_lit ?_
        refine Lq (ptr p15 0) rfl rfl rfl rfl ?_
        refine Lq (int c_95) rfl rfl rfl rfl ?_
        refine Lq (.slice a23 names.length cap24) rfl rfl rfl rfl ?_
        have hst152 := hst151
        refine L_callS [c111] [] hst152 rfl rfl rfl (x_call (vs := #[(ptr p15 0), (int c_95), (.slice a23 names.length cap24)]) rfl rfl (by kernel_rfl) ent_29) (Make_spec (v := (.slice a23 names.length cap24)) c_95 names (hst152.sats.take 1 rfl) hm131 (RdS.mono hu (Le.trans hle13 (Le.trans hle30 (Le.trans hle86 (Le.trans hle109 hle129))))) (by first | omega | decide) (by omega)) (fun v153 w154 R155 L156 hp157 hle158 hst159 => ?_)
        obtain ⟨c160, rfl, rfl, htr161⟩ := hp157
        rw [hm4] at htr161
        refine Lq (.tuple #[(int ((((s_96.make c_95 names).2.2).make c_95 names).1)), (int ((((s_96.make c_95 names).2.2).make c_95 names).2.1))]) rfl rfl rfl rfl ?_
        refine Lq (int ((((s_96.make c_95 names).2.2).make c_95 names).1)) rfl rfl rfl (by kernel_rfl) ?_
        refine Lq (int ((((s_96.make c_95 names).2.2).make c_95 names).2.1)) rfl rfl rfl (by kernel_rfl) ?_
        refine Lq (int ((((s_96.make c_95 names).2.2).make c_95 names).1)) rfl rfl rfl rfl ?_
        refine Lq (int ((((s_96.make c_95 names).2.2).make c_95 names).2.1)) rfl rfl rfl rfl ?_
        refine L_nil ?_
        refine W_seq ?_
        refine W_region_lit ?_
        refine Lq (int ((((s_96.make c_95 names).2.2).make c_95 names).2.1)) rfl rfl rfl rfl ?_
        refine Lq (.bool (((((s_96.make c_95 names).2.2).make c_95 names).2.1) != 0)) rfl rfl rfl (by kernel_rfl) ?_
        refine Lq (.bool (((((s_96.make c_95 names).2.2).make c_95 names).2.1) != 0)) rfl rfl rfl rfl ?_
        have c162 : (((((s_96.make c_95 names).2.2).make c_95 names).2.1) != 0) = false := (by first | exact bneF (by assumption) | exact bneF rfl | exact decide_eq_false (by assumption) | exact decide_eq_true (by assumption) | exact beqT (by assumption) | exact beqT rfl | assumption | exact decide_eq_false (by omega) | exact decide_eq_true (by omega))
        have q163 : (((s_96.make c_95 names).2.2).make c_95 names).2.1 = 0 := by simpa using c162
        refine L_guard rfl rfl rfl rfl c162 ?_
        refine Lq (int ((s_96.make c_95 names).1)) rfl rfl rfl rfl ?_
        refine L_guard rfl rfl rfl rfl c162 ?_
        refine Lq (int ((((s_96.make c_95 names).2.2).make c_95 names).1)) rfl rfl rfl rfl ?_
        refine L_guard rfl rfl rfl rfl c162 ?_
        refine Lq (.bool (((s_96.make c_95 names).1) != ((((s_96.make c_95 names).2.2).make c_95 names).1))) rfl rfl rfl (by kernel_rfl) ?_
        refine Lq (.bool (((s_96.make c_95 names).1) != ((((s_96.make c_95 names).2.2).make c_95 names).1))) rfl rfl rfl (x_pick rfl rfl (by rw [c162]; rfl)) ?_
        refine Lq (.bool (((s_96.make c_95 names).1) != ((((s_96.make c_95 names).2.2).make c_95 names).1))) rfl rfl rfl rfl ?_
        have c164 : (((s_96.make c_95 names).1) != ((((s_96.make c_95 names).2.2).make c_95 names).1)) = false := (by first | exact bneF (by assumption) | exact bneF rfl | exact decide_eq_false (by assumption) | exact decide_eq_true (by assumption) | exact beqT (by assumption) | exact beqT rfl | assumption | exact decide_eq_false (by omega) | exact decide_eq_true (by omega))
        have q165 : (s_96.make c_95 names).1 = (((s_96.make c_95 names).2.2).make c_95 names).1 := by simpa using c164
        refine L_guard rfl rfl rfl rfl c164 ?_
        refine Lq (ptr p15 0) rfl rfl rfl rfl ?_
        refine L_guard rfl rfl rfl rfl c164 ?_
        refine L_callG hst159 (v := (int (((((s_96.make c_95 names).2.2).nodes).length : Nat) : Int))) rfl rfl rfl (x_call (vs := #[(ptr p15 0)]) rfl rfl (by kernel_rfl) ent_19) (Count_spec (Tree.view htr161 (hst159.g 0) hst159.rle') (Le.refl _)) (fun w166 hst167 => ?_)
        refine L_guard rfl rfl rfl rfl c164 ?_
        refine Lq (int (((((s_96.make c_95 names).2.2).nodes).length : Nat) : Int)) rfl rfl rfl rfl ?_
        refine L_guard rfl rfl rfl rfl c164 ?_
        refine Lq (.bool ((((((s_96.make c_95 names).2.2).nodes).length : Nat) : Int) != (((((s_96.make c_95 names).2.2).nodes).length : Nat) : Int))) rfl rfl rfl (by kernel_rfl) ?_
        refine Lq (.bool ((((((s_96.make c_95 names).2.2).nodes).length : Nat) : Int) != (((((s_96.make c_95 names).2.2).nodes).length : Nat) : Int))) rfl rfl rfl (x_pick rfl rfl (by rw [c164]; rfl)) ?_
        refine Lq (.bool ((((((s_96.make c_95 names).2.2).nodes).length : Nat) : Int) != (((((s_96.make c_95 names).2.2).nodes).length : Nat) : Int))) rfl rfl rfl rfl ?_
        have c168 : ((((((s_96.make c_95 names).2.2).nodes).length : Nat) : Int) != (((((s_96.make c_95 names).2.2).nodes).length : Nat) : Int)) = false := (by first | exact bneF (by assumption) | exact bneF rfl | exact decide_eq_false (by assumption) | exact decide_eq_true (by assumption) | exact beqT (by assumption) | exact beqT rfl | assumption | exact decide_eq_false (by omega) | exact decide_eq_true (by omega))
        refine L_guard rfl rfl rfl rfl c168 ?_
        refine Lq (int (((((s_96.make c_95 names).2.2).nodes).length : Nat) : Int)) rfl rfl rfl rfl ?_
        refine L_guard rfl rfl rfl rfl c168 ?_
        refine Lq (int (s_96.nodes.length : Int)) rfl rfl rfl rfl ?_
        refine L_guard rfl rfl rfl rfl c168 ?_
        refine Lq (int ((s_96.nodes.length + 1 : Nat) : Int)) rfl rfl rfl (x_add_nat rfl rfl rfl (by omega)) ?_
        refine L_guard rfl rfl rfl rfl c168 ?_
        refine Lq (.bool (decide ((((((s_96.make c_95 names).2.2).nodes).length : Nat) : Int) > ((s_96.nodes.length + 1 : Nat) : Int)))) rfl rfl rfl (by kernel_rfl) ?_
        refine Lq (.bool (decide ((((((s_96.make c_95 names).2.2).nodes).length : Nat) : Int) > ((s_96.nodes.length + 1 : Nat) : Int)))) rfl rfl rfl (x_pick rfl rfl (by rw [c168]; rfl)) ?_
        refine Lq (.bool (decide ((((((s_96.make c_95 names).2.2).nodes).length : Nat) : Int) > ((s_96.nodes.length + 1 : Nat) : Int)))) rfl rfl rfl rfl ?_
        have c170 : (decide ((((((s_96.make c_95 names).2.2).nodes).length : Nat) : Int) > ((s_96.nodes.length + 1 : Nat) : Int))) = false := (by first | exact bneF (by assumption) | exact bneF rfl | exact decide_eq_false (by assumption) | exact decide_eq_true (by assumption) | exact beqT (by assumption) | exact beqT rfl | assumption | exact decide_eq_false (by omega) | exact decide_eq_true (by omega))
        have q171 := of_decide_eq_false c170
        refine L_guard rfl rfl rfl rfl c170 ?_
        refine Lq (ptr p15 0) rfl rfl rfl rfl ?_
        refine L_guard rfl rfl rfl rfl c170 ?_
        refine Lq (int ((s_96.make c_95 names).1)) rfl rfl rfl rfl ?_
        refine L_guard rfl rfl rfl rfl c170 ?_
        refine L_callG hst167 (v := (int (canon (((s_96.make c_95 names).2.2).nodes) ((s_96.make c_95 names).1)))) rfl rfl rfl (x_call (vs := #[(ptr p15 0), (int ((s_96.make c_95 names).1))]) rfl rfl (by kernel_rfl) ent_21) (Canon_spec ((s_96.make c_95 names).1) (Tree.view htr161 (hst167.g 0) hst167.rle') (Le.refl _)) (fun w172 hst173 => ?_)
        refine L_guard rfl rfl rfl rfl c170 ?_
        refine Lq (int ((s_96.make c_95 names).1)) rfl rfl rfl rfl ?_
        refine L_guard rfl rfl rfl rfl c170 ?_
        refine Lq (.bool ((canon (((s_96.make c_95 names).2.2).nodes) ((s_96.make c_95 names).1)) != ((s_96.make c_95 names).1))) rfl rfl rfl (by kernel_rfl) ?_
        refine Lq (.bool ((canon (((s_96.make c_95 names).2.2).nodes) ((s_96.make c_95 names).1)) != ((s_96.make c_95 names).1))) rfl rfl rfl (x_pick rfl rfl (by rw [c170]; rfl)) ?_
        refine Lq (.bool ((canon (((s_96.make c_95 names).2.2).nodes) ((s_96.make c_95 names).1)) != ((s_96.make c_95 names).1))) rfl rfl rfl rfl ?_
        have c174 : ((canon (((s_96.make c_95 names).2.2).nodes) ((s_96.make c_95 names).1)) != ((s_96.make c_95 names).1)) = false := (by first | exact bneF (by assumption) | exact bneF rfl | exact decide_eq_false (by assumption) | exact decide_eq_true (by assumption) | exact beqT (by assumption) | exact beqT rfl | assumption | exact decide_eq_false (by omega) | exact decide_eq_true (by omega))
        have q175 : canon (((s_96.make c_95 names).2.2).nodes) ((s_96.make c_95 names).1) = (s_96.make c_95 names).1 := by simpa using c174
        refine L_guard rfl rfl rfl rfl c174 ?_
        refine Lq (ptr p15 0) rfl rfl rfl rfl ?_
        refine L_guard rfl rfl rfl rfl c174 ?_
        refine Lq (int ((s_96.make c_95 names).1)) rfl rfl rfl rfl ?_
        refine L_guard rfl rfl rfl rfl c174 ?_
        refine L_callG hst173 (v := (int (clsL ((s_96.make c_95 names).2.2).nodes ((s_96.make c_95 names).1)))) rfl rfl rfl (x_call (vs := #[(ptr p15 0), (int ((s_96.make c_95 names).1))]) rfl rfl (by kernel_rfl) ent_22) (Class_spec ((s_96.make c_95 names).1) (Tree.view htr161 (hst173.g 0) hst173.rle') (Le.refl _)) (fun w176 hst177 => ?_)
        refine L_guard rfl rfl rfl rfl c174 ?_
        refine Lq (int c_95) rfl rfl rfl rfl ?_
        refine L_guard rfl rfl rfl rfl c174 ?_
        refine Lq (.bool ((clsL ((s_96.make c_95 names).2.2).nodes ((s_96.make c_95 names).1)) != c_95)) rfl rfl rfl (by kernel_rfl) ?_
        refine Lq (.bool ((clsL ((s_96.make c_95 names).2.2).nodes ((s_96.make c_95 names).1)) != c_95)) rfl rfl rfl (x_pick rfl rfl (by rw [c174]; rfl)) ?_
        refine Lq (.bool ((clsL ((s_96.make c_95 names).2.2).nodes ((s_96.make c_95 names).1)) != c_95)) rfl rfl rfl rfl ?_
        have c178 : ((clsL ((s_96.make c_95 names).2.2).nodes ((s_96.make c_95 names).1)) != c_95) = false := (by first | exact bneF (by assumption) | exact bneF rfl | exact decide_eq_false (by assumption) | exact decide_eq_true (by assumption) | exact beqT (by assumption) | exact beqT rfl | assumption | exact decide_eq_false (by omega) | exact decide_eq_true (by omega))
        have q179 : clsL ((s_96.make c_95 names).2.2).nodes ((s_96.make c_95 names).1) = c_95 := by simpa using c178
        refine L_guard rfl rfl rfl rfl c178 ?_
        refine Lq (ptr p15 0) rfl rfl rfl rfl ?_
        refine L_guard rfl rfl rfl rfl c178 ?_
        refine Lq (int ((s_96.make c_95 names).1)) rfl rfl rfl rfl ?_
        refine L_guard rfl rfl rfl rfl c178 ?_
        have hst180 := hst177
        refine L_callS [] [c160] hst180 rfl rfl rfl (x_call (vs := #[(ptr p15 0), (int ((s_96.make c_95 names).1))]) rfl rfl (by kernel_rfl) ent_24) (Names_spec ((s_96.make c_95 names).1) (hst180.sats.take 0 rfl) (Tree.view htr161 (hst177.g 0) hst177.rle')) (fun v181 w182 R183 L184 hp185 hle186 hst187 => ?_)
        have hm188 := Tree.lift htr161 hle186
        obtain ⟨c189, rfl, ho190⟩ := hp185
        obtain ⟨R191, hst192, hle193, hc194⟩ := Step.frz hst187
        have hm195 := Tree.lift hm188 hle193
        have hrd196 := OwnL.freeze ho190 hle193 hc194
        have hnl197 := namesL_len (Tree.small hm195) ((s_96.make c_95 names).1)
        refine L_guard rfl rfl rfl rfl c178 ?_
        refine Lq (.slice a23 names.length cap24) rfl rfl rfl rfl ?_
        refine L_guard rfl rfl rfl rfl c178 ?_
        obtain ⟨a198, cap199, e200, hc201⟩ := hrd196.shape
        subst e200
        refine L_callG hst192 (v := (.bool (decide ((namesL ((s_96.make c_95 names).2.2).nodes ((s_96.make c_95 names).1)) = names)))) rfl rfl rfl (x_call (vs := #[(.slice a198 ((namesL ((s_96.make c_95 names).2.2).nodes ((s_96.make c_95 names).1)).length) cap199), (.slice a23 names.length cap24)]) rfl rfl (by kernel_rfl) ent_23) (EqualR_spec (Le.refl _) (RdS.mono hrd196 hst192.rle') (RdS.mono hu (Le.trans hle13 (Le.trans hle30 (Le.trans hle86 (Le.trans hle109 (Le.trans hle129 (Le.trans hle158 (Le.trans hle186 (Le.trans hle193 hst192.rle'))))))))) (by first | omega | assumption | (simp only [List.length_append, List.length_cons, List.length_nil]; omega)) (by first | omega | assumption | (simp only [List.length_append, List.length_cons, List.length_nil]; omega))) (fun w202 hst203 => ?_)
        refine L_guard rfl rfl rfl rfl c178 ?_
        refine Lq (.bool (!(decide ((namesL ((s_96.make c_95 names).2.2).nodes ((s_96.make c_95 names).1)) = names)))) rfl rfl rfl rfl ?_
        refine Lq (.bool (!(decide ((namesL ((s_96.make c_95 names).2.2).nodes ((s_96.make c_95 names).1)) = names)))) rfl rfl rfl (x_pick rfl rfl (by rw [c178]; rfl)) ?_
        refine L_nil ?_
        have c204 : (decide ((namesL ((s_96.make c_95 names).2.2).nodes ((s_96.make c_95 names).1)) = names)) = true := (by first | exact bneF (by assumption) | exact bneF rfl | exact decide_eq_false (by assumption) | exact decide_eq_true (by assumption) | exact beqT (by assumption) | exact beqT rfl | assumption | exact decide_eq_false (by omega) | exact decide_eq_true (by omega))
        have q205 := of_decide_eq_true c204
        refine W_cond_false (by show Value.bool _ = _; exact congrArg Value.bool (by rw [c204]; rfl)) ?_
        refine W_skip ?_
        refine W_region_lit ?_
        refine Lq (int c_95) rfl rfl rfl rfl ?_
        refine Lq (int (c_95 + 1)) rfl rfl rfl (x_add rfl rfl rfl (by constructor <;> omega)) ?_
        refine Lq (int (c_95 + 1)) rfl rfl rfl rfl ?_
        refine L_nil ?_
        refine ⟨(5 - (c_95 + 1)).toNat, by first | omega | (simp only [List.length_append, List.length_cons, List.length_nil]; omega), ?_⟩
        exact ⟨_, _, (c_95 + 1), ((s_96.make c_95 names).2.2), c160, (upd_of (upd_of (upd_of (upd_of (upd_of (upd_of (upd_of (upd_of (upd_of (upd_of (upd_of (upd_of (upd_of (upd_of (upd_of (upd_of (upd_of (upd_of (upd_of (upd_of (upd_of (upd_of rfl rfl) rfl) rfl) rfl) rfl) rfl) rfl) rfl) rfl) rfl) rfl) rfl) rfl) rfl) rfl) rfl) rfl) rfl) rfl) rfl) rfl) rfl), hmk83, hst203, (Le.trans hle86 (Le.trans hle109 (Le.trans hle129 (Le.trans hle158 (Le.trans hle186 hle193))))), hm195, (by omega), (by omega), (hf90.make _ _), (hf91.make _ _), (by omega), rfl⟩
     ·
      refine L_unwanted rfl rfl rfl rfl (by rw [c113]; try rfl) rfl rfl ?_
      refine L_unwanted rfl rfl rfl rfl (by rw [c113]; try rfl) rfl rfl ?_
      refine Lq (.bool true) rfl rfl rfl (x_pick rfl rfl (by rw [c113]; rfl)) ?_
      refine Lq (.bool true) rfl rfl rfl rfl ?_
      refine L_unwanted rfl rfl rfl rfl rfl rfl rfl ?_
      refine L_unwanted rfl rfl rfl rfl rfl rfl rfl ?_
      refine L_unwanted rfl rfl rfl rfl rfl rfl rfl ?_
      refine L_unwanted rfl rfl rfl rfl rfl rfl rfl ?_
      refine L_unwanted rfl rfl rfl rfl rfl rfl rfl ?_
      refine Lq (.bool true) rfl rfl rfl rfl ?_
      refine L_nil ?_
      refine W_cond_true (by show Value.bool _ = _; exact congrArg Value.bool rfl) ?_
      refine W_seq ?_
      refine W_seq ?_
      obtain ⟨hb1, hb2⟩ := Makes_no (c := c_95) hf91 (.inl (hokf.symm.trans c113))
      rw [hb2] at htr112
      refine W_region_lit ?_
      refine Lq (int ((s_96.make c_95 names).2.1)) rfl rfl rfl rfl ?_
      refine Lq (.bool (((s_96.make c_95 names).2.1) != 1)) rfl rfl rfl (by kernel_rfl) ?_
      refine Lq (.bool (((s_96.make c_95 names).2.1) != 1)) rfl rfl rfl rfl ?_
      have c206 : (((s_96.make c_95 names).2.1) != 1) = false := (by first | exact bneF (by assumption) | exact bneF rfl | exact decide_eq_false (by assumption) | exact decide_eq_true (by assumption) | exact beqT (by assumption) | exact beqT rfl | assumption | exact decide_eq_false (by omega) | exact decide_eq_true (by omega))
      have q207 : (s_96.make c_95 names).2.1 = 1 := by simpa using c206
      refine L_guard rfl rfl rfl rfl c206 ?_
      refine Lq (ptr p15 0) rfl rfl rfl rfl ?_
      refine L_guard rfl rfl rfl rfl c206 ?_
      refine L_callG hst110 (v := (int (s_96.nodes.length : Int))) rfl rfl rfl (x_call (vs := #[(ptr p15 0)]) rfl rfl (by kernel_rfl) ent_19) (Count_spec (Tree.view htr112 (hst110.g 0) hst110.rle') (Le.refl _)) (fun w208 hst209 => ?_)
      refine L_guard rfl rfl rfl rfl c206 ?_
      refine Lq (int (s_96.nodes.length : Int)) rfl rfl rfl rfl ?_
      refine L_guard rfl rfl rfl rfl c206 ?_
      refine Lq (.bool ((s_96.nodes.length : Int) != (s_96.nodes.length : Int))) rfl rfl rfl (by kernel_rfl) ?_
      refine Lq (.bool ((s_96.nodes.length : Int) != (s_96.nodes.length : Int))) rfl rfl rfl (x_pick rfl rfl (by rw [c206]; rfl)) ?_
      refine L_nil ?_
      have c210 : ((s_96.nodes.length : Int) != (s_96.nodes.length : Int)) = false := (by first | exact bneF (by assumption) | exact bneF rfl | exact decide_eq_false (by assumption) | exact decide_eq_true (by assumption) | exact beqT (by assumption) | exact beqT rfl | assumption | exact decide_eq_false (by omega) | exact decide_eq_true (by omega))
      refine W_cond_false (by show Value.bool _ = _; exact congrArg Value.bool c210) ?_
      refine W_skip ?_
      refine W_exit ?_
      refine W_region_lit ?_
      refine Lq (int c_95) rfl rfl rfl rfl ?_
      refine Lq (int (c_95 + 1)) rfl rfl rfl (x_add rfl rfl rfl (by constructor <;> omega)) ?_
      refine Lq (int (c_95 + 1)) rfl rfl rfl rfl ?_
      refine L_nil ?_
      refine ⟨(5 - (c_95 + 1)).toNat, by first | omega | (simp only [List.length_append, List.length_cons, List.length_nil]; omega), ?_⟩
      exact ⟨_, _, (c_95 + 1), s_96, c111, (upd_of (upd_of (upd_of (upd_of (upd_of (upd_of (upd_of (upd_of (upd_of (upd_of (upd_of (upd_of (upd_of (upd_of (upd_of (upd_of (upd_of (upd_of (upd_of (upd_of (upd_of (upd_of rfl rfl) rfl) rfl) rfl) rfl) rfl) rfl) rfl) rfl) rfl) rfl) rfl) rfl) rfl) rfl) rfl) rfl) rfl) rfl) rfl) rfl) rfl), hmk83, hst209, (Le.trans hle86 hle109), htr112, (by omega), (by omega), hf90, hf91, (by omega), rfl⟩
    ·
     have q212 := of_decide_eq_false c99
     refine W_cond_false (by show Value.bool _ = _; exact congrArg Value.bool c99) ?_
     refine W_exit ?_
     refine W_seq ?_
     refine W_region_lit ?_
     refine Lq (.bool true) rfl rfl rfl rfl ?_
     refine Lq (.bool true) rfl rfl rfl rfl ?_
     refine L_nil ?_
     refine W_ret ?_
     refine ⟨_, _, res_run (rs := [.tmp 6]) (vs := [(.bool true)]) Tryz.results6 (.cons (.tmp rfl) .nil) hmk83, ?_⟩
     exact ⟨_, _, _, rfl, (hst84).keepN 0 rfl, rfl, rfl⟩

end Go.Fx.YtjpdhfhiimbpgaaGreatDoor
