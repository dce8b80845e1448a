/-
  ProfileWarms returns true for every input of bulk at most 1048576, and turns nothing that it was given.
-/
import Derived.Test.YtdkjoljcffkpkaaDoorClP
namespace Go.Proofs.YtdkjoljcffkpkaaDoor.profileWarms
open Go.ChangeShapes Go.WideShapes Go.ChangeAt Go.RowKit Go.Fx Go.Fx.YtdkjoljcffkpkaaDoor
set_option linter.unusedVariables false
set_option linter.unusedSimpArgs false
set_option maxRecDepth 20000

theorem okT {f : Func} {W : World} (h : f.resultTypes = #[4]) : ∀ (j : Nat) (t : TypeId) (r : Value), f.resultTypes[j]? = some t → ((Value.bool true).resultList f.resultTypes.size)[j]? = some r → Value.okWide Tryd.prog W .any 0 t r :=
  ok_one h rfl (okWide_bool_mk Tryd.underlying4 _)
theorem okWide_arr {P : Program} {w : World} {r : Reach} {base t n e : Nat} {v : Value} (ht : P.underlying t = some (.array n e)) (h : Value.okWide P w r base t v) : ∃ cs, v = .agg cs ∧ cs.size = P.cellsOf t := by
  simp only [Value.okWide, ht] at h
  obtain ⟨cs, h1, h2, _⟩ := h
  exact ⟨cs, h1, h2⟩
def tyU16 : Ty Int where
  sz := 1
  rel _ x cs := cs = [.int .u16 x]
  mono _ h := h
  len h := by subst h; rfl
  ones h := by subst h; rfl
theorem oU16 {P : Program} {t : Nat} (hu : P.underlying t = some (.int .u16)) (hs : P.cellsOf t = 1) : Opens P t tyU16 (fun _ x => 0 ≤ x ∧ x ≤ 65535) where
  size := hs
  mono := fun _ h => h
  run := fun {H enc W fuel cs d ps} h => by
    obtain ⟨m, rfl, hx, hw⟩ := DataW.trod_int hu h
    refine ⟨m, rfl, ?_⟩
    simp [Lit.wf, IntKind.min, IntKind.max, IntKind.signed, IntKind.bits] at hw
    exact hw
  frame := fun {H enc W W' sp fuel cs d ps} h g hsp => by
    obtain ⟨m, rfl, hx, hw⟩ := DataW.trod_int hu h
    cases fuel with
    | zero => simp [DataW.trod] at h
    | succ n => rw [hx]; exact trod_int_mk n hu hw
theorem oU8 : Opens Tryd.prog 5 Ty.u8 (fun _ x => 0 ≤ x ∧ x ≤ 255) := Opens.u8 Tryd.underlying5 (by kernel_rfl)
theorem oA3 : Opens Tryd.prog 51 (Ty.u8.arr 3) (fun m xs => ∀ x ∈ xs, 0 ≤ x ∧ x ≤ 255) := Opens.array oU8 Tryd.underlying51 (by kernel_rfl)
theorem three {R : Hp} {xs : List Int} {cs : Array Value} (hl : xs.length = 3) (h : Encs Ty.u8 R xs cs.toList) (hk : ∀ x ∈ xs, 0 ≤ x ∧ x ≤ 255) :
    ∃ a b c : Nat, a ≤ 255 ∧ b ≤ 255 ∧ c ≤ 255 ∧ cs = #[.int .u8 (a : Int), .int .u8 (b : Int), .int .u8 (c : Int)] := by
  obtain ⟨x, y, z, rfl⟩ : ∃ x y z, xs = [x, y, z] := by
    match xs, hl with
    | [x, y, z], _ => exact ⟨x, y, z, rfl⟩
  have h1 := hk x (by simp)
  have h2 := hk y (by simp)
  have h3 := hk z (by simp)
  have hc : cs.toList = [.int .u8 x, .int .u8 y, .int .u8 z] := by
    generalize cs.toList = l at h
    cases h with
    | cons e1 t1 =>
      cases t1 with
      | cons e2 t2 =>
        cases t2 with
        | cons e3 t3 =>
          cases t3
          have f1 : _ = [_] := e1
          have f2 : _ = [_] := e2
          have f3 : _ = [_] := e3
          subst f1; subst f2; subst f3
          rfl
  refine ⟨x.toNat, y.toNat, z.toNat, by omega, by omega, by omega, ?_⟩
  rw [Int.toNat_of_nonneg h1.1, Int.toNat_of_nonneg h2.1, Int.toNat_of_nonneg h3.1]
  exact Array.ext' (by rw [hc])

theorem contract (H : Type) (enc : TypeId × Value → H) (W : World) (base : Nat) (args : Array Value) (ds gs : List (DataW H)) (before : List MemPlace)
    (hval : ∀ (j : Nat) t v, Tryd.f6.params[j]? = some t → args[j]? = some v → Value.okWide Tryd.prog W .any base t v)
    (hW : DataW.Whole enc Tryd.prog Tryd.f6.params.toList Rows.profileWarmsSpec.vars false W args.toList ds gs before) (hL : laidMetH Tryd.prog Rows.profileWarmsUptoRow.laid W) :
    Calls Tryd.prog 6 args W fun e W' => ∃ v, e = .returned v ∧ Rows.profileWarmsSpec.post enc Tryd.prog Tryd.f6 false true false false W args v W' := by
  have hW' := hW
  obtain ⟨p, q, hA0, hV, rfl, hfz, hnd⟩ := hW
  have hA : DataW.TrodAll enc Tryd.prog W 0 allSp true Tryd.f6.params.toList args.toList ds p := hA0
  rw [Tryd.params6] at hA hval
  obtain ⟨v0, vs0, d0, ds0, p0, q0, hargs0, rfl, rfl, h0, r0⟩ := trodAll_cons hA
  obtain ⟨v1, vs1, d1, ds1, p1, q1, hargs1, rfl, rfl, h1, r1⟩ := trodAll_cons r0
  obtain ⟨rfl, rfl, rfl⟩ := trodAll_nil r1
  obtain rfl : args = #[v0, v1] := by cases args; simp_all
  obtain ⟨rfl, rfl⟩ := trodVars_none hV
  obtain ⟨cs0, rfl, hc0⟩ := okWide_arr Tryd.underlying51 (hval 0 51 v0 rfl rfl)
  obtain ⟨x0, ⟨hl0, he0⟩, hk0⟩ := oA3.arg h0
  obtain ⟨a, b, c, ha, hb, hc, rfl⟩ := three (cs := cs0) hl0 he0 hk0
  obtain ⟨n, rfl, rfl, rfl, w1⟩ := open_int Tryd.underlying52 (hval 1 52 v1 rfl rfl) h1
  have hw1 := by simpa [Lit.wf, IntKind.min, IntKind.max, IntKind.signed, IntKind.bits] using w1
  obtain ⟨n, rfl⟩ : ∃ k : Nat, n = (k : Int) := ⟨n.toNat, by omega⟩
  refine (Warms_spec (R := hp W) (Step.ro (Le.refl _)).sats (tab3 hL) ha hb hc (by omega)).mono ?_
  rintro e W' ⟨v', R', L', rfl, hst, rfl, rfl⟩
  exact ⟨_, rfl, post_true (tb := 4) hW' rfl (by intro t ht; rw [Tryd.params6] at ht; simp at ht; rcases ht with rfl | rfl <;> first | exact oA3.frame | exact (oU16 Tryd.underlying52 (by kernel_rfl)).frame) hst.grow (by kernel_rfl) Tryd.underlying4 rfl (okT (by kernel_rfl))⟩
/-- A block whose cells are laid anew. -/
def setC (cs : Array Value) : Obj → Obj
  | .cells _ t frozen => .cells cs t frozen
  | o => o
/-- A world for the witness: the settled one, the tables holding what their initialisers lay. -/
noncomputable def laidWorld (os : Os) : World :=
  { World.holding Tryd.prog os ⟨#[], #[], []⟩ with heap := (((World.holding Tryd.prog os ⟨#[], #[], []⟩).heap.modify 2 (setC #[.int .u8 0, .int .u8 1, .int .u8 28, .int .u8 2, .int .u8 29, .int .u8 14, .int .u8 24, .int .u8 3, .int .u8 30, .int .u8 22, .int .u8 20, .int .u8 15, .int .u8 25, .int .u8 17, .int .u8 4, .int .u8 8, .int .u8 31, .int .u8 27, .int .u8 13, .int .u8 23, .int .u8 21, .int .u8 19, .int .u8 16, .int .u8 7, .int .u8 26, .int .u8 12, .int .u8 18, .int .u8 6, .int .u8 11, .int .u8 5, .int .u8 10, .int .u8 9])).modify 3 (setC #[.int .u8 0, .int .u8 1, .int .u8 56, .int .u8 2, .int .u8 57, .int .u8 49, .int .u8 28, .int .u8 3, .int .u8 61, .int .u8 58, .int .u8 42, .int .u8 50, .int .u8 38, .int .u8 29, .int .u8 17, .int .u8 4, .int .u8 62, .int .u8 47, .int .u8 59, .int .u8 36, .int .u8 45, .int .u8 43, .int .u8 51, .int .u8 22, .int .u8 53, .int .u8 39, .int .u8 33, .int .u8 30, .int .u8 24, .int .u8 18, .int .u8 12, .int .u8 5, .int .u8 63, .int .u8 55, .int .u8 48, .int .u8 27, .int .u8 60, .int .u8 41, .int .u8 37, .int .u8 16, .int .u8 46, .int .u8 35, .int .u8 44, .int .u8 21, .int .u8 52, .int .u8 32, .int .u8 23, .int .u8 11, .int .u8 54, .int .u8 26, .int .u8 40, .int .u8 15, .int .u8 34, .int .u8 20, .int .u8 31, .int .u8 10, .int .u8 25, .int .u8 14, .int .u8 19, .int .u8 9, .int .u8 13, .int .u8 8, .int .u8 7, .int .u8 6])).modify 0 (setC #[.int .u64 1, .int .u64 10, .int .u64 100, .int .u64 1000, .int .u64 10000, .int .u64 100000, .int .u64 1000000, .int .u64 10000000, .int .u64 100000000, .int .u64 1000000000, .int .u64 10000000000, .int .u64 100000000000, .int .u64 1000000000000, .int .u64 10000000000000, .int .u64 100000000000000, .int .u64 1000000000000000, .int .u64 10000000000000000, .int .u64 100000000000000000, .int .u64 1000000000000000000, .int .u64 10000000000000000000]) }
abbrev wit : Array Value := #[.agg #[.int .u8 0, .int .u8 0, .int .u8 0], .int .u16 0]
theorem laid_met (os : Os) : laidMet Tryd.prog Rows.profileWarmsUptoRow.laid ((laidWorld os).forCall (fun _ _ => 0) ⟨#[], wit, []⟩).memory :=
  laidMet_of_run' 8 (by kernel_rfl) (by kernel_rfl)
theorem reads (os : Os) {H : Type} (enc : TypeId × Value → H) : ∃ places, DataW.whole enc Tryd.prog ((laidWorld os).forCall (fun _ _ => 0) ⟨#[], wit, []⟩).memory Tryd.f6.params.toList Rows.profileWarmsSpec.vars false wit.toList 8 = some ([.agg [.lit (.int .u8 0), .lit (.int .u8 0), .lit (.int .u8 0)], .lit (.int .u16 0)], [], places) :=
  ⟨[], by kernel_rfl⟩

set_option maxRecDepth 100000 in
theorem liftedUpto (os : Os) (started : os.Started) (H : Type) (enc : TypeId × Value → H) (F : Stop.Interp) :
    ReturnsInHanded {} Tryd.checked os 6 .any ((Rows.OpenSpec.upto Rows.profileWarmsSpec).preRow enc Tryd.prog Tryd.f6 Rows.profileWarmsUptoRow.domain false Rows.profileWarmsUptoRow.laid) (((Rows.OpenSpec.upto Rows.profileWarmsSpec).at F).post enc Tryd.prog Tryd.f6 false true false false) := by
  obtain ⟨places, hx⟩ := reads os enc
  refine returnsInHanded_of_row (C := Tryd.checked) (s := Rows.OpenSpec.upto Rows.profileWarmsSpec) own started (by kernel_rfl) Tryd.func6
    (witness_row_at (enc := enc) (C := Tryd.checked) false (laidWorld os) wit rfl (by kernel_rfl) (by kernel_rfl) (by kernel_rfl)
      (OpenSpec.preRow_of_cond 8 hx (by kernel_rfl) (fun k hk => by cases hk; kernel_rfl) (by kernel_rfl) (laid_met os))) ?_
  intro W base args ds gs before hval hW _ _ _ hL _ _
  exact contract H enc W base args ds gs before hval hW hL

theorem saidUpto : Rows.ProfileWarmsUptoSaid :=
  OpenClaim.holds_of_cond 6 Tryd.f6 rfl rfl rfl rfl rfl rfl rfl ⟨rfl, rfl, rfl, rfl, rfl⟩ rfl rfl rfl rfl rfl (by kernel_rfl) Tryd.func6 (by kernel_rfl)
    (of_decide_eq_true (by kernel_rfl)) (by unfold Func.isWrapper; first | (rw [if_pos (by decide +kernel)]; kernel_rfl) | (rw [if_neg (by decide +kernel)]; exact ⟨rfl, rfl⟩))
    (fun os started H enc _ F => by rw [OpenClaim.pre_eq_preRow]; exact liftedUpto os started H enc F)
theorem plain (f : FuncId) (fn : Func) (hf : Tryd.pinned.checked.prog.funcNamed "facsimile/facsimilelaw14.ProfileWarms" = some f) (hfn : Tryd.pinned.checked.prog.funcs[f]? = some fn) :
    true = Tryd.pinned.checked.prog.looks [] ∧ ∀ (j : Nat) t, fn.params[j]? = some t → Tryd.pinned.checked.prog.wantsStandIn t = false := by
  obtain rfl : f = 6 := Option.some.inj ((show Tryd.prog.funcNamed "facsimile/facsimilelaw14.ProfileWarms" = some 6 by kernel_rfl).symm.trans hf) |>.symm
  obtain rfl : fn = Tryd.f6 := (Option.some.inj (Tryd.func6.symm.trans hfn)).symm
  refine ⟨by kernel_rfl, fun j t ht => ?_⟩
  rw [Tryd.params6] at ht
  have hm : t = 51 ∨ t = 52 := by simpa using Array.mem_of_getElem? ht
  rcases hm with rfl | rfl
  · exact (show Tryd.prog.wantsStandIn 51 = false by kernel_rfl)
  · exact (show Tryd.prog.wantsStandIn 52 = false by kernel_rfl)
theorem proved : Rows.ProfileWarmsUptoCardSaid :=
  Claim7.holds_tied_plain_at .later [] _ _ _ _ saidUpto (fun _ h => by cases h) (by kernel_rfl) (fun _ h => by cases h) profileWarmsUpto_row_tie rfl ⟨rfl, rfl⟩ (by kernel_rfl) rfl plain (by kernel_rfl)
#print axioms proved
end Go.Proofs.YtdkjoljcffkpkaaDoor.profileWarms
