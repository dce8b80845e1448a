/-
  Arguments: from what the statement says of them to data in memory, and that they read the same behind a call that turned nothing.
-/
import Derived.Test.YtjpdhfhiimbpgaaGreatDoorFx14
import Derived.WalkKit
import Derived.ProofKit
import Derived.OpenShut
import Derived.JoinedCond
set_option linter.unusedSimpArgs false
set_option linter.unusedVariables false
set_option linter.unusedSectionVars false
namespace Go.Fx
open Go Go.ChangeShapes Go.WideShapes Go.ChangeAt Go.RowKit

mutual
def bulk {H : Type} : DataW H → Nat
  | .lit (.string bytes) => bytes.length + 1
  | .lit _ => 1
  | .nil => 1
  | .ptr d => bulk d + 1
  | .slice elems spare => bulks elems + bulks spare + 1
  | .agg parts => bulks parts + 1
  | .iface _ d => bulk d + 1
  | .map entries => bulkEs entries + 1
  | .held _ => 1
def bulks {H : Type} : List (DataW H) → Nat
  | [] => 0
  | d :: r => bulk d + bulks r
def bulkEs {H : Type} : List (Lit × DataW H) → Nat
  | [] => 0
  | x :: r => bulkE x + bulkEs r
def bulkE {H : Type} : Lit × DataW H → Nat
  | (.string bytes, d) => bytes.length + bulk d + 1
  | (_, d) => bulk d + 1
end

theorem bulk_pos {H : Type} (d : DataW H) : 1 ≤ bulk d := by
  cases d with
  | lit l => cases l <;> simp [bulk] <;> omega
  | _ => simp [bulk] <;> omega
theorem bulks_len {H : Type} (ds : List (DataW H)) : ds.length ≤ bulks ds := by
  induction ds with
  | nil => simp [bulks]
  | cons d ds ih =>
    have := bulk_pos d
    simp only [bulks, List.length_cons]
    omega
theorem bulks_mem {H : Type} {ds : List (DataW H)} {d : DataW H} (h : d ∈ ds) : bulk d ≤ bulks ds := by
  induction ds with
  | nil => cases h
  | cons e ds ih =>
    simp only [bulks]
    rcases List.mem_cons.1 h with rfl | h
    · omega
    · have := ih h; omega

theorem mapM_frame {α β : Type} {f f' : α → Option β} : ∀ {l : List α} {ys : List β}, l.mapM f = some ys → (∀ x ∈ l, ∀ y ∈ ys, f x = some y → f' x = some y) → l.mapM f' = some ys
  | [], ys, h, _ => by simpa using h
  | a :: l, ys, h, hf => by
    rw [List.mapM_cons] at h ⊢
    cases e : f a with
    | none => rw [e] at h; simp at h
    | some b =>
      rw [e] at h
      cases e2 : l.mapM f with
      | none => rw [e2] at h; simp at h
      | some bs =>
        rw [e2] at h
        have h' : b :: bs = ys := by simpa using h
        subst h'
        rw [hf a (by simp) b (by simp) e, mapM_frame e2 (fun x hx y hy => hf x (by simp [hx]) y (by simp [hy]))]
        rfl

theorem mapM_range' {β : Type} {f : Nat → Option β} (ys : List β) (h : ∀ i (hi : i < ys.length), f i = some ys[i]) : (List.range ys.length).mapM f = some ys := by
  have : ∀ m, m ≤ ys.length → (List.range m).mapM f = some (ys.take m) := by
    intro m
    induction m with
    | zero => intro _; simp
    | succ m ih =>
      intro hm
      rw [List.range_succ, List.mapM_append, ih (by omega), List.take_succ_eq_append_getElem (by omega)]
      simp [h m (by omega)]
  have h2 := this ys.length (Nat.le_refl _)
  rwa [List.take_of_length_le (Nat.le_refl _)] at h2

theorem cell?_grow {W W' : World} {a : Addr} {v : Value} (g : Grow W W') (h : W.cell? a = some v) : W'.cell? a = some v := by
  unfold World.cell? at h ⊢
  cases e : W.heap[a.block]? with
  | none => rw [e] at h; simp at h
  | some o =>
    have e' : W'.heap[a.block]? = some o := g.le a.block o e
    rw [e]at h
    rw [e']
    exact h
theorem cells?_grow {W W' : World} {b n : Nat} {a : Addr} {cs : List Value} (g : Grow W W') (h : W.cells? b a n = some cs) : W'.cells? b a n = some cs := by
  unfold World.cells? at h ⊢
  split at h
  · rename_i hb
    rw [if_pos hb]
    exact mapM_frame h fun i _ v _ hv => cell?_grow g hv
  · cases h

abbrev allSp : Nat → Bool := fun _ => true

/-- Data of the type t reads the same behind a call that turned nothing. -/
def FrameT (P : Program) (t : TypeId) : Prop := ∀ {H : Type} {enc : TypeId × Value → H} {W W' : World} {sp : Nat → Bool} {fuel : Nat} {cs : List Value} {d : DataW H} {ps : List MemPlace},
  DataW.trod enc P W 0 allSp true fuel t cs = some (d, ps) → Grow W W' → (∀ p ∈ ps, sp p.block = true) → DataW.trod enc P W' 0 sp true fuel t cs = some (d, ps)

/-- What data of the type t are. -/
structure Opens (P : Program) (t : TypeId) {α : Type} (ty : Ty α) (ok : Nat → α → Prop) : Prop where
  size : P.cellsOf t = ty.sz
  mono : ∀ {m n : Nat} {x : α}, m ≤ n → ok m x → ok n x
  run : ∀ {H : Type} {enc : TypeId × Value → H} {W : World} {fuel : Nat} {cs : List Value} {d : DataW H} {ps : List MemPlace},
    DataW.trod enc P W 0 allSp true fuel t cs = some (d, ps) → ∃ x, ty.rel (hp W) x cs ∧ ok (bulk d) x
  frame : FrameT P t

section
variable {P : Program} {t e : TypeId}

theorem Opens.int (hu : P.underlying t = some (.int .i64)) (hs : P.cellsOf t = 1) : Opens P t Ty.int (fun _ x => I64 x) where
  size := hs
  mono := fun _ h => h
  run := fun {H enc W fuel cs d ps} h => by
    obtain ⟨m, rfl, hx, hw⟩ := DataW.trod_int hu h
    refine ⟨m, rfl, ?_⟩
    simp [Lit.wf, IntKind.min, IntKind.max, IntKind.signed, IntKind.bits] at hw
    exact hw
  frame := fun {H enc W W' sp fuel cs d ps} h g hsp => by
    obtain ⟨m, rfl, hx, hw⟩ := DataW.trod_int hu h
    cases fuel with
    | zero => simp [DataW.trod] at h
    | succ n => rw [hx]; exact trod_int_mk n hu hw

theorem Opens.u8 (hu : P.underlying t = some (.int .u8)) (hs : P.cellsOf t = 1) : Opens P t Ty.u8 (fun _ x => 0 ≤ x ∧ x ≤ 255) where
  size := hs
  mono := fun _ h => h
  run := fun {H enc W fuel cs d ps} h => by
    obtain ⟨m, rfl, hx, hw⟩ := DataW.trod_int hu h
    refine ⟨m, rfl, ?_⟩
    simp [Lit.wf, IntKind.min, IntKind.max, IntKind.signed, IntKind.bits] at hw
    exact hw
  frame := fun {H enc W W' sp fuel cs d ps} h g hsp => by
    obtain ⟨m, rfl, hx, hw⟩ := DataW.trod_int hu h
    cases fuel with
    | zero => simp [DataW.trod] at h
    | succ n => rw [hx]; exact trod_int_mk n hu hw

theorem Opens.via {α β : Type} {ty : Ty α} {ok : Nat → α → Prop} (h : Opens P t ty ok) (f : β → α) (g : α → β) (hfg : ∀ y, f (g y) = y) : Opens P t (ty.via f) (fun n x => ok n (f x)) where
  size := h.size
  mono := fun l k => h.mono l k
  run := fun k => by
    obtain ⟨x, h1, h2⟩ := h.run k
    exact ⟨g x, by show ty.rel _ (f (g x)) _; rw [hfg]; exact h1, by rw [hfg]; exact h2⟩
  frame := h.frame

theorem cells_seg {W : World} {b off n : Nat} {cs : List Value} (h : W.cells? 0 ⟨b, off, none⟩ n = some cs) (hn : 0 < n) : ∃ C T fz, W.heap[b]? = some (.cells C T fz) ∧ seg C off n = cs := by
  obtain ⟨_, hl, hc⟩ := World.cells?_some h
  have h0 := hc 0 hn
  rw [add_zero_spot] at h0
  cases e : W.heap[b]? with
  | none =>
    have h1 : cs[0]? = none := by rw [← h0]; simp [World.cell?, e]
    have := List.getElem?_eq_none_iff.1 h1
    omega
  | some o =>
    cases o with
    | cells C T fz =>
      refine ⟨C, T, fz, rfl, ?_⟩
      apply List.ext_getElem?
      intro i
      simp only [seg, List.getElem?_take, List.getElem?_drop]
      split
      · rename_i hi
        have := hc i hi
        rw [add_zero_spot, cell_at e] at this
        rw [← this]
        simp
      · rename_i hi
        rw [List.getElem?_eq_none (by omega)]
    | _ =>
      have h1 : cs[0]? = none := by rw [← h0]; simp [World.cell?, e]
      have := List.getElem?_eq_none_iff.1 h1
      omega

theorem encs_of {α : Type} {ty : Ty α} {R : Hp} {C : Array Value} {off : Nat} : ∀ (xs : List α), (∀ i (hi : i < xs.length), ∃ c, seg C (off + i * ty.sz) ty.sz = c ∧ ty.rel R xs[i] c) → off + xs.length * ty.sz ≤ C.size → Encs ty R xs (seg C off (xs.length * ty.sz))
  | [], _, _ => by simpa [seg] using Encs.nil
  | x :: xs, h, hC => by
    obtain ⟨c, hc, hr⟩ := h 0 (by simp)
    have hl := ty.len hr
    simp only [List.length_cons, Nat.add_mul, Nat.one_mul] at hC
    have e : seg C off ((x :: xs).length * ty.sz) = c ++ seg C (off + ty.sz) (xs.length * ty.sz) := by
      rw [← hc]
      simp only [seg, Nat.zero_mul, Nat.add_zero, List.length_cons, Nat.add_mul, Nat.one_mul]
      rw [Nat.add_comm (xs.length * ty.sz) ty.sz, List.take_add, List.drop_drop]
    rw [e]
    refine .cons hr (encs_of xs (fun i hi => ?_) (by omega))
    obtain ⟨c', h1, h2⟩ := h (i + 1) (by simpa using hi)
    refine ⟨c', ?_, by simpa using h2⟩
    rw [← h1]
    congr 1
    rw [Nat.add_mul, Nat.one_mul]
    omega

theorem Opens.slice {α : Type} {ty : Ty α} {ok : Nat → α → Prop} (ho : Opens P e ty ok) (hu : P.underlying t = some (.slice e)) (hs : P.cellsOf t = 1) (hpos : 0 < ty.sz) :
    Opens P t (Ty.slice ty) (fun n xs => xs.length + 1 ≤ n ∧ ∀ x ∈ xs, ok n x) where
  size := hs
  mono := fun l h => ⟨Nat.le_trans h.1 l, fun x hx => ho.mono l (h.2 x hx)⟩
  run := fun {H enc W fuel cs d ps} h => by
    rcases DataW.trod_slice hu h with ⟨rfl, hx⟩ | ⟨a, len, cap, elems, rest, n, hf, rfl, hx, hb, hl, hm, hlen, hel, hsp, hns⟩
    · cases hx
      exact ⟨[], ⟨_, rfl, RdS.empty _ _⟩, by simp [bulk], by simp⟩
    · simp only [Prod.mk.injEq] at hx
      obtain ⟨hd, hps⟩ := hx
      have each : ∀ i (hi : i < len), ∃ x c, W.cells? 0 (a.add (i * P.cellsOf e)) (P.cellsOf e) = some c ∧ ty.rel (hp W) x c ∧ ok (bulk d) x := by
        intro i hi
        have h1 := hel i hi
        have hi' : i < elems.length := by omega
        rw [List.getElem?_eq_getElem hi', Option.bind_eq_some_iff] at h1
        obtain ⟨c, hc, h2⟩ := h1
        obtain ⟨x, hr, hk⟩ := ho.run (d := (elems[i]).1) (ps := (elems[i]).2) h2
        refine ⟨x, c, hc, hr, ho.mono ?_ hk⟩
        rw [hd]
        simp only [bulk]
        have := bulks_mem (ds := elems.map (·.1)) (List.mem_map.2 ⟨elems[i], List.getElem_mem hi', rfl⟩)
        omega
      have hb2 : len + 1 ≤ bulk d := by
        rw [hd]
        simp only [bulk]
        have := bulks_len (elems.map (·.1))
        simp only [List.length_map] at this
        omega
      have hx : ∃ xs : List α, xs.length = len ∧ ∀ i (hi : i < xs.length), ∃ c, W.cells? 0 (a.add (i * P.cellsOf e)) (P.cellsOf e) = some c ∧ ty.rel (hp W) xs[i] c ∧ ok (bulk d) xs[i] := by
        have : ∀ m, m ≤ len → ∃ xs : List α, xs.length = m ∧ ∀ i (hi : i < xs.length), ∃ c, W.cells? 0 (a.add (i * P.cellsOf e)) (P.cellsOf e) = some c ∧ ty.rel (hp W) xs[i] c ∧ ok (bulk d) xs[i] := by
          intro m
          induction m with
          | zero => intro _; exact ⟨[], rfl, fun i hi => by simp at hi⟩
          | succ m ih =>
            intro hm
            obtain ⟨xs, hxl, hxs⟩ := ih (by omega)
            obtain ⟨x, c, h1, h2, h3⟩ := each m (by omega)
            refine ⟨xs ++ [x], by simp [hxl], fun i hi => ?_⟩
            by_cases h' : i < xs.length
            · rw [List.getElem_append_left h']
              exact hxs i h'
            · have : i = m := by simp at hi; omega
              subst this
              rw [List.getElem_append_right (by omega)]
              exact ⟨c, h1, by simpa [hxl] using h2, by simpa [hxl] using h3⟩
        exact this len (Nat.le_refl _)
      obtain ⟨xs, hxl, hxs⟩ := hx
      subst hxl
      refine ⟨xs, ⟨_, rfl, some a, cap, rfl, hl, fun hne => ?_⟩, hb2, fun x hx => ?_⟩
      · have hpos' : 0 < xs.length := List.length_pos_iff.2 hne
        rw [ho.size] at hxs
        obtain ⟨c0, hc0, _, _⟩ := hxs 0 hpos'
        have hsp0 : a.spot = none := by
          have := (World.cells?_some hc0).2.2 0 hpos
          have hl0 := (World.cells?_some hc0).2.1
          simp only [Addr.add, if_true, Nat.zero_mul] at this
          rw [List.getElem?_eq_getElem (by omega)] at this
          cases e' : a.spot with
          | none => rfl
          | some s =>
            unfold World.cell? at this
            rw [e'] at this
            split at this <;> simp at this
        obtain ⟨b, off, sp⟩ := a
        simp only at hsp0
        subst hsp0
        simp only [add_zero_spot] at hxs
        obtain ⟨c1, hc1, _, _⟩ := hxs 0 hpos'
        obtain ⟨C, T, fz, hb', _⟩ := cells_seg hc1 hpos
        refine ⟨b, off, C, T, fz, rfl, hb', encs_of xs (fun i hi => ?_) ?_⟩
        · obtain ⟨c, hc, hr, _⟩ := hxs i hi
          obtain ⟨C', T', fz', hb'', hse⟩ := cells_seg hc hpos
          rw [hb'] at hb''
          cases hb''
          exact ⟨c, hse, hr⟩
        · obtain ⟨c, hc, hr, _⟩ := hxs (xs.length - 1) (by omega)
          obtain ⟨C', T', fz', hb'', hse⟩ := cells_seg hc hpos
          rw [hb'] at hb''
          cases hb''
          have hlc := ty.len hr
          rw [← hse] at hlc
          simp only [seg, List.length_take, List.length_drop, Array.length_toList] at hlc
          have : xs.length * ty.sz = (xs.length - 1) * ty.sz + ty.sz := by
            rw [← Nat.succ_mul]; congr 1; omega
          omega
      · obtain ⟨i, hi, rfl⟩ := List.getElem_of_mem hx
        obtain ⟨_, _, _, h⟩ := hxs i hi
        exact h
  frame := fun {H enc W W' sp fuel cs d ps} h g hsp => by
    rcases DataW.trod_slice hu h with ⟨rfl, hx⟩ | ⟨a, len, cap, elems, rest, n, rfl, rfl, hx, hb, hl, hm, hlen, hel, hsp', hns⟩
    · cases fuel with
      | zero => simp [DataW.trod] at h
      | succ n =>
        rw [hx]
        unfold DataW.trod
        rw [hu]
        rfl
    · simp only [Prod.mk.injEq] at hx
      obtain ⟨hd, hps⟩ := hx
      obtain ⟨hrl, hr⟩ := hsp' rfl
      have one : ∀ (i : Nat) (y : DataW H × List MemPlace), (∀ p ∈ y.2, sp p.block = true) → (W.cells? 0 (a.add (i * P.cellsOf e)) (P.cellsOf e)).bind (DataW.trod enc P W 0 allSp true n e) = some y →
          (W'.cells? 0 (a.add (i * P.cellsOf e)) (P.cellsOf e)).bind (DataW.trod enc P W' 0 sp true n e) = some y := by
        intro i y hy h1
        rw [Option.bind_eq_some_iff] at h1 ⊢
        obtain ⟨c, hc, h2⟩ := h1
        exact ⟨c, cells?_grow g hc, ho.frame (d := y.1) (ps := y.2) h2 g hy⟩
      have hin : ∀ y ∈ elems ++ rest, ∀ p ∈ y.2, sp p.block = true := fun y hy p hp => hsp p (by
        rw [hps]
        exact List.mem_append.2 (.inr (List.mem_flatMap.2 ⟨y, hy, hp⟩)))
      have m1 : (List.range len).mapM (fun i => (W'.cells? 0 (a.add (i * P.cellsOf e)) (P.cellsOf e)).bind (DataW.trod enc P W' 0 sp true n e)) = some elems := by
        have := mapM_range' (f := fun i => (W'.cells? 0 (a.add (i * P.cellsOf e)) (P.cellsOf e)).bind (DataW.trod enc P W' 0 sp true n e)) elems (fun i hi => one i elems[i] (fun p hp => hin elems[i] (List.mem_append.2 (.inl (List.getElem_mem hi))) p hp) (by
          rw [hel i (by omega), List.getElem?_eq_getElem hi]))
        rw [hlen] at this
        exact this
      have m2 : (List.range (cap - len)).mapM (fun j => (W'.cells? 0 (a.add ((len + j) * P.cellsOf e)) (P.cellsOf e)).bind (DataW.trod enc P W' 0 sp true n e)) = some rest := by
        have := mapM_range' (f := fun j => (W'.cells? 0 (a.add ((len + j) * P.cellsOf e)) (P.cellsOf e)).bind (DataW.trod enc P W' 0 sp true n e)) rest (fun i hi => one (len + i) rest[i] (fun p hp => hin rest[i] (List.mem_append.2 (.inr (List.getElem_mem hi))) p hp) (by
          rw [hr i (by omega), List.getElem?_eq_getElem hi]))
        rw [hrl] at this
        exact this
      unfold DataW.trod
      rw [hu]
      simp only [hb, hl, hm, and_self, if_true, m1, Option.bind_some]
      have m3 : (if sp a.block = true then (List.range (cap - len)).mapM (fun j => (W'.cells? 0 (a.add ((len + j) * P.cellsOf e)) (P.cellsOf e)).bind (DataW.trod enc P W' 0 sp true n e)) else some []) = some rest := by
        by_cases h0 : elems.length + rest.length = 0
        · have : rest = [] := List.eq_nil_of_length_eq_zero (by omega)
          rw [m2]
          split
          · rfl
          · rw [this]
        · have hsb : sp a.block = true := by
            have := hsp (.cell a.block (a.off + 0)) (by
              rw [hps]
              refine List.mem_append.2 (.inl ?_)
              unfold MemPlace.row
              refine List.mem_map.2 ⟨0, List.mem_range.2 ?_, rfl⟩
              rw [ho.size]
              exact Nat.mul_pos (by omega) hpos)
            exact this
          rw [if_pos hsb, m2]
      rw [m3, hd, hps]
      rfl
end
end Go.Fx
