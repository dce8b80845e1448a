/-
  Arguments: structs, arrays, strings; what a law's statement asks behind its walk.
-/
import Derived.Test.YtjpdhfhiimbpgaaGreatDoorFx16
set_option linter.unusedSimpArgs false
set_option linter.unusedVariables false
set_option linter.unusedSectionVars false
namespace Go.Fx
open Go Go.ChangeShapes Go.WideShapes Go.ChangeAt Go.RowKit

section
variable {P : Program} {t e : TypeId}

theorem Opens.str (hu : P.underlying t = some .string) (hs : P.cellsOf t = 1) : Opens P t Ty.str (fun n x => x.size + 1 ≤ n) where
  size := hs
  mono := fun l h => Nat.le_trans h l
  run := fun {H enc W fuel cs d ps} h => by
    obtain ⟨s, rfl, hx, hw⟩ := DataW.trod_string hu h
    cases hx
    exact ⟨s, rfl, by simp only [bulk, Array.length_toList]; exact Nat.le_refl _⟩
  frame := fun {H enc W W' sp fuel cs d ps} h g hsp => by
    obtain ⟨s, rfl, hx, hw⟩ := DataW.trod_string hu h
    cases fuel with
    | zero => simp [DataW.trod] at h
    | succ n =>
      unfold DataW.trod at h ⊢
      rw [hu] at h ⊢
      exact h
theorem Opens.bool (hu : P.underlying t = some .bool) (hs : P.cellsOf t = 1) : Opens P t Ty.bool (fun _ _ => True) where
  size := hs
  mono := fun _ _ => trivial
  run := fun {H enc W fuel cs d ps} h => by
    obtain ⟨s, rfl, hx⟩ := DataW.trod_bool hu h
    exact ⟨s, rfl, trivial⟩
  frame := fun {H enc W W' sp fuel cs d ps} h g hsp => by
    obtain ⟨s, rfl, hx⟩ := DataW.trod_bool hu h
    cases fuel with
    | zero => simp [DataW.trod] at h
    | succ n =>
      unfold DataW.trod at h ⊢
      rw [hu] at h ⊢
      exact h

/-- Fields that lie one behind the other from off on. -/
structure OpensFs (P : Program) (fs : List Field) (off : Nat) {α : Type} (ty : Ty α) (ok : Nat → α → Prop) : Prop where
  mono : ∀ {m n : Nat} {x : α}, m ≤ n → ok m x → ok n x
  run : ∀ {H : Type} {enc : TypeId × Value → H} {W : World} {n N : Nat} {cs : List Value} {xs : List (DataW H × List MemPlace)}, off + ty.sz ≤ cs.length → xs.length = fs.length →
    (∀ (i : Nat) (f : Field), fs[i]? = some f → DataW.trod enc P W 0 allSp true n f.type ((cs.drop f.offset).take (P.cellsOf f.type)) = xs[i]?) → (∀ x ∈ xs, bulk x.1 ≤ N) →
    ∃ x, ty.rel (hp W) x ((cs.drop off).take ty.sz) ∧ ok N x
  frame : ∀ f ∈ fs, FrameT P f.type

theorem OpensFs.one {α : Type} {ty : Ty α} {ok : Nat → α → Prop} {f : Field} {off : Nat} (h : Opens P f.type ty ok) (ho : f.offset = off) : OpensFs P [f] off ty ok where
  mono := h.mono
  run := fun {H enc W n N cs xs} hc hl hx hN => by
    have h0 := hx 0 f rfl
    have hl' : 0 < xs.length := by rw [hl]; simp
    rw [List.getElem?_eq_getElem hl', h.size, ho] at h0
    obtain ⟨x, h1, h2⟩ := h.run (d := (xs[0]).1) (ps := (xs[0]).2) h0
    exact ⟨x, h1, h.mono (hN _ (List.getElem_mem hl')) h2⟩
  frame := fun g hg => by
    obtain rfl : g = f := by simpa using hg
    exact h.frame
theorem OpensFs.cons {α β : Type} {a : Ty α} {b : Ty β} {oka : Nat → α → Prop} {okb : Nat → β → Prop} {f : Field} {fs : List Field} {off : Nat} (h : Opens P f.type a oka) (ho : f.offset = off) (k : OpensFs P fs (off + a.sz) b okb) :
    OpensFs P (f :: fs) off (a.pair b) (fun n x => oka n x.1 ∧ okb n x.2) where
  mono := fun l ⟨h1, h2⟩ => ⟨h.mono l h1, k.mono l h2⟩
  run := fun {H enc W n N cs xs} hc hl hx hN => by
    have hc' : off + (a.sz + b.sz) ≤ cs.length := hc
    cases xs with
    | nil => simp at hl
    | cons x0 xs =>
      have h0 := hx 0 f rfl
      rw [h.size, ho] at h0
      obtain ⟨x, h1, h2⟩ := h.run (d := x0.1) (ps := x0.2) h0
      obtain ⟨y, h3, h4⟩ := k.run (cs := cs) (xs := xs) (by omega) (by simpa using hl) (fun i g hg => hx (i + 1) g (by simpa using hg)) (fun z hz => hN z (by simp [hz]))
      refine ⟨(x, y), ⟨_, _, ?_, h1, h3⟩, h.mono (hN x0 (by simp)) h2, h4⟩
      show (cs.drop off).take (a.sz + b.sz) = _
      rw [List.take_add, List.drop_drop]
  frame := fun g hg => by
    rcases List.mem_cons.1 hg with rfl | hg
    · exact h.frame
    · exact k.frame g hg

theorem Opens.struct {α : Type} {ty : Ty α} {ok : Nat → α → Prop} {fs : Array Field} (h : OpensFs P fs.toList 0 ty ok) (hu : P.underlying t = some (.struct fs)) (hs : P.cellsOf t = ty.sz) : Opens P t ty ok where
  size := hs
  mono := h.mono
  run := fun {H enc W fuel cs d ps} k => by
    obtain ⟨xs, n, hf, hx, hl, hxl, hx2⟩ := DataW.trod_struct hu k
    cases hx
    obtain ⟨x, h1, h2⟩ := h.run (N := bulk (DataW.agg (xs.map (·.1)))) (cs := cs) (xs := xs) (by omega) (by simpa using hxl) (fun i f hf => hx2 i f (by simpa using hf)) (fun x hx => by
      simp only [bulk]
      have := bulks_mem (ds := xs.map (·.1)) (List.mem_map.2 ⟨x, hx, rfl⟩)
      omega)
    refine ⟨x, ?_, h2⟩
    rw [List.drop_zero, List.take_of_length_le (by omega)] at h1
    exact h1
  frame := fun {H enc W W' sp fuel cs d ps} k g hsp => by
    cases fuel with
    | zero => simp [DataW.trod] at k
    | succ n =>
      unfold DataW.trod at k ⊢
      rw [hu] at k ⊢
      simp only at k ⊢
      split at k
      · rename_i hl
        rw [if_pos hl]
        rw [Option.map_eq_some_iff] at k
        obtain ⟨xs, hm, hx⟩ := k
        simp only [Prod.mk.injEq] at hx
        obtain ⟨hd, hps⟩ := hx
        have := mapM_frame (f' := fun f => DataW.trod enc P W' 0 sp true n f.type ((cs.drop f.offset).take (P.cellsOf f.type))) hm (fun f hf y hy hfy => h.frame f hf (d := y.1) (ps := y.2) hfy g (fun p hp => hsp p (by
          rw [← hps]
          exact List.mem_flatMap.2 ⟨y, hy, hp⟩)))
        rw [this]
        simp [hd, hps]
      · cases k

/-- So many data of one kind, one behind the other. -/
def Ty.arr {α : Type} (ty : Ty α) (n : Nat) : Ty (List α) where
  sz := n * ty.sz
  rel R xs cs := xs.length = n ∧ Encs ty R xs cs
  mono l h := ⟨h.1, h.2.mono l⟩
  len h := by rw [h.2.len, h.1]
  ones h := h.2.ones

theorem Opens.array {α : Type} {ty : Ty α} {ok : Nat → α → Prop} {n : Nat} (h : Opens P e ty ok) (hu : P.underlying t = some (.array n e)) (hs : P.cellsOf t = n * ty.sz) : Opens P t (ty.arr n) (fun m xs => ∀ x ∈ xs, ok m x) where
  size := hs
  mono := fun l k x hx => h.mono l (k x hx)
  run := fun {H enc W fuel cs d ps} k => by
    obtain ⟨xs, m, hf, hx, hl, hxl, hx2⟩ := DataW.trod_array hu k
    cases hx
    have key : ∀ j, j ≤ n → ∃ ys : List α, ys.length = j ∧ Encs ty (hp W) ys (cs.take (j * ty.sz)) ∧ ∀ y ∈ ys, ok (bulk (DataW.agg (xs.map (·.1)))) y := by
      intro j
      induction j with
      | zero => intro _; exact ⟨[], rfl, by simpa using Encs.nil, by simp⟩
      | succ j ih =>
        intro hj
        obtain ⟨ys, h1, h2, h3⟩ := ih (by omega)
        have h4 := hx2 j (by omega)
        have hjx : j < xs.length := by omega
        rw [List.getElem?_eq_getElem hjx, h.size] at h4
        obtain ⟨y, h5, h6⟩ := h.run (d := (xs[j]).1) (ps := (xs[j]).2) h4
        refine ⟨ys ++ [y], by simp [h1], ?_, fun z hz => ?_⟩
        · rw [Nat.add_mul, Nat.one_mul, List.take_add]
          exact h2.append (Encs.one h5)
        · rcases List.mem_append.1 hz with hz | hz
          · exact h3 z hz
          · simp at hz
            subst hz
            refine h.mono ?_ h6
            simp only [bulk]
            have := bulks_mem (ds := xs.map (·.1)) (List.mem_map.2 ⟨xs[j], List.getElem_mem hjx, rfl⟩)
            omega
    obtain ⟨ys, h1, h2, h3⟩ := key n (Nat.le_refl _)
    rw [List.take_of_length_le (by omega)] at h2
    exact ⟨ys, ⟨h1, h2⟩, h3⟩
  frame := fun {H enc W W' sp fuel cs d ps} k g hsp => by
    cases fuel with
    | zero => simp [DataW.trod] at k
    | succ m =>
      unfold DataW.trod at k ⊢
      rw [hu] at k ⊢
      simp only at k ⊢
      split at k
      · rename_i hl
        rw [if_pos hl]
        rw [Option.map_eq_some_iff] at k
        obtain ⟨xs, hm, hx⟩ := k
        simp only [Prod.mk.injEq] at hx
        obtain ⟨hd, hps⟩ := hx
        have := mapM_frame (f' := fun i => DataW.trod enc P W' 0 sp true m e ((cs.drop (i * P.cellsOf e)).take (P.cellsOf e))) hm (fun f hf y hy hfy => h.frame (d := y.1) (ps := y.2) hfy g (fun p hp => hsp p (by
          rw [← hps]
          exact List.mem_flatMap.2 ⟨y, hy, hp⟩)))
        rw [this]
        simp [hd, hps]
      · cases k

theorem Opens.arg {H : Type} {enc : TypeId × Value → H} {W : World} {v : Value} {d : DataW H} {ps : List MemPlace} {α : Type} {ty : Ty α} {ok : Nat → α → Prop} (ho : Opens P t ty ok) (h : DataW.Trod enc P W 0 allSp true t v d ps) :
    ∃ x, ty.rel (hp W) x v.cells.toList ∧ ok (bulk d) x := by
  obtain ⟨fuel, h⟩ := h
  exact ho.run h

theorem arg_slice {H : Type} {enc : TypeId × Value → H} {W : World} {v : Value} {d : DataW H} {ps : List MemPlace} {α : Type} {ty : Ty α} {ok : Nat → List α → Prop} {r : Reach} {b : Nat} (hu : P.underlying t = some (.slice e)) (hv : Value.okWide P W r b t v)
    (ho : Opens P t (Ty.slice ty) ok) (h : DataW.Trod enc P W 0 allSp true t v d ps) : ∃ xs, RdS ty (hp W) v xs ∧ ok (bulk d) xs := by
  obtain ⟨a, len, cap, rfl⟩ := okWide_slice hu hv
  obtain ⟨xs, ⟨v', e', hr⟩, hk⟩ := ho.arg h
  have : Value.slice a len cap = v' := by simpa [Value.cells] using e'
  subst this
  exact ⟨xs, hr, hk⟩

theorem trodAll_frame {H : Type} {enc : TypeId × Value → H} {W W' : World} {sp : Nat → Bool} : ∀ {ts : List TypeId} {vs : List Value} {ds : List (DataW H)} {ps : List MemPlace}, (∀ t ∈ ts, FrameT P t) → DataW.TrodAll enc P W 0 allSp true ts vs ds ps → Grow W W' →
    (∀ p ∈ ps, sp p.block = true) → DataW.TrodAll enc P W' 0 sp true ts vs ds ps
  | [], [], [], _, _, h, _, _ => h
  | t :: ts, v :: vs, d :: ds, ps, hf, ⟨p, q, ⟨fuel, h1⟩, h2, e⟩, g, hs => by
    subst e
    exact ⟨p, q, ⟨fuel, hf t (by simp) h1 g (fun x hx => hs x (by simp [hx]))⟩, trodAll_frame (fun u hu => hf u (by simp [hu])) h2 g (fun x hx => hs x (by simp [hx])), rfl⟩
  | [], [], _ :: _, _, _, h, _, _ => h.elim
  | [], _ :: _, _, _, _, h, _, _ => h.elim
  | _ :: _, [], _, _, _, h, _, _ => h.elim
  | _ :: _, _ :: _, [], _, _, h, _, _ => h.elim

theorem post_of_below {H : Type} {enc : TypeId × Value → H} {P : Program} {f : Func} {s : ChangeSpec} {apart fresh handsOn again : Bool} {W W' : World} {args : Array Value} {v : Value} {ds gs : List (DataW H)} {before pa pv : List MemPlace}
    (hW : DataW.Whole enc P f.params.toList s.vars apart W args.toList ds gs before)
    (hres : ∀ (b : Nat) (sp : Nat → Bool) (hd : Bool), DataW.TrodAll enc P W' b sp hd f.resultTypes.toList (v.resultList f.resultTypes.size) (s.fn H (ds ++ gs)).results [])
    (hargs : ∀ sp : Nat → Bool, (∀ p ∈ before, sp p.block = true) → DataW.TrodAll enc P W' 0 sp true f.params.toList args.toList (s.fn H (ds ++ gs)).args pa)
    (hvars : ∀ sp : Nat → Bool, (∀ p ∈ before, sp p.block = true) → DataW.TrodVars enc P W' sp s.vars (s.fn H (ds ++ gs)).vars pv)
    (hps : before = pa ++ pv) (hb : Below W.heap.size W W')
    (hok : ∀ (j : Nat) (t : TypeId) (r : Value), f.resultTypes[j]? = some t → (v.resultList f.resultTypes.size)[j]? = some r → Value.okWide P W' .any 0 t r) :
    s.post enc P f apart fresh handsOn again W args v W' := by
  have hold : ∀ p ∈ before, (fun b => decide (b < W.heap.size)) p.block = true := fun p hp => by simpa using hW.lt p hp
  refine ⟨ds, gs, before, [], pa, pv, hW, hres _ _ _, hargs _ hold, hvars _ hold, World.keptBut_mono (fun p hp => ⟨hp, ?_⟩) (hb.frame _), fun _ => ?_⟩
  · rw [hps, List.mem_append] at hp
    exact Or.inr hp
  · have hlt := hW.lt
    obtain ⟨_, _, _, _, _, hz, hn⟩ := hW
    refine ⟨hok, _, _, ([] ++ pa) ++ pv, ⟨[] ++ pa, pv, trodAll_append (hargs _ (fun _ _ => rfl)) (hres _ _ _), hvars _ (fun _ _ => rfl), rfl, ?_, ?_⟩, ?_⟩
    · intro b off hp
      have hp2 : MemPlace.cell b off ∈ before := by rw [hps]; simpa using hp
      have h1 := hz b off hp2
      have h2 : W'.heap[b]? = W.heap[b]? := hb.block b (hlt _ hp2)
      simp only [World.frozen?] at h1 ⊢
      rw [h2]
      exact h1
    · intro ha
      have := hn ha
      rw [hps] at this
      simpa using this
    · intro p hp _
      rw [hps]
      simpa using hp

/-- What a statement asks of a law that returns true and turns nothing. -/
theorem post_true {H : Type} {enc : TypeId × Value → H} {f : Func} {s : ChangeSpec} {W W' : World} {args : Array Value} {ds gs : List (DataW H)} {before : List MemPlace} {tb : TypeId}
    (hW : DataW.Whole enc P f.params.toList s.vars false W args.toList ds gs before) (hv : s.vars = []) (hf : ∀ t ∈ f.params.toList, FrameT P t) (hg : Grow W W') (hr : f.resultTypes = #[tb]) (hb : P.underlying tb = some .bool)
    (hfn : s.fn H (ds ++ gs) = { results := [.lit (.bool true)], args := ds })
    (hok : ∀ (j : Nat) (t : TypeId) (r : Value), f.resultTypes[j]? = some t → ((Value.bool true).resultList f.resultTypes.size)[j]? = some r → Value.okWide P W' .any 0 t r) :
    s.post enc P f false true false false W args (.bool true) W' := by
  have hW' := hW
  obtain ⟨p, q, hA, hV, rfl, hz, hn⟩ := hW
  have hq : q = [] := by
    rw [hv] at hV
    cases gs with
    | nil => exact hV
    | cons g gs => exact hV.elim
  subst hq
  refine post_of_below (pa := p) (pv := []) hW' (fun b sp hd => ?_) (fun sp hs => ?_) (fun sp hs => ?_) rfl hg.below hok
  · rw [hfn, hr]
    exact ⟨[], [], shut_bool hb true, rfl, rfl⟩
  · rw [hfn]
    exact trodAll_frame hf hA hg (fun x hx => hs x (by simpa using hx))
  · rw [hfn, hv]
    rfl
end
end Go.Fx
