/-
  Small lemmas that the printed proofs use.
-/
import Derived.Test.YtjpdhfhiimbpgaaGreatDoorFx9
set_option linter.unusedSimpArgs false
set_option linter.unusedVariables false
set_option linter.unusedSectionVars false
namespace Go.Fx
open Go

theorem x_add_nat {P : Program} {w : World} {ρ : Operand → Value} {o : Oper} {x y : Operand} {t yt : TypeId} {a b : Nat} (ho : o.op = .binOp .add t x y yt) (hx : ρ x = int (a : Int)) (hy : ρ y = int (b : Int)) (h : a + b ≤ 9223372036854775807) :
    (execOp ρ o).run P w = .ok (.value (int ((a + b : Nat) : Int))) w := by
  have := x_add (P := P) (w := w) ho hx hy (by constructor <;> omega)
  rw [this]
  rfl

theorem seg_get {cs : Array Value} {off n j : Nat} {l : List Value} {u : Value} (h : seg cs off n = l) (hj : l[j]? = some u) : cs[off + j]? = some u := by
  subst h
  have hlt : j < n := by
    have := (List.getElem?_eq_some_iff.1 hj).1
    simp [seg] at this
    omega
  simp only [seg, List.getElem?_take, hlt, if_true, List.getElem?_drop] at hj
  simpa using hj

theorem Want.of {ops : Array Oper} {σ : Fr} {o : Oper} {j d : Nat} {want b y : Bool} {oj : Oper} (h : o.guard = some (j, want)) (hj : ops[j]? = some oj) (hd : oj.dst = some d) (hb : at_ σ d = .bool b) (hy : (b == want) = y) : Want ops σ o y := by
  subst hy
  exact Want.grd h hj hd hb

section
variable {w0 w : World} {R0 R : Hp} {L0 Lc : List Hp}

theorem Step.keepB {B : Hp} (h : Step w0 R0 L0 w R Lc) (hB : Le B (hp w0)) (hd : ∀ c ∈ L0, Dj B c) : Le B (hp w) := fun b o e => by
  have h0 := hB b o e
  rw [h.keep b (hp_lt (by rw [h0]; simp)) (fun c hc => ?_)]
  · exact h0
  · rcases hd c hc b with e' | e'
    · rw [e] at e'; cases e'
    · exact e'

theorem Step.nothing (h : Step w0 R0 L0 w R Lc) : Step w0 R0 L0 w R (non :: Lc) := by
  have hs := h.sats
  have hn : ∀ A : Hp, Dj A non := fun A b => .inr rfl
  refine ⟨⟨hs.r, ?_, List.pairwise_cons.2 ⟨fun d _ => (hn d).symm, hs.dj⟩, ?_⟩, h.rle, h.os, h.tape, h.output, h.size, h.keep, h.newR, ?_⟩
  · intro d hd
    rcases List.mem_cons.1 hd with rfl | hd
    · exact Le.non _
    · exact hs.l d hd
  · intro d hd
    rcases List.mem_cons.1 hd with rfl | hd
    · exact hn _
    · exact hs.rd d hd
  · intro d hd b hb
    rcases List.mem_cons.1 hd with rfl | hd
    · exact absurd rfl hb
    · exact h.newL d hd b hb

theorem Sats.take (h : Sats w R Lc) (k : Nat) {L' : List Hp} (e : Lc.take k = L') : Sats w R L' := (Step.keepN (Step.refl h) k e).sats

theorem Step.ro (h : Le R (hp w)) : Step w R [] w R [] := Step.refl ⟨h, by simp, by simp, by simp⟩
end

section
variable {κ β : Type} [DecidableEq κ] {P : Program} {w : World} {kT eT T : TypeId} {kenc : κ → Value} {venc : β → Value} {bo : Option Nat} {m : List (κ × β)} {c : Hp} {agg : Bool} {sz bytes : Nat} {z : Value}

/-- An element that a function tells. -/
def vE (venc : β → Value) : β → Value → Prop := fun x v => v = venc x

/-- A look-up whose element is told by a function. -/
theorem MapC.lookupP (h : MapC kenc (vE venc) bo m c) (hc : Le c (hp w)) (K : KeyLaw (β := β) P kT kenc) (hT : P.underlying T = some (.map kT eT)) (he : TI P eT agg sz bytes z) (k : κ) (ok : Bool) (d : β) (hd : z = venc d) :
    (Instr.lookup T (.map bo) (kenc k) ok).run P w = .ok (if ok then .tuple #[venc ((AL.get m k).getD d), .bool (AL.get m k).isSome] else venc ((AL.get m k).getD d)) w := by
  obtain ⟨v, hr, hv⟩ := h.lookupD hc K hT he k ok d hd
  have hv' : v = venc ((AL.get m k).getD d) := hv
  rw [hr, hv']
end

theorem ret_int {a b : Int} (h : a = b) : Ending.returned (retV [.int .i64 a]) = .returned (int b) := by rw [h]; rfl
theorem ret_bool {a b : Bool} (h : a = b) : Ending.returned (retV [.bool a]) = .returned (.bool b) := by rw [h]; rfl
end Go.Fx
