/-
  Chapter 14: what the closings with calls want.
-/
import Derived.Test.YtdkjoljcffkpkaaDoorClP
import Derived.Test.YtdkjoljcffkpkaaDoorPrF
namespace Go.Fx.YtdkjoljcffkpkaaDoor
open Go Go.ChangeShapes Go.WideShapes Go.ChangeAt Go.RowKit Go.Fx Go.Proofs Go.Proofs.YtdkjoljcffkpkaaDoor
set_option linter.unusedVariables false
set_option maxRecDepth 20000

structure I3 (x : Act) : Prop where
  h : I64 x.what ∧ I64 x.a ∧ I64 x.n
theorem I3.ok {x : Act} (h : I64 x.what ∧ I64 x.a ∧ I64 x.n) : x.Ok := ⟨h.1, h.2.1, h.2.2⟩
theorem oAct0 : Opens Tryd.prog 32 tyAct (fun _ x => I64 x.what ∧ I64 x.a ∧ I64 x.n) :=
  Opens.via (Opens.struct (OpensFs.cons (f := _) oInt rfl (OpensFs.cons oInt rfl (OpensFs.one oInt rfl))) Tryd.underlying32 (by kernel_rfl)) _ (fun p => ⟨p.1, p.2.1, p.2.2⟩) (fun _ => rfl)
theorem oActs : Opens Tryd.prog 24 (Ty.slice tyAct) (fun n xs => xs.length + 1 ≤ n ∧ ∀ x ∈ xs, I64 x.what ∧ I64 x.a ∧ I64 x.n) := Opens.slice oAct0 Tryd.underlying24 (by kernel_rfl) (by decide)
end Go.Fx.YtdkjoljcffkpkaaDoor
