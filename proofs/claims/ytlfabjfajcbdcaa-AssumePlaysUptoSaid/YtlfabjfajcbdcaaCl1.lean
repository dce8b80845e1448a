/-
  Chapter 27: acts as arguments.
-/
import Derived.Test.YtlfabjfajcbdcaaCl0
import Derived.Test.YtlfabjfajcbdcaaAs19
namespace Go.Fx.Ytlfabjfajcbdcaa
open Go Go.ChangeShapes Go.WideShapes Go.ChangeAt Go.RowKit Go.Fx Go.Proofs Go.Proofs.Ytlfabjfajcbdcaa
set_option linter.unusedVariables false
set_option maxRecDepth 20000
theorem oAct : Opens Try.prog 46 tyAct (fun n a => I64 a.what ∧ I64 a.module ∧ a.facts.length + 1 ≤ n ∧ ∀ x ∈ a.facts, I64 x.kind ∧ I64 x.n ∧ I64 x.version) := by
  refine Opens.via (ok := fun n (p : Int × Int × List Fact) => I64 p.1 ∧ I64 p.2.1 ∧ p.2.2.length + 1 ≤ n ∧ ∀ x ∈ p.2.2, I64 x.kind ∧ I64 x.n ∧ I64 x.version) (Opens.struct ?_ Try.underlying46 (by kernel_rfl)) (fun a : Act => (a.what, a.module, a.facts)) (fun p => Act.mk p.1 p.2.1 p.2.2) (fun _ => rfl)
  refine OpensFs.cons (oka := fun _ (x : Int) => I64 x) (okb := fun n (p : Int × List Fact) => I64 p.1 ∧ p.2.length + 1 ≤ n ∧ ∀ x ∈ p.2, I64 x.kind ∧ I64 x.n ∧ I64 x.version) oInt rfl ?_
  refine OpensFs.cons (oka := fun _ (x : Int) => I64 x) (okb := fun n (xs : List Fact) => xs.length + 1 ≤ n ∧ ∀ x ∈ xs, I64 x.kind ∧ I64 x.n ∧ I64 x.version) oInt rfl ?_
  exact OpensFs.one oFacts rfl
theorem oActs : Opens Try.prog 41 (Ty.slice tyAct) (fun n l => l.length + 1 ≤ n ∧ ∀ a ∈ l, I64 a.what ∧ I64 a.module ∧ a.facts.length + 1 ≤ n ∧ ∀ x ∈ a.facts, I64 x.kind ∧ I64 x.n ∧ I64 x.version) := Opens.slice oAct Try.underlying41 (by kernel_rfl) (by decide)
end Go.Fx.Ytlfabjfajcbdcaa
