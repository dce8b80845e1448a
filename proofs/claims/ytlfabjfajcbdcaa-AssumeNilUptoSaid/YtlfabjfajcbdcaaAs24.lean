/-
  Chapter 27: AssumeNil, for all numbers.
-/
import Derived.Test.YtlfabjfajcbdcaaAs23
namespace Go.Fx.Ytlfabjfajcbdcaa
open Go Go.Fx Go.Proofs
theorem Nil_walk {w : World} {R : Hp} {v : Value} {xs : List Fact} (a b : Int) (hs : Sats w R []) (hv : RdS tyFact R v xs) (hmax : xs.length ≤ 1048576) :
    Calls Try.prog 6 #[int a, int b, v] w (Comes' w R [] fun v' R' L' => v' = .bool true ∧ L' = []) := by
  by_cases h : 0 ≤ a ∧ a ≤ 24 ∧ 0 ≤ b ∧ b ≤ 12
  · obtain ⟨f, rfl⟩ : ∃ f : Nat, a = f := ⟨a.toNat, by omega⟩
    obtain ⟨c, rfl⟩ : ∃ c : Nat, b = c := ⟨b.toNat, by omega⟩
    exact Nil_walk_yes (by omega) (by omega) hs hv hmax
  · exact Nil_walk_no (by omega) hs hv hmax
end Go.Fx.Ytlfabjfajcbdcaa
