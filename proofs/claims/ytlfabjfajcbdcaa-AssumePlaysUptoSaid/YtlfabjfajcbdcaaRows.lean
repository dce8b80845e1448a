/-
  No cell of these rows narrows 'for every input' (looked for: loops, veiled, ifaces, maps, wideKeys, modest, calm, conditions, laid).
  DERIVED. THE GIVEN ROWS OF THIS SEAT. 6 by the template 'for every input the law returns true; each argument reads behind the call as it read before'; 0 by the template 'total and deterministic' (their statements: YtlfabjfajcbdcaaTotals.lean).
  GIVEN WITH THE SEED: the statements are not yours to turn. If you find one false, say at which input.
  Laid BY PROGRAM, IN A SANDBOX (cutbox-rows.mjs): the forced cells as the released guide's own fill.sh prints them over the translation 25ab543d2940b96b… (all of the seat's roots in one cut). By AI agents, Wed Nov 11 2026. No macro, syntax, notation, axiom, sorry.
-/
import Derived.Test.YtlfabjfajcbdcaaChecked
import GoSem.Claim
import GoSem.ClaimJoined
import GoSem.ClaimMapViews
import Derived.JoinedTies
import Derived.KernelRfl
namespace Go.Proofs.Ytlfabjfajcbdcaa
/- THE CELL 'sum', in the pinned program and in every row, IS THE sha256 OF THE DUMP (.gsa) THAT YtlfabjfajcbdcaaProg.lean LOADS. Nothing in Lean hashes anything: it is a label: what it is worth is what the hold of that sum in a sandbox is worth. -/
noncomputable def Try.pinned : Pinned := { name := "ytlfabjfajcbdcaa", sum := "25ab543d2940b96b63b4f61bc8608db082613614c562dd1708e4eca7d0055059", checked := Try.checked }
namespace Rows
def none {H : Type} : Left H := { results := [], args := [] }

/-- 'facsimilelaw27.AssumeOrder': WHATEVER THE INPUT: true; the input reads as it did. -/
def assumeOrderSpec : ChangeSpec := { name := "assumeOrder", fn := fun _ => fun
  | [d1, d2, d3] => { results := [.lit (.bool true)], args := [d1, d2, d3] }
  | _ => none }
def assumeOrderRow : OpenClaim := { program := "ytlfabjfajcbdcaa", sum := "25ab543d2940b96b63b4f61bc8608db082613614c562dd1708e4eca7d0055059", func := "facsimile/facsimilelaw27.AssumeOrder", spec := "assumeOrder", unfollowed := true, recurses := true, plainKeys := false, apart := false }
def AssumeOrderSaid : Prop := assumeOrderRow.holds Try.pinned (OpenSpec.ofChange assumeOrderSpec)

/-- ITS FALSE NEIGHBOUR: 'it returns false'. Refute it at one input. -/
def assumeOrderWrong : ChangeSpec := { name := "assumeOrder", fn := fun _ => fun
  | [d1, d2, d3] => { results := [.lit (.bool false)], args := [d1, d2, d3] }
  | _ => none }
def AssumeOrderWrongFalsely : Prop := assumeOrderRow.holds Try.pinned (OpenSpec.ofChange assumeOrderWrong)

/-- 'facsimilelaw27.AssumeErrors': WHATEVER THE INPUT: true; the input reads as it did. -/
def assumeErrorsSpec : ChangeSpec := { name := "assumeErrors", fn := fun _ => fun
  | [d1, d2, d3] => { results := [.lit (.bool true)], args := [d1, d2, d3] }
  | _ => none }
def assumeErrorsRow : OpenClaim := { program := "ytlfabjfajcbdcaa", sum := "25ab543d2940b96b63b4f61bc8608db082613614c562dd1708e4eca7d0055059", func := "facsimile/facsimilelaw27.AssumeErrors", spec := "assumeErrors", unfollowed := true, recurses := true, plainKeys := false, apart := false }
def AssumeErrorsSaid : Prop := assumeErrorsRow.holds Try.pinned (OpenSpec.ofChange assumeErrorsSpec)

/-- ITS FALSE NEIGHBOUR: 'it returns false'. Refute it at one input. -/
def assumeErrorsWrong : ChangeSpec := { name := "assumeErrors", fn := fun _ => fun
  | [d1, d2, d3] => { results := [.lit (.bool false)], args := [d1, d2, d3] }
  | _ => none }
def AssumeErrorsWrongFalsely : Prop := assumeErrorsRow.holds Try.pinned (OpenSpec.ofChange assumeErrorsWrong)

/-- 'facsimilelaw27.AssumePlays': WHATEVER THE INPUT: true; the input reads as it did. -/
def assumePlaysSpec : ChangeSpec := { name := "assumePlays", fn := fun _ => fun
  | [d1, d2, d3] => { results := [.lit (.bool true)], args := [d1, d2, d3] }
  | _ => none }
def assumePlaysRow : OpenClaim := { program := "ytlfabjfajcbdcaa", sum := "25ab543d2940b96b63b4f61bc8608db082613614c562dd1708e4eca7d0055059", func := "facsimile/facsimilelaw27.AssumePlays", spec := "assumePlays", unfollowed := true, recurses := true, plainKeys := false, apart := false }
def AssumePlaysSaid : Prop := assumePlaysRow.holds Try.pinned (OpenSpec.ofChange assumePlaysSpec)

/-- ITS FALSE NEIGHBOUR: 'it returns false'. Refute it at one input. -/
def assumePlaysWrong : ChangeSpec := { name := "assumePlays", fn := fun _ => fun
  | [d1, d2, d3] => { results := [.lit (.bool false)], args := [d1, d2, d3] }
  | _ => none }
def AssumePlaysWrongFalsely : Prop := assumePlaysRow.holds Try.pinned (OpenSpec.ofChange assumePlaysWrong)

/-- 'facsimilelaw27.AssumeNil': WHATEVER THE INPUT: true; the input reads as it did. -/
def assumeNilSpec : ChangeSpec := { name := "assumeNil", fn := fun _ => fun
  | [d1, d2, d3] => { results := [.lit (.bool true)], args := [d1, d2, d3] }
  | _ => none }
def assumeNilRow : OpenClaim := { program := "ytlfabjfajcbdcaa", sum := "25ab543d2940b96b63b4f61bc8608db082613614c562dd1708e4eca7d0055059", func := "facsimile/facsimilelaw27.AssumeNil", spec := "assumeNil", unfollowed := true, recurses := true, plainKeys := false, apart := false }
def AssumeNilSaid : Prop := assumeNilRow.holds Try.pinned (OpenSpec.ofChange assumeNilSpec)

/-- ITS FALSE NEIGHBOUR: 'it returns false'. Refute it at one input. -/
def assumeNilWrong : ChangeSpec := { name := "assumeNil", fn := fun _ => fun
  | [d1, d2, d3] => { results := [.lit (.bool false)], args := [d1, d2, d3] }
  | _ => none }
def AssumeNilWrongFalsely : Prop := assumeNilRow.holds Try.pinned (OpenSpec.ofChange assumeNilWrong)

/-- 'facsimilelaw27.AssumeRemoved': WHATEVER THE INPUT: true; the input reads as it did. -/
def assumeRemovedSpec : ChangeSpec := { name := "assumeRemoved", fn := fun _ => fun
  | [d1, d2] => { results := [.lit (.bool true)], args := [d1, d2] }
  | _ => none }
def assumeRemovedRow : OpenClaim := { program := "ytlfabjfajcbdcaa", sum := "25ab543d2940b96b63b4f61bc8608db082613614c562dd1708e4eca7d0055059", func := "facsimile/facsimilelaw27.AssumeRemoved", spec := "assumeRemoved", unfollowed := true, recurses := true, plainKeys := false, apart := false }
def AssumeRemovedSaid : Prop := assumeRemovedRow.holds Try.pinned (OpenSpec.ofChange assumeRemovedSpec)

/-- ITS FALSE NEIGHBOUR: 'it returns false'. Refute it at one input. -/
def assumeRemovedWrong : ChangeSpec := { name := "assumeRemoved", fn := fun _ => fun
  | [d1, d2] => { results := [.lit (.bool false)], args := [d1, d2] }
  | _ => none }
def AssumeRemovedWrongFalsely : Prop := assumeRemovedRow.holds Try.pinned (OpenSpec.ofChange assumeRemovedWrong)

/-- 'facsimilelaw27.AssumeBreaks': WHATEVER THE INPUT: true; the input reads as it did. -/
def assumeBreaksSpec : ChangeSpec := { name := "assumeBreaks", fn := fun _ => fun
  | [d1, d2, d3] => { results := [.lit (.bool true)], args := [d1, d2, d3] }
  | _ => none }
def assumeBreaksRow : OpenClaim := { program := "ytlfabjfajcbdcaa", sum := "25ab543d2940b96b63b4f61bc8608db082613614c562dd1708e4eca7d0055059", func := "facsimile/facsimilelaw27.AssumeBreaks", spec := "assumeBreaks", unfollowed := true, recurses := true, plainKeys := false, apart := false }
def AssumeBreaksSaid : Prop := assumeBreaksRow.holds Try.pinned (OpenSpec.ofChange assumeBreaksSpec)

/-- ITS FALSE NEIGHBOUR: 'it returns false'. Refute it at one input. -/
def assumeBreaksWrong : ChangeSpec := { name := "assumeBreaks", fn := fun _ => fun
  | [d1, d2, d3] => { results := [.lit (.bool false)], args := [d1, d2, d3] }
  | _ => none }
def AssumeBreaksWrongFalsely : Prop := assumeBreaksRow.holds Try.pinned (OpenSpec.ofChange assumeBreaksWrong)

/- THE SECOND FORM. 'bulk': how many values and letters a reading holds, each counted each time it is reached (what is shared counts as often as it is met; a slice's spare places count too). A statement '..UptoSaid' is the law's where the arguments, and the package variables that the reading takes, are together of bulk at most 1048576: NARROWER than '..Said'. Prove '..Said' where nothing that the law and all that it calls make is longer than what came in: it says more and counts as full. Else prove '..UptoSaid'. A law counts once. -/
mutual
def uptoBulk {H : Type} : DataW H → Nat
  | .lit (.string bytes) => bytes.length + 1
  | .lit _ => 1
  | .nil => 1
  | .ptr d => uptoBulk d + 1
  | .slice elems spare => uptoBulkAll elems + uptoBulkAll spare + 1
  | .agg parts => uptoBulkAll parts + 1
  | .iface _ d => uptoBulk d + 1
  | .map entries => uptoBulkEntries entries + 1
  | .held _ => 1
def uptoBulkAll {H : Type} : List (DataW H) → Nat
  | [] => 0
  | d :: r => uptoBulk d + uptoBulkAll r
def uptoBulkEntries {H : Type} : List (Lit × DataW H) → Nat
  | [] => 0
  | x :: r => uptoBulkEntry x + uptoBulkEntries r
def uptoBulkEntry {H : Type} : Lit × DataW H → Nat
  | (.string bytes, d) => bytes.length + uptoBulk d + 1
  | (_, d) => uptoBulk d + 1
 end
def uptoSmall : (H : Type) → List (DataW H) → Bool := fun _ ds => decide (uptoBulkAll ds ≤ 1048576)
def OpenSpec.upto (s : _root_.Go.ChangeSpec) : _root_.Go.OpenSpec := { _root_.Go.OpenSpec.ofChange s with cond := some uptoSmall }

/-- 'facsimilelaw27.AssumeOrder', WHERE WHAT IT READS IS OF BULK AT MOST 1048576: true; the input reads as it did. -/
def assumeOrderUptoRow : OpenClaim := { program := "ytlfabjfajcbdcaa", sum := "25ab543d2940b96b63b4f61bc8608db082613614c562dd1708e4eca7d0055059", func := "facsimile/facsimilelaw27.AssumeOrder", spec := "assumeOrder", unfollowed := true, recurses := true, plainKeys := false, apart := false, narrowed := true }
def AssumeOrderUptoSaid : Prop := assumeOrderUptoRow.holds Try.pinned (OpenSpec.upto assumeOrderSpec)

/-- 'facsimilelaw27.AssumeErrors', WHERE WHAT IT READS IS OF BULK AT MOST 1048576: true; the input reads as it did. -/
def assumeErrorsUptoRow : OpenClaim := { program := "ytlfabjfajcbdcaa", sum := "25ab543d2940b96b63b4f61bc8608db082613614c562dd1708e4eca7d0055059", func := "facsimile/facsimilelaw27.AssumeErrors", spec := "assumeErrors", unfollowed := true, recurses := true, plainKeys := false, apart := false, narrowed := true }
def AssumeErrorsUptoSaid : Prop := assumeErrorsUptoRow.holds Try.pinned (OpenSpec.upto assumeErrorsSpec)

/-- 'facsimilelaw27.AssumePlays', WHERE WHAT IT READS IS OF BULK AT MOST 1048576: true; the input reads as it did. -/
def assumePlaysUptoRow : OpenClaim := { program := "ytlfabjfajcbdcaa", sum := "25ab543d2940b96b63b4f61bc8608db082613614c562dd1708e4eca7d0055059", func := "facsimile/facsimilelaw27.AssumePlays", spec := "assumePlays", unfollowed := true, recurses := true, plainKeys := false, apart := false, narrowed := true }
def AssumePlaysUptoSaid : Prop := assumePlaysUptoRow.holds Try.pinned (OpenSpec.upto assumePlaysSpec)

/-- 'facsimilelaw27.AssumeNil', WHERE WHAT IT READS IS OF BULK AT MOST 1048576: true; the input reads as it did. -/
def assumeNilUptoRow : OpenClaim := { program := "ytlfabjfajcbdcaa", sum := "25ab543d2940b96b63b4f61bc8608db082613614c562dd1708e4eca7d0055059", func := "facsimile/facsimilelaw27.AssumeNil", spec := "assumeNil", unfollowed := true, recurses := true, plainKeys := false, apart := false, narrowed := true }
def AssumeNilUptoSaid : Prop := assumeNilUptoRow.holds Try.pinned (OpenSpec.upto assumeNilSpec)

/-- 'facsimilelaw27.AssumeRemoved', WHERE WHAT IT READS IS OF BULK AT MOST 1048576: true; the input reads as it did. -/
def assumeRemovedUptoRow : OpenClaim := { program := "ytlfabjfajcbdcaa", sum := "25ab543d2940b96b63b4f61bc8608db082613614c562dd1708e4eca7d0055059", func := "facsimile/facsimilelaw27.AssumeRemoved", spec := "assumeRemoved", unfollowed := true, recurses := true, plainKeys := false, apart := false, narrowed := true }
def AssumeRemovedUptoSaid : Prop := assumeRemovedUptoRow.holds Try.pinned (OpenSpec.upto assumeRemovedSpec)

/-- 'facsimilelaw27.AssumeBreaks', WHERE WHAT IT READS IS OF BULK AT MOST 1048576: true; the input reads as it did. -/
def assumeBreaksUptoRow : OpenClaim := { program := "ytlfabjfajcbdcaa", sum := "25ab543d2940b96b63b4f61bc8608db082613614c562dd1708e4eca7d0055059", func := "facsimile/facsimilelaw27.AssumeBreaks", spec := "assumeBreaks", unfollowed := true, recurses := true, plainKeys := false, apart := false, narrowed := true }
def AssumeBreaksUptoSaid : Prop := assumeBreaksUptoRow.holds Try.pinned (OpenSpec.upto assumeBreaksSpec)

end Rows
end Go.Proofs.Ytlfabjfajcbdcaa
