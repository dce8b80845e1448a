/-
  DERIVED. GIVEN WITH THE SEED: THE CARDS: each row of YtdkjoljcffkpkaaDoorRows.lean that lists a variable, with what it lists TIED to the program's text (the seventh form; the later family's looks); each row that meets fmt, with fmt's text TOLD by the authors' own Lean function (tested against real Go, not proved from fmt's source: count such statements apart). THE CARD IS WHAT COUNTS. Prove the row's statement (the work); the ties are given (YtdkjoljcffkpkaaDoorTie.lean); close each card by the builder's one call (the guide's Derived/Test/ToyasCard.lean, 'card_holds'). Laid BY PROGRAM, IN A SANDBOX (cutbox-door.mjs). By AI agents, Wed Nov 11 2026. No macro, syntax, notation, axiom, sorry.
-/
import Derived.Test.YtdkjoljcffkpkaaDoorRows
import GoSem.ClaimSeven
namespace Go.Proofs.YtdkjoljcffkpkaaDoor
namespace Rows

/-- THE TIED CARD OF 'facsimilelaw14.ProfilePlays'. -/
def profilePlaysCard : Claim7 := { stood := { row := profilePlaysRow, standIns := [], harness := (true, "214a606fd362a95756fce573e4dadf0fde7374100124dde3a52edb91c4bfb791"), looks := true }, kinds := [], alts := [], laidByText := true, laidKinds := [.data, .data, .data], laidTests := true, laidLooks := .later }
def ProfilePlaysCardSaid : Prop := Claim7.holds Tryd.pinned (.plain (OpenSpec.ofChange profilePlaysSpec)) profilePlaysCard

/-- THE TIED CARD OF 'facsimilelaw14.ProfileSteps'. -/
def profileStepsCard : Claim7 := { stood := { row := profileStepsRow, standIns := [], harness := (true, "214a606fd362a95756fce573e4dadf0fde7374100124dde3a52edb91c4bfb791"), looks := true }, kinds := [], alts := [], laidByText := true, laidKinds := [.data, .data, .data], laidTests := true, laidLooks := .later }
def ProfileStepsCardSaid : Prop := Claim7.holds Tryd.pinned (.plain (OpenSpec.ofChange profileStepsSpec)) profileStepsCard

/-- THE TIED CARD OF 'facsimilelaw14.ProfileApart'. -/
def profileApartCard : Claim7 := { stood := { row := profileApartRow, standIns := [], harness := (true, "214a606fd362a95756fce573e4dadf0fde7374100124dde3a52edb91c4bfb791"), looks := true }, kinds := [], alts := [], laidByText := true, laidKinds := [.data, .data, .data], laidTests := true, laidLooks := .later }
def ProfileApartCardSaid : Prop := Claim7.holds Tryd.pinned (.plain (OpenSpec.ofChange profileApartSpec)) profileApartCard

/-- THE TIED CARD OF 'facsimilelaw14.ProfileWarms'. -/
def profileWarmsCard : Claim7 := { stood := { row := profileWarmsRow, standIns := [], harness := (true, "214a606fd362a95756fce573e4dadf0fde7374100124dde3a52edb91c4bfb791"), looks := true }, kinds := [], alts := [], laidByText := true, laidKinds := [.data, .data, .data], laidTests := true, laidLooks := .later }
def ProfileWarmsCardSaid : Prop := Claim7.holds Tryd.pinned (.plain (OpenSpec.ofChange profileWarmsSpec)) profileWarmsCard

/-- THE TIED CARD OF 'facsimilelaw14.ProfileCold'. -/
def profileColdCard : Claim7 := { stood := { row := profileColdRow, standIns := [], harness := (true, "214a606fd362a95756fce573e4dadf0fde7374100124dde3a52edb91c4bfb791"), looks := true }, kinds := [], alts := [], laidByText := true, laidKinds := [.data, .data, .data], laidTests := true, laidLooks := .later }
def ProfileColdCardSaid : Prop := Claim7.holds Tryd.pinned (.plain (OpenSpec.ofChange profileColdSpec)) profileColdCard

/-- THE TIED CARD OF 'facsimilelaw14.ProfileNew'. -/
def profileNewCard : Claim7 := { stood := { row := profileNewRow, standIns := [], harness := (true, "214a606fd362a95756fce573e4dadf0fde7374100124dde3a52edb91c4bfb791"), looks := true }, kinds := [], alts := [], laidByText := true, laidKinds := [.data, .data, .data], laidTests := true, laidLooks := .later }
def ProfileNewCardSaid : Prop := Claim7.holds Tryd.pinned (.plain (OpenSpec.ofChange profileNewSpec)) profileNewCard

/-- THE TIED CARD OF 'facsimilelaw14.ProfileOwn'. -/
def profileOwnCard : Claim7 := { stood := { row := profileOwnRow, standIns := [], harness := (true, "214a606fd362a95756fce573e4dadf0fde7374100124dde3a52edb91c4bfb791"), looks := true }, kinds := [], alts := [], laidByText := true, laidKinds := [.data, .data, .data], laidTests := true, laidLooks := .later }
def ProfileOwnCardSaid : Prop := Claim7.holds Tryd.pinned (.plain (OpenSpec.ofChange profileOwnSpec)) profileOwnCard

/-- THE SECOND FORM's CARD OF 'facsimilelaw14.ProfilePlays'. -/
def profilePlaysUptoCard : Claim7 := { stood := { row := profilePlaysUptoRow, standIns := [], harness := (true, "214a606fd362a95756fce573e4dadf0fde7374100124dde3a52edb91c4bfb791"), looks := true }, kinds := [], alts := [], laidByText := true, laidKinds := [.data, .data, .data], laidTests := true, laidLooks := .later }
def ProfilePlaysUptoCardSaid : Prop := Claim7.holds Tryd.pinned (.plain (OpenSpec.upto profilePlaysSpec)) profilePlaysUptoCard

/-- THE SECOND FORM's CARD OF 'facsimilelaw14.ProfileSteps'. -/
def profileStepsUptoCard : Claim7 := { stood := { row := profileStepsUptoRow, standIns := [], harness := (true, "214a606fd362a95756fce573e4dadf0fde7374100124dde3a52edb91c4bfb791"), looks := true }, kinds := [], alts := [], laidByText := true, laidKinds := [.data, .data, .data], laidTests := true, laidLooks := .later }
def ProfileStepsUptoCardSaid : Prop := Claim7.holds Tryd.pinned (.plain (OpenSpec.upto profileStepsSpec)) profileStepsUptoCard

/-- THE SECOND FORM's CARD OF 'facsimilelaw14.ProfileApart'. -/
def profileApartUptoCard : Claim7 := { stood := { row := profileApartUptoRow, standIns := [], harness := (true, "214a606fd362a95756fce573e4dadf0fde7374100124dde3a52edb91c4bfb791"), looks := true }, kinds := [], alts := [], laidByText := true, laidKinds := [.data, .data, .data], laidTests := true, laidLooks := .later }
def ProfileApartUptoCardSaid : Prop := Claim7.holds Tryd.pinned (.plain (OpenSpec.upto profileApartSpec)) profileApartUptoCard

/-- THE SECOND FORM's CARD OF 'facsimilelaw14.ProfileWarms'. -/
def profileWarmsUptoCard : Claim7 := { stood := { row := profileWarmsUptoRow, standIns := [], harness := (true, "214a606fd362a95756fce573e4dadf0fde7374100124dde3a52edb91c4bfb791"), looks := true }, kinds := [], alts := [], laidByText := true, laidKinds := [.data, .data, .data], laidTests := true, laidLooks := .later }
def ProfileWarmsUptoCardSaid : Prop := Claim7.holds Tryd.pinned (.plain (OpenSpec.upto profileWarmsSpec)) profileWarmsUptoCard

/-- THE SECOND FORM's CARD OF 'facsimilelaw14.ProfileCold'. -/
def profileColdUptoCard : Claim7 := { stood := { row := profileColdUptoRow, standIns := [], harness := (true, "214a606fd362a95756fce573e4dadf0fde7374100124dde3a52edb91c4bfb791"), looks := true }, kinds := [], alts := [], laidByText := true, laidKinds := [.data, .data, .data], laidTests := true, laidLooks := .later }
def ProfileColdUptoCardSaid : Prop := Claim7.holds Tryd.pinned (.plain (OpenSpec.upto profileColdSpec)) profileColdUptoCard

/-- THE SECOND FORM's CARD OF 'facsimilelaw14.ProfileNew'. -/
def profileNewUptoCard : Claim7 := { stood := { row := profileNewUptoRow, standIns := [], harness := (true, "214a606fd362a95756fce573e4dadf0fde7374100124dde3a52edb91c4bfb791"), looks := true }, kinds := [], alts := [], laidByText := true, laidKinds := [.data, .data, .data], laidTests := true, laidLooks := .later }
def ProfileNewUptoCardSaid : Prop := Claim7.holds Tryd.pinned (.plain (OpenSpec.upto profileNewSpec)) profileNewUptoCard

/-- THE SECOND FORM's CARD OF 'facsimilelaw14.ProfileOwn'. -/
def profileOwnUptoCard : Claim7 := { stood := { row := profileOwnUptoRow, standIns := [], harness := (true, "214a606fd362a95756fce573e4dadf0fde7374100124dde3a52edb91c4bfb791"), looks := true }, kinds := [], alts := [], laidByText := true, laidKinds := [.data, .data, .data], laidTests := true, laidLooks := .later }
def ProfileOwnUptoCardSaid : Prop := Claim7.holds Tryd.pinned (.plain (OpenSpec.upto profileOwnSpec)) profileOwnUptoCard
end Rows
end Go.Proofs.YtdkjoljcffkpkaaDoor
