/-
  DERIVED. GIVEN WITH THE SEED: THE CARDS: each row of YtjpdhfhiimbpgaaGreatDoorRows.lean that lists a variable, with what it lists TIED to the program's text (the seventh form; the later family's looks); each row that meets fmt, with fmt's text TOLD by the authors' own Lean function (tested against real Go, not proved from fmt's source: count such statements apart). THE CARD IS WHAT COUNTS. Prove the row's statement (the work); the ties are given (YtjpdhfhiimbpgaaGreatDoorTie.lean); close each card by the builder's one call (the guide's Derived/Test/ToyasCard.lean, 'card_holds'). Laid BY PROGRAM, IN A SANDBOX (cutbox-door.mjs). By AI agents, Wed Nov 11 2026. No macro, syntax, notation, axiom, sorry.
-/
import Derived.Test.YtjpdhfhiimbpgaaGreatDoorRows
import GoSem.ClaimSeven
namespace Go.Proofs.YtjpdhfhiimbpgaaGreatDoor
namespace Rows

/-- THE TIED CARD OF 'facsimilelaw08.ShapePlays'. -/
def shapePlaysCard : Claim7 := { stood := { row := shapePlaysRow, standIns := [], harness := (true, "3122ba9102b966e9696c942faf11c2071b93e909487dc22e76addbe7fb91dcc2"), looks := false }, kinds := [], alts := [], laidByText := true, laidKinds := [.data, .data, .data], laidTests := true, laidLooks := .later }
def ShapePlaysCardSaid : Prop := Claim7.holds Tryz.pinned (.plain (OpenSpec.ofChange shapePlaysSpec)) shapePlaysCard

/-- THE TIED CARD OF 'facsimilelaw08.ShapeCanons'. -/
def shapeCanonsCard : Claim7 := { stood := { row := shapeCanonsRow, standIns := [], harness := (true, "3122ba9102b966e9696c942faf11c2071b93e909487dc22e76addbe7fb91dcc2"), looks := false }, kinds := [], alts := [], laidByText := true, laidKinds := [.data, .data, .data], laidTests := true, laidLooks := .later }
def ShapeCanonsCardSaid : Prop := Claim7.holds Tryz.pinned (.plain (OpenSpec.ofChange shapeCanonsSpec)) shapeCanonsCard

/-- THE TIED CARD OF 'facsimilelaw08.ShapeMerges'. -/
def shapeMergesCard : Claim7 := { stood := { row := shapeMergesRow, standIns := [], harness := (true, "3122ba9102b966e9696c942faf11c2071b93e909487dc22e76addbe7fb91dcc2"), looks := false }, kinds := [], alts := [], laidByText := true, laidKinds := [.data, .data, .data], laidTests := true, laidLooks := .later }
def ShapeMergesCardSaid : Prop := Claim7.holds Tryz.pinned (.plain (OpenSpec.ofChange shapeMergesSpec)) shapeMergesCard

/-- THE TIED CARD OF 'facsimilelaw08.ShapeMakes'. -/
def shapeMakesCard : Claim7 := { stood := { row := shapeMakesRow, standIns := [], harness := (true, "3122ba9102b966e9696c942faf11c2071b93e909487dc22e76addbe7fb91dcc2"), looks := false }, kinds := [], alts := [], laidByText := true, laidKinds := [.data, .data, .data], laidTests := true, laidLooks := .later }
def ShapeMakesCardSaid : Prop := Claim7.holds Tryz.pinned (.plain (OpenSpec.ofChange shapeMakesSpec)) shapeMakesCard

/-- THE TIED CARD OF 'facsimilelaw08.ShapeLooks'. -/
def shapeLooksCard : Claim7 := { stood := { row := shapeLooksRow, standIns := [], harness := (true, "3122ba9102b966e9696c942faf11c2071b93e909487dc22e76addbe7fb91dcc2"), looks := false }, kinds := [], alts := [], laidByText := true, laidKinds := [.data, .data, .data], laidTests := true, laidLooks := .later }
def ShapeLooksCardSaid : Prop := Claim7.holds Tryz.pinned (.plain (OpenSpec.ofChange shapeLooksSpec)) shapeLooksCard

/-- THE TIED CARD OF 'facsimilelaw08.ShapeAdds'. -/
def shapeAddsCard : Claim7 := { stood := { row := shapeAddsRow, standIns := [], harness := (true, "3122ba9102b966e9696c942faf11c2071b93e909487dc22e76addbe7fb91dcc2"), looks := false }, kinds := [], alts := [], laidByText := true, laidKinds := [.data, .data, .data], laidTests := true, laidLooks := .later }
def ShapeAddsCardSaid : Prop := Claim7.holds Tryz.pinned (.plain (OpenSpec.ofChange shapeAddsSpec)) shapeAddsCard

/-- THE TIED CARD OF 'facsimilelaw08.ShapeNil'. -/
def shapeNilCard : Claim7 := { stood := { row := shapeNilRow, standIns := [], harness := (true, "3122ba9102b966e9696c942faf11c2071b93e909487dc22e76addbe7fb91dcc2"), looks := false }, kinds := [], alts := [], laidByText := true, laidKinds := [.data, .data, .data], laidTests := true, laidLooks := .later }
def ShapeNilCardSaid : Prop := Claim7.holds Tryz.pinned (.plain (OpenSpec.ofChange shapeNilSpec)) shapeNilCard

/-- THE SECOND FORM's CARD OF 'facsimilelaw08.ShapePlays'. -/
def shapePlaysUptoCard : Claim7 := { stood := { row := shapePlaysUptoRow, standIns := [], harness := (true, "3122ba9102b966e9696c942faf11c2071b93e909487dc22e76addbe7fb91dcc2"), looks := false }, kinds := [], alts := [], laidByText := true, laidKinds := [.data, .data, .data], laidTests := true, laidLooks := .later }
def ShapePlaysUptoCardSaid : Prop := Claim7.holds Tryz.pinned (.plain (OpenSpec.upto shapePlaysSpec)) shapePlaysUptoCard

/-- THE SECOND FORM's CARD OF 'facsimilelaw08.ShapeCanons'. -/
def shapeCanonsUptoCard : Claim7 := { stood := { row := shapeCanonsUptoRow, standIns := [], harness := (true, "3122ba9102b966e9696c942faf11c2071b93e909487dc22e76addbe7fb91dcc2"), looks := false }, kinds := [], alts := [], laidByText := true, laidKinds := [.data, .data, .data], laidTests := true, laidLooks := .later }
def ShapeCanonsUptoCardSaid : Prop := Claim7.holds Tryz.pinned (.plain (OpenSpec.upto shapeCanonsSpec)) shapeCanonsUptoCard

/-- THE SECOND FORM's CARD OF 'facsimilelaw08.ShapeMerges'. -/
def shapeMergesUptoCard : Claim7 := { stood := { row := shapeMergesUptoRow, standIns := [], harness := (true, "3122ba9102b966e9696c942faf11c2071b93e909487dc22e76addbe7fb91dcc2"), looks := false }, kinds := [], alts := [], laidByText := true, laidKinds := [.data, .data, .data], laidTests := true, laidLooks := .later }
def ShapeMergesUptoCardSaid : Prop := Claim7.holds Tryz.pinned (.plain (OpenSpec.upto shapeMergesSpec)) shapeMergesUptoCard

/-- THE SECOND FORM's CARD OF 'facsimilelaw08.ShapeMakes'. -/
def shapeMakesUptoCard : Claim7 := { stood := { row := shapeMakesUptoRow, standIns := [], harness := (true, "3122ba9102b966e9696c942faf11c2071b93e909487dc22e76addbe7fb91dcc2"), looks := false }, kinds := [], alts := [], laidByText := true, laidKinds := [.data, .data, .data], laidTests := true, laidLooks := .later }
def ShapeMakesUptoCardSaid : Prop := Claim7.holds Tryz.pinned (.plain (OpenSpec.upto shapeMakesSpec)) shapeMakesUptoCard

/-- THE SECOND FORM's CARD OF 'facsimilelaw08.ShapeLooks'. -/
def shapeLooksUptoCard : Claim7 := { stood := { row := shapeLooksUptoRow, standIns := [], harness := (true, "3122ba9102b966e9696c942faf11c2071b93e909487dc22e76addbe7fb91dcc2"), looks := false }, kinds := [], alts := [], laidByText := true, laidKinds := [.data, .data, .data], laidTests := true, laidLooks := .later }
def ShapeLooksUptoCardSaid : Prop := Claim7.holds Tryz.pinned (.plain (OpenSpec.upto shapeLooksSpec)) shapeLooksUptoCard

/-- THE SECOND FORM's CARD OF 'facsimilelaw08.ShapeAdds'. -/
def shapeAddsUptoCard : Claim7 := { stood := { row := shapeAddsUptoRow, standIns := [], harness := (true, "3122ba9102b966e9696c942faf11c2071b93e909487dc22e76addbe7fb91dcc2"), looks := false }, kinds := [], alts := [], laidByText := true, laidKinds := [.data, .data, .data], laidTests := true, laidLooks := .later }
def ShapeAddsUptoCardSaid : Prop := Claim7.holds Tryz.pinned (.plain (OpenSpec.upto shapeAddsSpec)) shapeAddsUptoCard

/-- THE SECOND FORM's CARD OF 'facsimilelaw08.ShapeNil'. -/
def shapeNilUptoCard : Claim7 := { stood := { row := shapeNilUptoRow, standIns := [], harness := (true, "3122ba9102b966e9696c942faf11c2071b93e909487dc22e76addbe7fb91dcc2"), looks := false }, kinds := [], alts := [], laidByText := true, laidKinds := [.data, .data, .data], laidTests := true, laidLooks := .later }
def ShapeNilUptoCardSaid : Prop := Claim7.holds Tryz.pinned (.plain (OpenSpec.upto shapeNilSpec)) shapeNilUptoCard
end Rows
end Go.Proofs.YtjpdhfhiimbpgaaGreatDoor
