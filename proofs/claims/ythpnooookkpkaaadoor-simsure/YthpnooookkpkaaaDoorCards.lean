/-
  DERIVED. GIVEN WITH THE SEED: THE CARDS: each row of YthpnooookkpkaaaDoorRows.lean that lists a variable, with what it lists TIED to the program's text (the seventh form; the later family's looks); each row that meets fmt, with fmt's text TOLD by the authors' own Lean function (tested against real Go, not proved from fmt's source: count such statements apart). THE CARD IS WHAT COUNTS. Prove the row's statement (the work); the ties are given (YthpnooookkpkaaaDoorTie.lean); close each card by the builder's one call (the guide's Derived/Test/ToyasCard.lean, 'card_holds'). Laid BY PROGRAM, IN A SANDBOX (cutbox-door.mjs). By AI agents, Wed Nov 11 2026. No macro, syntax, notation, axiom, sorry.
-/
import Derived.Test.YthpnooookkpkaaaDoorRows
import GoSem.ClaimSeven
namespace Go.Proofs.YthpnooookkpkaaaDoor
namespace Rows

/-- THE TIED CARD OF 'inquestlaw07.SimSure'. -/
def simSureCard : Claim7 := { stood := { row := simSureRow, standIns := [], harness := (true, "e5fcaca1acc559e9ab5810f4519fe7300a43fef1417bd23a82be94067e1f5739"), looks := false }, kinds := [], alts := [], laidByText := true, laidKinds := [.data, .pinned], laidTests := true, laidLooks := .later }
def SimSureCardSaid : Prop := Claim7.holds Tryd.pinned (.plain (OpenSpec.ofChange simSureSpec)) simSureCard

/-- THE TIED CARD OF 'inquestlaw07.SimTells'. -/
def simTellsCard : Claim7 := { stood := { row := simTellsRow, standIns := [], harness := (true, "e5fcaca1acc559e9ab5810f4519fe7300a43fef1417bd23a82be94067e1f5739"), looks := false }, kinds := [], alts := [], laidByText := true, laidKinds := [.data, .pinned], laidTests := true, laidLooks := .later }
def SimTellsCardSaid : Prop := Claim7.holds Tryd.pinned (.plain (OpenSpec.ofChange simTellsSpec)) simTellsCard

/-- THE TIED CARD OF 'inquestlaw08.LoopTells'. -/
def loopTellsCard : Claim7 := { stood := { row := loopTellsRow, standIns := [], harness := (true, "e5fcaca1acc559e9ab5810f4519fe7300a43fef1417bd23a82be94067e1f5739"), looks := false }, kinds := [], alts := [], laidByText := true, laidKinds := [.data, .pinned], laidTests := true, laidLooks := .later }
def LoopTellsCardSaid : Prop := Claim7.holds Tryd.pinned (.plain (OpenSpec.ofChange loopTellsSpec)) loopTellsCard

/-- THE TIED CARD OF 'inquestlaw08.LoopCuts'. -/
def loopCutsCard : Claim7 := { stood := { row := loopCutsRow, standIns := [], harness := (true, "e5fcaca1acc559e9ab5810f4519fe7300a43fef1417bd23a82be94067e1f5739"), looks := false }, kinds := [], alts := [], laidByText := true, laidKinds := [.data, .pinned], laidTests := true, laidLooks := .later }
def LoopCutsCardSaid : Prop := Claim7.holds Tryd.pinned (.plain (OpenSpec.ofChange loopCutsSpec)) loopCutsCard

/-- THE TIED CARD OF 'inquestlaw07.SimMany'. -/
def simManyCard : Claim7 := { stood := { row := simManyRow, standIns := [], harness := (true, "e5fcaca1acc559e9ab5810f4519fe7300a43fef1417bd23a82be94067e1f5739"), looks := false }, kinds := [], alts := [], laidByText := true, laidKinds := [.data, .pinned], laidTests := true, laidLooks := .later }
def SimManyCardSaid : Prop := Claim7.holds Tryd.pinned (.plain (OpenSpec.ofChange simManySpec)) simManyCard

/-- THE TIED CARD OF 'inquestlaw34.ShrinkBits'. -/
def shrinkBitsCard : Claim7 := { stood := { row := shrinkBitsRow, standIns := [], harness := (true, "e5fcaca1acc559e9ab5810f4519fe7300a43fef1417bd23a82be94067e1f5739"), looks := false }, kinds := [], alts := [], laidByText := true, laidKinds := [.data, .pinned], laidTests := true, laidLooks := .later }
def ShrinkBitsCardSaid : Prop := Claim7.holds Tryd.pinned (.plain (OpenSpec.ofChange shrinkBitsSpec)) shrinkBitsCard

/-- THE TIED CARD OF 'inquestlaw34.ShrinkFrames'. -/
def shrinkFramesCard : Claim7 := { stood := { row := shrinkFramesRow, standIns := [], harness := (true, "e5fcaca1acc559e9ab5810f4519fe7300a43fef1417bd23a82be94067e1f5739"), looks := false }, kinds := [], alts := [], laidByText := true, laidKinds := [.data, .pinned], laidTests := true, laidLooks := .later }
def ShrinkFramesCardSaid : Prop := Claim7.holds Tryd.pinned (.plain (OpenSpec.ofChange shrinkFramesSpec)) shrinkFramesCard

/-- THE TIED CARD OF 'inquestlaw34.ShrinkRuns'. -/
def shrinkRunsCard : Claim7 := { stood := { row := shrinkRunsRow, standIns := [], harness := (true, "e5fcaca1acc559e9ab5810f4519fe7300a43fef1417bd23a82be94067e1f5739"), looks := false }, kinds := [], alts := [], laidByText := true, laidKinds := [.data, .pinned], laidTests := true, laidLooks := .later }
def ShrinkRunsCardSaid : Prop := Claim7.holds Tryd.pinned (.plain (OpenSpec.ofChange shrinkRunsSpec)) shrinkRunsCard

/-- THE TIED CARD OF 'inquestlaw18.SliceCloses'. -/
def sliceClosesCard : Claim7 := { stood := { row := sliceClosesRow, standIns := [], harness := (true, "e5fcaca1acc559e9ab5810f4519fe7300a43fef1417bd23a82be94067e1f5739"), looks := false }, kinds := [], alts := [], laidByText := true, laidKinds := [.data, .pinned], laidTests := true, laidLooks := .later }
def SliceClosesCardSaid : Prop := Claim7.holds Tryd.pinned (.plain (OpenSpec.ofChange sliceClosesSpec)) sliceClosesCard

/-- THE TIED CARD OF 'inquestlaw18.SliceHolds'. -/
def sliceHoldsCard : Claim7 := { stood := { row := sliceHoldsRow, standIns := [], harness := (true, "e5fcaca1acc559e9ab5810f4519fe7300a43fef1417bd23a82be94067e1f5739"), looks := false }, kinds := [], alts := [], laidByText := true, laidKinds := [.data, .pinned], laidTests := true, laidLooks := .later }
def SliceHoldsCardSaid : Prop := Claim7.holds Tryd.pinned (.plain (OpenSpec.ofChange sliceHoldsSpec)) sliceHoldsCard

/-- THE SECOND FORM's CARD OF 'inquestlaw07.SimSure'. -/
def simSureUptoCard : Claim7 := { stood := { row := simSureUptoRow, standIns := [], harness := (true, "e5fcaca1acc559e9ab5810f4519fe7300a43fef1417bd23a82be94067e1f5739"), looks := false }, kinds := [], alts := [], laidByText := true, laidKinds := [.data, .pinned], laidTests := true, laidLooks := .later }
def SimSureUptoCardSaid : Prop := Claim7.holds Tryd.pinned (.plain (OpenSpec.upto simSureSpec)) simSureUptoCard

/-- THE SECOND FORM's CARD OF 'inquestlaw07.SimTells'. -/
def simTellsUptoCard : Claim7 := { stood := { row := simTellsUptoRow, standIns := [], harness := (true, "e5fcaca1acc559e9ab5810f4519fe7300a43fef1417bd23a82be94067e1f5739"), looks := false }, kinds := [], alts := [], laidByText := true, laidKinds := [.data, .pinned], laidTests := true, laidLooks := .later }
def SimTellsUptoCardSaid : Prop := Claim7.holds Tryd.pinned (.plain (OpenSpec.upto simTellsSpec)) simTellsUptoCard

/-- THE SECOND FORM's CARD OF 'inquestlaw08.LoopTells'. -/
def loopTellsUptoCard : Claim7 := { stood := { row := loopTellsUptoRow, standIns := [], harness := (true, "e5fcaca1acc559e9ab5810f4519fe7300a43fef1417bd23a82be94067e1f5739"), looks := false }, kinds := [], alts := [], laidByText := true, laidKinds := [.data, .pinned], laidTests := true, laidLooks := .later }
def LoopTellsUptoCardSaid : Prop := Claim7.holds Tryd.pinned (.plain (OpenSpec.upto loopTellsSpec)) loopTellsUptoCard

/-- THE SECOND FORM's CARD OF 'inquestlaw08.LoopCuts'. -/
def loopCutsUptoCard : Claim7 := { stood := { row := loopCutsUptoRow, standIns := [], harness := (true, "e5fcaca1acc559e9ab5810f4519fe7300a43fef1417bd23a82be94067e1f5739"), looks := false }, kinds := [], alts := [], laidByText := true, laidKinds := [.data, .pinned], laidTests := true, laidLooks := .later }
def LoopCutsUptoCardSaid : Prop := Claim7.holds Tryd.pinned (.plain (OpenSpec.upto loopCutsSpec)) loopCutsUptoCard

/-- THE SECOND FORM's CARD OF 'inquestlaw07.SimMany'. -/
def simManyUptoCard : Claim7 := { stood := { row := simManyUptoRow, standIns := [], harness := (true, "e5fcaca1acc559e9ab5810f4519fe7300a43fef1417bd23a82be94067e1f5739"), looks := false }, kinds := [], alts := [], laidByText := true, laidKinds := [.data, .pinned], laidTests := true, laidLooks := .later }
def SimManyUptoCardSaid : Prop := Claim7.holds Tryd.pinned (.plain (OpenSpec.upto simManySpec)) simManyUptoCard

/-- THE SECOND FORM's CARD OF 'inquestlaw34.ShrinkBits'. -/
def shrinkBitsUptoCard : Claim7 := { stood := { row := shrinkBitsUptoRow, standIns := [], harness := (true, "e5fcaca1acc559e9ab5810f4519fe7300a43fef1417bd23a82be94067e1f5739"), looks := false }, kinds := [], alts := [], laidByText := true, laidKinds := [.data, .pinned], laidTests := true, laidLooks := .later }
def ShrinkBitsUptoCardSaid : Prop := Claim7.holds Tryd.pinned (.plain (OpenSpec.upto shrinkBitsSpec)) shrinkBitsUptoCard

/-- THE SECOND FORM's CARD OF 'inquestlaw34.ShrinkFrames'. -/
def shrinkFramesUptoCard : Claim7 := { stood := { row := shrinkFramesUptoRow, standIns := [], harness := (true, "e5fcaca1acc559e9ab5810f4519fe7300a43fef1417bd23a82be94067e1f5739"), looks := false }, kinds := [], alts := [], laidByText := true, laidKinds := [.data, .pinned], laidTests := true, laidLooks := .later }
def ShrinkFramesUptoCardSaid : Prop := Claim7.holds Tryd.pinned (.plain (OpenSpec.upto shrinkFramesSpec)) shrinkFramesUptoCard

/-- THE SECOND FORM's CARD OF 'inquestlaw34.ShrinkRuns'. -/
def shrinkRunsUptoCard : Claim7 := { stood := { row := shrinkRunsUptoRow, standIns := [], harness := (true, "e5fcaca1acc559e9ab5810f4519fe7300a43fef1417bd23a82be94067e1f5739"), looks := false }, kinds := [], alts := [], laidByText := true, laidKinds := [.data, .pinned], laidTests := true, laidLooks := .later }
def ShrinkRunsUptoCardSaid : Prop := Claim7.holds Tryd.pinned (.plain (OpenSpec.upto shrinkRunsSpec)) shrinkRunsUptoCard

/-- THE SECOND FORM's CARD OF 'inquestlaw18.SliceCloses'. -/
def sliceClosesUptoCard : Claim7 := { stood := { row := sliceClosesUptoRow, standIns := [], harness := (true, "e5fcaca1acc559e9ab5810f4519fe7300a43fef1417bd23a82be94067e1f5739"), looks := false }, kinds := [], alts := [], laidByText := true, laidKinds := [.data, .pinned], laidTests := true, laidLooks := .later }
def SliceClosesUptoCardSaid : Prop := Claim7.holds Tryd.pinned (.plain (OpenSpec.upto sliceClosesSpec)) sliceClosesUptoCard

/-- THE SECOND FORM's CARD OF 'inquestlaw18.SliceHolds'. -/
def sliceHoldsUptoCard : Claim7 := { stood := { row := sliceHoldsUptoRow, standIns := [], harness := (true, "e5fcaca1acc559e9ab5810f4519fe7300a43fef1417bd23a82be94067e1f5739"), looks := false }, kinds := [], alts := [], laidByText := true, laidKinds := [.data, .pinned], laidTests := true, laidLooks := .later }
def SliceHoldsUptoCardSaid : Prop := Claim7.holds Tryd.pinned (.plain (OpenSpec.upto sliceHoldsSpec)) sliceHoldsUptoCard
end Rows
end Go.Proofs.YthpnooookkpkaaaDoor
