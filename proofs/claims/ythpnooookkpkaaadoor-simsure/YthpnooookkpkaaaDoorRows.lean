/-
  NARROWER THAN 'FOR EVERY INPUT', by the rows' own cells (each row's printed sentence says how): SimSure: laid · SimTells: laid · LoopTells: laid · LoopCuts: laid · SimMany: laid · ShrinkBits: laid · ShrinkFrames: laid · ShrinkRuns: laid · SliceCloses: laid · SliceHolds: laid.
  DERIVED. THE GIVEN ROWS OF THIS SEAT. 10 by the template 'for every input the law returns true; each argument reads behind the call as it read before'; 0 by the template 'total and deterministic' (their statements: YthpnooookkpkaaaDoorTotals.lean).
  GIVEN WITH THE SEED: the statements are not yours to turn. If you find one false, say at which input.
  Laid BY PROGRAM, IN A SANDBOX (cutbox-rows.mjs): the forced cells as the released guide's own fill.sh prints them over the translation d9e91b4e3b2044c2… (all of the seat's roots in one cut). By AI agents, Wed Nov 11 2026. No macro, syntax, notation, axiom, sorry.
-/
import Derived.Test.YthpnooookkpkaaaDoorChecked
import GoSem.PinnedTables
import GoSem.Claim
import GoSem.ClaimJoined
import GoSem.ClaimMapViews
import Derived.JoinedTies
import Derived.KernelRfl
namespace Go.Proofs.YthpnooookkpkaaaDoor
/- THE CELL 'sum', in the pinned program and in every row, IS THE sha256 OF THE DUMP (.gsa) THAT YthpnooookkpkaaaDoorProg.lean LOADS. Nothing in Lean hashes anything: it is a label: what it is worth is what the hold of that sum in a sandbox is worth. -/
noncomputable def Tryd.pinned : Pinned := { name := "ythpnooookkpkaaadoor", sum := "d9e91b4e3b2044c2c758d76d290191f59847d3f2554ee8ce53723f6469414fd1", checked := Tryd.checked }
namespace Rows
def none {H : Type} : Left H := { results := [], args := [] }

/- WHAT THE LISTED PACKAGE-LEVEL VARIABLES READ AS WHEN THE CALL BEGINS. Each datum BY PROGRAM (the guide's laid-datum.mjs) off the statement by which the dump's own 'gosem.cut.vars' lays the variable. In a bare row this is a premise. The card (YthpnooookkpkaaaDoorCards.lean) ties it to the program's text. -/
def laid_unicode_utf8_acceptRanges {H : Type} : DataW H := .agg [.agg [.lit (.int .u8 128), .lit (.int .u8 191)], .agg [.lit (.int .u8 160), .lit (.int .u8 191)], .agg [.lit (.int .u8 128), .lit (.int .u8 159)], .agg [.lit (.int .u8 144), .lit (.int .u8 191)], .agg [.lit (.int .u8 128), .lit (.int .u8 143)], .agg [.lit (.int .u8 0), .lit (.int .u8 0)], .agg [.lit (.int .u8 0), .lit (.int .u8 0)], .agg [.lit (.int .u8 0), .lit (.int .u8 0)], .agg [.lit (.int .u8 0), .lit (.int .u8 0)], .agg [.lit (.int .u8 0), .lit (.int .u8 0)], .agg [.lit (.int .u8 0), .lit (.int .u8 0)], .agg [.lit (.int .u8 0), .lit (.int .u8 0)], .agg [.lit (.int .u8 0), .lit (.int .u8 0)], .agg [.lit (.int .u8 0), .lit (.int .u8 0)], .agg [.lit (.int .u8 0), .lit (.int .u8 0)], .agg [.lit (.int .u8 0), .lit (.int .u8 0)]]
/-- One of Go's own tables, pinned by name: the form's constant. -/
def laid_unicode_utf8_first : DataW Unit := Go.Pinned.utf8First

/-- 'inquestlaw07.SimSure': WHATEVER THE INPUT: true; the input reads as it did. -/
def simSureSpec : ChangeSpec := { name := "simSure", fn := fun _ => fun
  | [d1, d2, d3] => { results := [.lit (.bool true)], args := [d1, d2, d3] }
  | _ => none }
def simSureRow : OpenClaim := { program := "ythpnooookkpkaaadoor", sum := "d9e91b4e3b2044c2c758d76d290191f59847d3f2554ee8ce53723f6469414fd1", func := "inquest/inquestlaw07.SimSure", spec := "simSure", inPlace := ["internal/bytealg.Count", "internal/bytealg.IndexByte", "internal/bytealg.Index"], unfollowed := true, recurses := true, named := ["internal/bytealg.MaxLen", "unicode/utf8.first", "unicode/utf8.acceptRanges"], plainKeys := false, apart := false, laid := [("unicode/utf8.acceptRanges", laid_unicode_utf8_acceptRanges), ("unicode/utf8.first", laid_unicode_utf8_first)] }
def SimSureSaid : Prop := simSureRow.holds Tryd.pinned (OpenSpec.ofChange simSureSpec)

/-- ITS FALSE NEIGHBOUR: 'it returns false'. Refute it at one input. -/
def simSureWrong : ChangeSpec := { name := "simSure", fn := fun _ => fun
  | [d1, d2, d3] => { results := [.lit (.bool false)], args := [d1, d2, d3] }
  | _ => none }
def SimSureWrongFalsely : Prop := simSureRow.holds Tryd.pinned (OpenSpec.ofChange simSureWrong)

/-- 'inquestlaw07.SimTells': WHATEVER THE INPUT: true; the input reads as it did. -/
def simTellsSpec : ChangeSpec := { name := "simTells", fn := fun _ => fun
  | [d1, d2, d3, d4, d5] => { results := [.lit (.bool true)], args := [d1, d2, d3, d4, d5] }
  | _ => none }
def simTellsRow : OpenClaim := { program := "ythpnooookkpkaaadoor", sum := "d9e91b4e3b2044c2c758d76d290191f59847d3f2554ee8ce53723f6469414fd1", func := "inquest/inquestlaw07.SimTells", spec := "simTells", inPlace := ["internal/bytealg.Count", "internal/bytealg.IndexByte", "internal/bytealg.Index"], unfollowed := true, recurses := true, named := ["internal/bytealg.MaxLen", "unicode/utf8.first", "unicode/utf8.acceptRanges"], plainKeys := false, apart := false, laid := [("unicode/utf8.acceptRanges", laid_unicode_utf8_acceptRanges), ("unicode/utf8.first", laid_unicode_utf8_first)] }
def SimTellsSaid : Prop := simTellsRow.holds Tryd.pinned (OpenSpec.ofChange simTellsSpec)

/-- ITS FALSE NEIGHBOUR: 'it returns false'. Refute it at one input. -/
def simTellsWrong : ChangeSpec := { name := "simTells", fn := fun _ => fun
  | [d1, d2, d3, d4, d5] => { results := [.lit (.bool false)], args := [d1, d2, d3, d4, d5] }
  | _ => none }
def SimTellsWrongFalsely : Prop := simTellsRow.holds Tryd.pinned (OpenSpec.ofChange simTellsWrong)

/-- 'inquestlaw08.LoopTells': WHATEVER THE INPUT: true; the input reads as it did. -/
def loopTellsSpec : ChangeSpec := { name := "loopTells", fn := fun _ => fun
  | [d1, d2] => { results := [.lit (.bool true)], args := [d1, d2] }
  | _ => none }
def loopTellsRow : OpenClaim := { program := "ythpnooookkpkaaadoor", sum := "d9e91b4e3b2044c2c758d76d290191f59847d3f2554ee8ce53723f6469414fd1", func := "inquest/inquestlaw08.LoopTells", spec := "loopTells", inPlace := ["internal/bytealg.Count", "internal/bytealg.IndexByte", "internal/bytealg.Index"], unfollowed := true, recurses := true, named := ["internal/bytealg.MaxLen", "unicode/utf8.first", "unicode/utf8.acceptRanges"], plainKeys := false, apart := false, laid := [("unicode/utf8.acceptRanges", laid_unicode_utf8_acceptRanges), ("unicode/utf8.first", laid_unicode_utf8_first)] }
def LoopTellsSaid : Prop := loopTellsRow.holds Tryd.pinned (OpenSpec.ofChange loopTellsSpec)

/-- ITS FALSE NEIGHBOUR: 'it returns false'. Refute it at one input. -/
def loopTellsWrong : ChangeSpec := { name := "loopTells", fn := fun _ => fun
  | [d1, d2] => { results := [.lit (.bool false)], args := [d1, d2] }
  | _ => none }
def LoopTellsWrongFalsely : Prop := loopTellsRow.holds Tryd.pinned (OpenSpec.ofChange loopTellsWrong)

/-- 'inquestlaw08.LoopCuts': WHATEVER THE INPUT: true; the input reads as it did. -/
def loopCutsSpec : ChangeSpec := { name := "loopCuts", fn := fun _ => fun
  | [d1, d2] => { results := [.lit (.bool true)], args := [d1, d2] }
  | _ => none }
def loopCutsRow : OpenClaim := { program := "ythpnooookkpkaaadoor", sum := "d9e91b4e3b2044c2c758d76d290191f59847d3f2554ee8ce53723f6469414fd1", func := "inquest/inquestlaw08.LoopCuts", spec := "loopCuts", inPlace := ["internal/bytealg.Count", "internal/bytealg.IndexByte", "internal/bytealg.Index"], unfollowed := true, recurses := true, named := ["internal/bytealg.MaxLen", "unicode/utf8.first", "unicode/utf8.acceptRanges"], plainKeys := false, apart := false, laid := [("unicode/utf8.acceptRanges", laid_unicode_utf8_acceptRanges), ("unicode/utf8.first", laid_unicode_utf8_first)] }
def LoopCutsSaid : Prop := loopCutsRow.holds Tryd.pinned (OpenSpec.ofChange loopCutsSpec)

/-- ITS FALSE NEIGHBOUR: 'it returns false'. Refute it at one input. -/
def loopCutsWrong : ChangeSpec := { name := "loopCuts", fn := fun _ => fun
  | [d1, d2] => { results := [.lit (.bool false)], args := [d1, d2] }
  | _ => none }
def LoopCutsWrongFalsely : Prop := loopCutsRow.holds Tryd.pinned (OpenSpec.ofChange loopCutsWrong)

/-- 'inquestlaw07.SimMany': WHATEVER THE INPUT: true; the input reads as it did. -/
def simManySpec : ChangeSpec := { name := "simMany", fn := fun _ => fun
  | [d1, d2, d3, d4] => { results := [.lit (.bool true)], args := [d1, d2, d3, d4] }
  | _ => none }
def simManyRow : OpenClaim := { program := "ythpnooookkpkaaadoor", sum := "d9e91b4e3b2044c2c758d76d290191f59847d3f2554ee8ce53723f6469414fd1", func := "inquest/inquestlaw07.SimMany", spec := "simMany", inPlace := ["internal/bytealg.Count", "internal/bytealg.IndexByte", "internal/bytealg.Index"], unfollowed := true, recurses := true, named := ["internal/bytealg.MaxLen", "unicode/utf8.first", "unicode/utf8.acceptRanges"], plainKeys := false, apart := false, laid := [("unicode/utf8.acceptRanges", laid_unicode_utf8_acceptRanges), ("unicode/utf8.first", laid_unicode_utf8_first)] }
def SimManySaid : Prop := simManyRow.holds Tryd.pinned (OpenSpec.ofChange simManySpec)

/-- ITS FALSE NEIGHBOUR: 'it returns false'. Refute it at one input. -/
def simManyWrong : ChangeSpec := { name := "simMany", fn := fun _ => fun
  | [d1, d2, d3, d4] => { results := [.lit (.bool false)], args := [d1, d2, d3, d4] }
  | _ => none }
def SimManyWrongFalsely : Prop := simManyRow.holds Tryd.pinned (OpenSpec.ofChange simManyWrong)

/-- 'inquestlaw34.ShrinkBits': WHATEVER THE INPUT: true; the input reads as it did. -/
def shrinkBitsSpec : ChangeSpec := { name := "shrinkBits", fn := fun _ => fun
  | [d1, d2] => { results := [.lit (.bool true)], args := [d1, d2] }
  | _ => none }
def shrinkBitsRow : OpenClaim := { program := "ythpnooookkpkaaadoor", sum := "d9e91b4e3b2044c2c758d76d290191f59847d3f2554ee8ce53723f6469414fd1", func := "inquest/inquestlaw34.ShrinkBits", spec := "shrinkBits", inPlace := ["internal/bytealg.Count", "internal/bytealg.IndexByte", "internal/bytealg.Index"], unfollowed := true, recurses := true, named := ["internal/bytealg.MaxLen", "unicode/utf8.first", "unicode/utf8.acceptRanges"], plainKeys := false, apart := false, laid := [("unicode/utf8.acceptRanges", laid_unicode_utf8_acceptRanges), ("unicode/utf8.first", laid_unicode_utf8_first)] }
def ShrinkBitsSaid : Prop := shrinkBitsRow.holds Tryd.pinned (OpenSpec.ofChange shrinkBitsSpec)

/-- ITS FALSE NEIGHBOUR: 'it returns false'. Refute it at one input. -/
def shrinkBitsWrong : ChangeSpec := { name := "shrinkBits", fn := fun _ => fun
  | [d1, d2] => { results := [.lit (.bool false)], args := [d1, d2] }
  | _ => none }
def ShrinkBitsWrongFalsely : Prop := shrinkBitsRow.holds Tryd.pinned (OpenSpec.ofChange shrinkBitsWrong)

/-- 'inquestlaw34.ShrinkFrames': WHATEVER THE INPUT: true; the input reads as it did. -/
def shrinkFramesSpec : ChangeSpec := { name := "shrinkFrames", fn := fun _ => fun
  | [d1, d2] => { results := [.lit (.bool true)], args := [d1, d2] }
  | _ => none }
def shrinkFramesRow : OpenClaim := { program := "ythpnooookkpkaaadoor", sum := "d9e91b4e3b2044c2c758d76d290191f59847d3f2554ee8ce53723f6469414fd1", func := "inquest/inquestlaw34.ShrinkFrames", spec := "shrinkFrames", inPlace := ["internal/bytealg.Count", "internal/bytealg.IndexByte", "internal/bytealg.Index"], unfollowed := true, recurses := true, named := ["internal/bytealg.MaxLen", "unicode/utf8.first", "unicode/utf8.acceptRanges"], plainKeys := false, apart := false, laid := [("unicode/utf8.acceptRanges", laid_unicode_utf8_acceptRanges), ("unicode/utf8.first", laid_unicode_utf8_first)] }
def ShrinkFramesSaid : Prop := shrinkFramesRow.holds Tryd.pinned (OpenSpec.ofChange shrinkFramesSpec)

/-- ITS FALSE NEIGHBOUR: 'it returns false'. Refute it at one input. -/
def shrinkFramesWrong : ChangeSpec := { name := "shrinkFrames", fn := fun _ => fun
  | [d1, d2] => { results := [.lit (.bool false)], args := [d1, d2] }
  | _ => none }
def ShrinkFramesWrongFalsely : Prop := shrinkFramesRow.holds Tryd.pinned (OpenSpec.ofChange shrinkFramesWrong)

/-- 'inquestlaw34.ShrinkRuns': WHATEVER THE INPUT: true; the input reads as it did. -/
def shrinkRunsSpec : ChangeSpec := { name := "shrinkRuns", fn := fun _ => fun
  | [d1, d2, d3] => { results := [.lit (.bool true)], args := [d1, d2, d3] }
  | _ => none }
def shrinkRunsRow : OpenClaim := { program := "ythpnooookkpkaaadoor", sum := "d9e91b4e3b2044c2c758d76d290191f59847d3f2554ee8ce53723f6469414fd1", func := "inquest/inquestlaw34.ShrinkRuns", spec := "shrinkRuns", inPlace := ["internal/bytealg.Count", "internal/bytealg.IndexByte", "internal/bytealg.Index"], unfollowed := true, recurses := true, named := ["internal/bytealg.MaxLen", "unicode/utf8.first", "unicode/utf8.acceptRanges"], plainKeys := false, apart := false, laid := [("unicode/utf8.acceptRanges", laid_unicode_utf8_acceptRanges), ("unicode/utf8.first", laid_unicode_utf8_first)] }
def ShrinkRunsSaid : Prop := shrinkRunsRow.holds Tryd.pinned (OpenSpec.ofChange shrinkRunsSpec)

/-- ITS FALSE NEIGHBOUR: 'it returns false'. Refute it at one input. -/
def shrinkRunsWrong : ChangeSpec := { name := "shrinkRuns", fn := fun _ => fun
  | [d1, d2, d3] => { results := [.lit (.bool false)], args := [d1, d2, d3] }
  | _ => none }
def ShrinkRunsWrongFalsely : Prop := shrinkRunsRow.holds Tryd.pinned (OpenSpec.ofChange shrinkRunsWrong)

/-- 'inquestlaw18.SliceCloses': WHATEVER THE INPUT: true; the input reads as it did. -/
def sliceClosesSpec : ChangeSpec := { name := "sliceCloses", fn := fun _ => fun
  | [d1, d2] => { results := [.lit (.bool true)], args := [d1, d2] }
  | _ => none }
def sliceClosesRow : OpenClaim := { program := "ythpnooookkpkaaadoor", sum := "d9e91b4e3b2044c2c758d76d290191f59847d3f2554ee8ce53723f6469414fd1", func := "inquest/inquestlaw18.SliceCloses", spec := "sliceCloses", inPlace := ["internal/bytealg.Count", "internal/bytealg.IndexByte", "internal/bytealg.Index"], unfollowed := true, recurses := true, named := ["internal/bytealg.MaxLen", "unicode/utf8.first", "unicode/utf8.acceptRanges"], plainKeys := false, apart := false, laid := [("unicode/utf8.acceptRanges", laid_unicode_utf8_acceptRanges), ("unicode/utf8.first", laid_unicode_utf8_first)] }
def SliceClosesSaid : Prop := sliceClosesRow.holds Tryd.pinned (OpenSpec.ofChange sliceClosesSpec)

/-- ITS FALSE NEIGHBOUR: 'it returns false'. Refute it at one input. -/
def sliceClosesWrong : ChangeSpec := { name := "sliceCloses", fn := fun _ => fun
  | [d1, d2] => { results := [.lit (.bool false)], args := [d1, d2] }
  | _ => none }
def SliceClosesWrongFalsely : Prop := sliceClosesRow.holds Tryd.pinned (OpenSpec.ofChange sliceClosesWrong)

/-- 'inquestlaw18.SliceHolds': WHATEVER THE INPUT: true; the input reads as it did. -/
def sliceHoldsSpec : ChangeSpec := { name := "sliceHolds", fn := fun _ => fun
  | [d1, d2, d3] => { results := [.lit (.bool true)], args := [d1, d2, d3] }
  | _ => none }
def sliceHoldsRow : OpenClaim := { program := "ythpnooookkpkaaadoor", sum := "d9e91b4e3b2044c2c758d76d290191f59847d3f2554ee8ce53723f6469414fd1", func := "inquest/inquestlaw18.SliceHolds", spec := "sliceHolds", inPlace := ["internal/bytealg.Count", "internal/bytealg.IndexByte", "internal/bytealg.Index"], unfollowed := true, recurses := true, named := ["internal/bytealg.MaxLen", "unicode/utf8.first", "unicode/utf8.acceptRanges"], plainKeys := false, apart := false, laid := [("unicode/utf8.acceptRanges", laid_unicode_utf8_acceptRanges), ("unicode/utf8.first", laid_unicode_utf8_first)] }
def SliceHoldsSaid : Prop := sliceHoldsRow.holds Tryd.pinned (OpenSpec.ofChange sliceHoldsSpec)

/-- ITS FALSE NEIGHBOUR: 'it returns false'. Refute it at one input. -/
def sliceHoldsWrong : ChangeSpec := { name := "sliceHolds", fn := fun _ => fun
  | [d1, d2, d3] => { results := [.lit (.bool false)], args := [d1, d2, d3] }
  | _ => none }
def SliceHoldsWrongFalsely : Prop := sliceHoldsRow.holds Tryd.pinned (OpenSpec.ofChange sliceHoldsWrong)

/- THE SECOND FORM. 'bulk': how many values and letters a reading holds, each counted each time it is reached (what is shared counts as often as it is met; a slice's spare places count too). A statement '..UptoSaid' is the law's where the arguments, and the package variables that the reading takes, are together of bulk at most 1048576: NARROWER than '..Said'. Prove '..Said' where nothing that the law and all that it calls make is longer than what came in: it says more and counts as full. Else prove '..UptoSaid'. A law counts once. -/
mutual
def uptoBulk {H : Type} : DataW H → Nat
  | .lit (.string bytes) => bytes.length + 1
  | .lit _ => 1
  | .nil => 1
  | .ptr d => uptoBulk d + 1
  | .slice elems spare => uptoBulkAll elems + uptoBulkAll spare + 1
  | .agg parts => uptoBulkAll parts + 1
  | .iface _ d => uptoBulk d + 1
  | .map entries => uptoBulkEntries entries + 1
  | .held _ => 1
def uptoBulkAll {H : Type} : List (DataW H) → Nat
  | [] => 0
  | d :: r => uptoBulk d + uptoBulkAll r
def uptoBulkEntries {H : Type} : List (Lit × DataW H) → Nat
  | [] => 0
  | x :: r => uptoBulkEntry x + uptoBulkEntries r
def uptoBulkEntry {H : Type} : Lit × DataW H → Nat
  | (.string bytes, d) => bytes.length + uptoBulk d + 1
  | (_, d) => uptoBulk d + 1
 end
def uptoSmall : (H : Type) → List (DataW H) → Bool := fun _ ds => decide (uptoBulkAll ds ≤ 1048576)
def OpenSpec.upto (s : _root_.Go.ChangeSpec) : _root_.Go.OpenSpec := { _root_.Go.OpenSpec.ofChange s with cond := some uptoSmall }

/-- 'inquestlaw07.SimSure', WHERE WHAT IT READS IS OF BULK AT MOST 1048576: true; the input reads as it did. -/
def simSureUptoRow : OpenClaim := { program := "ythpnooookkpkaaadoor", sum := "d9e91b4e3b2044c2c758d76d290191f59847d3f2554ee8ce53723f6469414fd1", func := "inquest/inquestlaw07.SimSure", spec := "simSure", inPlace := ["internal/bytealg.Count", "internal/bytealg.IndexByte", "internal/bytealg.Index"], unfollowed := true, recurses := true, named := ["internal/bytealg.MaxLen", "unicode/utf8.first", "unicode/utf8.acceptRanges"], plainKeys := false, apart := false, laid := [("unicode/utf8.acceptRanges", laid_unicode_utf8_acceptRanges), ("unicode/utf8.first", laid_unicode_utf8_first)], narrowed := true }
def SimSureUptoSaid : Prop := simSureUptoRow.holds Tryd.pinned (OpenSpec.upto simSureSpec)

/-- 'inquestlaw07.SimTells', WHERE WHAT IT READS IS OF BULK AT MOST 1048576: true; the input reads as it did. -/
def simTellsUptoRow : OpenClaim := { program := "ythpnooookkpkaaadoor", sum := "d9e91b4e3b2044c2c758d76d290191f59847d3f2554ee8ce53723f6469414fd1", func := "inquest/inquestlaw07.SimTells", spec := "simTells", inPlace := ["internal/bytealg.Count", "internal/bytealg.IndexByte", "internal/bytealg.Index"], unfollowed := true, recurses := true, named := ["internal/bytealg.MaxLen", "unicode/utf8.first", "unicode/utf8.acceptRanges"], plainKeys := false, apart := false, laid := [("unicode/utf8.acceptRanges", laid_unicode_utf8_acceptRanges), ("unicode/utf8.first", laid_unicode_utf8_first)], narrowed := true }
def SimTellsUptoSaid : Prop := simTellsUptoRow.holds Tryd.pinned (OpenSpec.upto simTellsSpec)

/-- 'inquestlaw08.LoopTells', WHERE WHAT IT READS IS OF BULK AT MOST 1048576: true; the input reads as it did. -/
def loopTellsUptoRow : OpenClaim := { program := "ythpnooookkpkaaadoor", sum := "d9e91b4e3b2044c2c758d76d290191f59847d3f2554ee8ce53723f6469414fd1", func := "inquest/inquestlaw08.LoopTells", spec := "loopTells", inPlace := ["internal/bytealg.Count", "internal/bytealg.IndexByte", "internal/bytealg.Index"], unfollowed := true, recurses := true, named := ["internal/bytealg.MaxLen", "unicode/utf8.first", "unicode/utf8.acceptRanges"], plainKeys := false, apart := false, laid := [("unicode/utf8.acceptRanges", laid_unicode_utf8_acceptRanges), ("unicode/utf8.first", laid_unicode_utf8_first)], narrowed := true }
def LoopTellsUptoSaid : Prop := loopTellsUptoRow.holds Tryd.pinned (OpenSpec.upto loopTellsSpec)

/-- 'inquestlaw08.LoopCuts', WHERE WHAT IT READS IS OF BULK AT MOST 1048576: true; the input reads as it did. -/
def loopCutsUptoRow : OpenClaim := { program := "ythpnooookkpkaaadoor", sum := "d9e91b4e3b2044c2c758d76d290191f59847d3f2554ee8ce53723f6469414fd1", func := "inquest/inquestlaw08.LoopCuts", spec := "loopCuts", inPlace := ["internal/bytealg.Count", "internal/bytealg.IndexByte", "internal/bytealg.Index"], unfollowed := true, recurses := true, named := ["internal/bytealg.MaxLen", "unicode/utf8.first", "unicode/utf8.acceptRanges"], plainKeys := false, apart := false, laid := [("unicode/utf8.acceptRanges", laid_unicode_utf8_acceptRanges), ("unicode/utf8.first", laid_unicode_utf8_first)], narrowed := true }
def LoopCutsUptoSaid : Prop := loopCutsUptoRow.holds Tryd.pinned (OpenSpec.upto loopCutsSpec)

/-- 'inquestlaw07.SimMany', WHERE WHAT IT READS IS OF BULK AT MOST 1048576: true; the input reads as it did. -/
def simManyUptoRow : OpenClaim := { program := "ythpnooookkpkaaadoor", sum := "d9e91b4e3b2044c2c758d76d290191f59847d3f2554ee8ce53723f6469414fd1", func := "inquest/inquestlaw07.SimMany", spec := "simMany", inPlace := ["internal/bytealg.Count", "internal/bytealg.IndexByte", "internal/bytealg.Index"], unfollowed := true, recurses := true, named := ["internal/bytealg.MaxLen", "unicode/utf8.first", "unicode/utf8.acceptRanges"], plainKeys := false, apart := false, laid := [("unicode/utf8.acceptRanges", laid_unicode_utf8_acceptRanges), ("unicode/utf8.first", laid_unicode_utf8_first)], narrowed := true }
def SimManyUptoSaid : Prop := simManyUptoRow.holds Tryd.pinned (OpenSpec.upto simManySpec)

/-- 'inquestlaw34.ShrinkBits', WHERE WHAT IT READS IS OF BULK AT MOST 1048576: true; the input reads as it did. -/
def shrinkBitsUptoRow : OpenClaim := { program := "ythpnooookkpkaaadoor", sum := "d9e91b4e3b2044c2c758d76d290191f59847d3f2554ee8ce53723f6469414fd1", func := "inquest/inquestlaw34.ShrinkBits", spec := "shrinkBits", inPlace := ["internal/bytealg.Count", "internal/bytealg.IndexByte", "internal/bytealg.Index"], unfollowed := true, recurses := true, named := ["internal/bytealg.MaxLen", "unicode/utf8.first", "unicode/utf8.acceptRanges"], plainKeys := false, apart := false, laid := [("unicode/utf8.acceptRanges", laid_unicode_utf8_acceptRanges), ("unicode/utf8.first", laid_unicode_utf8_first)], narrowed := true }
def ShrinkBitsUptoSaid : Prop := shrinkBitsUptoRow.holds Tryd.pinned (OpenSpec.upto shrinkBitsSpec)

/-- 'inquestlaw34.ShrinkFrames', WHERE WHAT IT READS IS OF BULK AT MOST 1048576: true; the input reads as it did. -/
def shrinkFramesUptoRow : OpenClaim := { program := "ythpnooookkpkaaadoor", sum := "d9e91b4e3b2044c2c758d76d290191f59847d3f2554ee8ce53723f6469414fd1", func := "inquest/inquestlaw34.ShrinkFrames", spec := "shrinkFrames", inPlace := ["internal/bytealg.Count", "internal/bytealg.IndexByte", "internal/bytealg.Index"], unfollowed := true, recurses := true, named := ["internal/bytealg.MaxLen", "unicode/utf8.first", "unicode/utf8.acceptRanges"], plainKeys := false, apart := false, laid := [("unicode/utf8.acceptRanges", laid_unicode_utf8_acceptRanges), ("unicode/utf8.first", laid_unicode_utf8_first)], narrowed := true }
def ShrinkFramesUptoSaid : Prop := shrinkFramesUptoRow.holds Tryd.pinned (OpenSpec.upto shrinkFramesSpec)

/-- 'inquestlaw34.ShrinkRuns', WHERE WHAT IT READS IS OF BULK AT MOST 1048576: true; the input reads as it did. -/
def shrinkRunsUptoRow : OpenClaim := { program := "ythpnooookkpkaaadoor", sum := "d9e91b4e3b2044c2c758d76d290191f59847d3f2554ee8ce53723f6469414fd1", func := "inquest/inquestlaw34.ShrinkRuns", spec := "shrinkRuns", inPlace := ["internal/bytealg.Count", "internal/bytealg.IndexByte", "internal/bytealg.Index"], unfollowed := true, recurses := true, named := ["internal/bytealg.MaxLen", "unicode/utf8.first", "unicode/utf8.acceptRanges"], plainKeys := false, apart := false, laid := [("unicode/utf8.acceptRanges", laid_unicode_utf8_acceptRanges), ("unicode/utf8.first", laid_unicode_utf8_first)], narrowed := true }
def ShrinkRunsUptoSaid : Prop := shrinkRunsUptoRow.holds Tryd.pinned (OpenSpec.upto shrinkRunsSpec)

/-- 'inquestlaw18.SliceCloses', WHERE WHAT IT READS IS OF BULK AT MOST 1048576: true; the input reads as it did. -/
def sliceClosesUptoRow : OpenClaim := { program := "ythpnooookkpkaaadoor", sum := "d9e91b4e3b2044c2c758d76d290191f59847d3f2554ee8ce53723f6469414fd1", func := "inquest/inquestlaw18.SliceCloses", spec := "sliceCloses", inPlace := ["internal/bytealg.Count", "internal/bytealg.IndexByte", "internal/bytealg.Index"], unfollowed := true, recurses := true, named := ["internal/bytealg.MaxLen", "unicode/utf8.first", "unicode/utf8.acceptRanges"], plainKeys := false, apart := false, laid := [("unicode/utf8.acceptRanges", laid_unicode_utf8_acceptRanges), ("unicode/utf8.first", laid_unicode_utf8_first)], narrowed := true }
def SliceClosesUptoSaid : Prop := sliceClosesUptoRow.holds Tryd.pinned (OpenSpec.upto sliceClosesSpec)

/-- 'inquestlaw18.SliceHolds', WHERE WHAT IT READS IS OF BULK AT MOST 1048576: true; the input reads as it did. -/
def sliceHoldsUptoRow : OpenClaim := { program := "ythpnooookkpkaaadoor", sum := "d9e91b4e3b2044c2c758d76d290191f59847d3f2554ee8ce53723f6469414fd1", func := "inquest/inquestlaw18.SliceHolds", spec := "sliceHolds", inPlace := ["internal/bytealg.Count", "internal/bytealg.IndexByte", "internal/bytealg.Index"], unfollowed := true, recurses := true, named := ["internal/bytealg.MaxLen", "unicode/utf8.first", "unicode/utf8.acceptRanges"], plainKeys := false, apart := false, laid := [("unicode/utf8.acceptRanges", laid_unicode_utf8_acceptRanges), ("unicode/utf8.first", laid_unicode_utf8_first)], narrowed := true }
def SliceHoldsUptoSaid : Prop := sliceHoldsUptoRow.holds Tryd.pinned (OpenSpec.upto sliceHoldsSpec)

end Rows
end Go.Proofs.YthpnooookkpkaaaDoor
