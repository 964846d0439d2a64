/-
  No cell of these rows narrows 'for every input' (looked for: loops, veiled, ifaces, maps, wideKeys, modest, calm, conditions, laid).
  DERIVED. THE GIVEN ROWS OF THIS SEAT. 8 by the template 'for every input the law returns true; each argument reads behind the call as it read before'; 0 by the template 'total and deterministic' (their statements: YthpnooookkpkaaaTotals.lean).
  GIVEN WITH THE SEED: the statements are not yours to turn. If you find one false, say at which input.
  Laid BY PROGRAM, IN A SANDBOX (cutbox-rows.mjs): the forced cells as the released guide's own fill.sh prints them over the translation 2ff1c9465b058066… (all of the seat's roots in one cut). By AI agents, Wed Nov 11 2026. No macro, syntax, notation, axiom, sorry.
-/
import Derived.Test.YthpnooookkpkaaaChecked
import GoSem.Claim
import GoSem.ClaimJoined
import GoSem.ClaimMapViews
import Derived.JoinedTies
import Derived.KernelRfl
namespace Go.Proofs.Ythpnooookkpkaaa
/- THE CELL 'sum', in the pinned program and in every row, IS THE sha256 OF THE DUMP (.gsa) THAT YthpnooookkpkaaaProg.lean LOADS. Nothing in Lean hashes anything: it is a label: what it is worth is what the hold of that sum in a sandbox is worth. -/
noncomputable def Try.pinned : Pinned := { name := "ythpnooookkpkaaa", sum := "2ff1c9465b058066c06f05fa3e3ad06e4093d695f4b2777e301a69375638d1ce", checked := Try.checked }
namespace Rows
def none {H : Type} : Left H := { results := [], args := [] }

/-- 'inquestlaw06.TernWithin': WHATEVER THE INPUT: true; the input reads as it did. -/
def ternWithinSpec : ChangeSpec := { name := "ternWithin", fn := fun _ => fun
  | [d1, d2, d3, d4] => { results := [.lit (.bool true)], args := [d1, d2, d3, d4] }
  | _ => none }
def ternWithinRow : OpenClaim := { program := "ythpnooookkpkaaa", sum := "2ff1c9465b058066c06f05fa3e3ad06e4093d695f4b2777e301a69375638d1ce", func := "inquest/inquestlaw06.TernWithin", spec := "ternWithin", plainKeys := false, apart := false }
def TernWithinSaid : Prop := ternWithinRow.holds Try.pinned (OpenSpec.ofChange ternWithinSpec)

/-- ITS FALSE NEIGHBOUR: 'it returns false'. Refute it at one input. -/
def ternWithinWrong : ChangeSpec := { name := "ternWithin", fn := fun _ => fun
  | [d1, d2, d3, d4] => { results := [.lit (.bool false)], args := [d1, d2, d3, d4] }
  | _ => none }
def TernWithinWrongFalsely : Prop := ternWithinRow.holds Try.pinned (OpenSpec.ofChange ternWithinWrong)

/-- 'inquestlaw06.TernTells': WHATEVER THE INPUT: true; the input reads as it did. -/
def ternTellsSpec : ChangeSpec := { name := "ternTells", fn := fun _ => fun
  | [d1, d2, d3, d4, d5, d6] => { results := [.lit (.bool true)], args := [d1, d2, d3, d4, d5, d6] }
  | _ => none }
def ternTellsRow : OpenClaim := { program := "ythpnooookkpkaaa", sum := "2ff1c9465b058066c06f05fa3e3ad06e4093d695f4b2777e301a69375638d1ce", func := "inquest/inquestlaw06.TernTells", spec := "ternTells", plainKeys := false, apart := false }
def TernTellsSaid : Prop := ternTellsRow.holds Try.pinned (OpenSpec.ofChange ternTellsSpec)

/-- ITS FALSE NEIGHBOUR: 'it returns false'. Refute it at one input. -/
def ternTellsWrong : ChangeSpec := { name := "ternTells", fn := fun _ => fun
  | [d1, d2, d3, d4, d5, d6] => { results := [.lit (.bool false)], args := [d1, d2, d3, d4, d5, d6] }
  | _ => none }
def TernTellsWrongFalsely : Prop := ternTellsRow.holds Try.pinned (OpenSpec.ofChange ternTellsWrong)

/-- 'inquestlaw06.TernPlaces': WHATEVER THE INPUT: true; the input reads as it did. -/
def ternPlacesSpec : ChangeSpec := { name := "ternPlaces", fn := fun _ => fun
  | [d1, d2, d3, d4] => { results := [.lit (.bool true)], args := [d1, d2, d3, d4] }
  | _ => none }
def ternPlacesRow : OpenClaim := { program := "ythpnooookkpkaaa", sum := "2ff1c9465b058066c06f05fa3e3ad06e4093d695f4b2777e301a69375638d1ce", func := "inquest/inquestlaw06.TernPlaces", spec := "ternPlaces", plainKeys := false, apart := false }
def TernPlacesSaid : Prop := ternPlacesRow.holds Try.pinned (OpenSpec.ofChange ternPlacesSpec)

/-- ITS FALSE NEIGHBOUR: 'it returns false'. Refute it at one input. -/
def ternPlacesWrong : ChangeSpec := { name := "ternPlaces", fn := fun _ => fun
  | [d1, d2, d3, d4] => { results := [.lit (.bool false)], args := [d1, d2, d3, d4] }
  | _ => none }
def TernPlacesWrongFalsely : Prop := ternPlacesRow.holds Try.pinned (OpenSpec.ofChange ternPlacesWrong)

/-- 'inquestlaw33.SuspectOrders': WHATEVER THE INPUT: true; the input reads as it did. -/
def suspectOrdersSpec : ChangeSpec := { name := "suspectOrders", fn := fun _ => fun
  | [d1, d2, d3, d4, d5] => { results := [.lit (.bool true)], args := [d1, d2, d3, d4, d5] }
  | _ => none }
def suspectOrdersRow : OpenClaim := { program := "ythpnooookkpkaaa", sum := "2ff1c9465b058066c06f05fa3e3ad06e4093d695f4b2777e301a69375638d1ce", func := "inquest/inquestlaw33.SuspectOrders", spec := "suspectOrders", unfollowed := true, recurses := true, plainKeys := false, apart := false }
def SuspectOrdersSaid : Prop := suspectOrdersRow.holds Try.pinned (OpenSpec.ofChange suspectOrdersSpec)

/-- ITS FALSE NEIGHBOUR: 'it returns false'. Refute it at one input. -/
def suspectOrdersWrong : ChangeSpec := { name := "suspectOrders", fn := fun _ => fun
  | [d1, d2, d3, d4, d5] => { results := [.lit (.bool false)], args := [d1, d2, d3, d4, d5] }
  | _ => none }
def SuspectOrdersWrongFalsely : Prop := suspectOrdersRow.holds Try.pinned (OpenSpec.ofChange suspectOrdersWrong)

/-- 'inquestlaw33.SuspectRanks': WHATEVER THE INPUT: true; the input reads as it did. -/
def suspectRanksSpec : ChangeSpec := { name := "suspectRanks", fn := fun _ => fun
  | [d1, d2, d3, d4] => { results := [.lit (.bool true)], args := [d1, d2, d3, d4] }
  | _ => none }
def suspectRanksRow : OpenClaim := { program := "ythpnooookkpkaaa", sum := "2ff1c9465b058066c06f05fa3e3ad06e4093d695f4b2777e301a69375638d1ce", func := "inquest/inquestlaw33.SuspectRanks", spec := "suspectRanks", unfollowed := true, recurses := true, plainKeys := false, apart := false }
def SuspectRanksSaid : Prop := suspectRanksRow.holds Try.pinned (OpenSpec.ofChange suspectRanksSpec)

/-- ITS FALSE NEIGHBOUR: 'it returns false'. Refute it at one input. -/
def suspectRanksWrong : ChangeSpec := { name := "suspectRanks", fn := fun _ => fun
  | [d1, d2, d3, d4] => { results := [.lit (.bool false)], args := [d1, d2, d3, d4] }
  | _ => none }
def SuspectRanksWrongFalsely : Prop := suspectRanksRow.holds Try.pinned (OpenSpec.ofChange suspectRanksWrong)

/-- 'inquestlaw11.ClauseTells': WHATEVER THE INPUT: true; the input reads as it did. -/
def clauseTellsSpec : ChangeSpec := { name := "clauseTells", fn := fun _ => fun
  | [d1, d2, d3, d4] => { results := [.lit (.bool true)], args := [d1, d2, d3, d4] }
  | _ => none }
def clauseTellsRow : OpenClaim := { program := "ythpnooookkpkaaa", sum := "2ff1c9465b058066c06f05fa3e3ad06e4093d695f4b2777e301a69375638d1ce", func := "inquest/inquestlaw11.ClauseTells", spec := "clauseTells", unfollowed := true, recurses := true, plainKeys := false, apart := false }
def ClauseTellsSaid : Prop := clauseTellsRow.holds Try.pinned (OpenSpec.ofChange clauseTellsSpec)

/-- ITS FALSE NEIGHBOUR: 'it returns false'. Refute it at one input. -/
def clauseTellsWrong : ChangeSpec := { name := "clauseTells", fn := fun _ => fun
  | [d1, d2, d3, d4] => { results := [.lit (.bool false)], args := [d1, d2, d3, d4] }
  | _ => none }
def ClauseTellsWrongFalsely : Prop := clauseTellsRow.holds Try.pinned (OpenSpec.ofChange clauseTellsWrong)

/-- 'inquestlaw11.ClauseMust': WHATEVER THE INPUT: true; the input reads as it did. -/
def clauseMustSpec : ChangeSpec := { name := "clauseMust", fn := fun _ => fun
  | [d1, d2, d3] => { results := [.lit (.bool true)], args := [d1, d2, d3] }
  | _ => none }
def clauseMustRow : OpenClaim := { program := "ythpnooookkpkaaa", sum := "2ff1c9465b058066c06f05fa3e3ad06e4093d695f4b2777e301a69375638d1ce", func := "inquest/inquestlaw11.ClauseMust", spec := "clauseMust", unfollowed := true, recurses := true, plainKeys := false, apart := false }
def ClauseMustSaid : Prop := clauseMustRow.holds Try.pinned (OpenSpec.ofChange clauseMustSpec)

/-- ITS FALSE NEIGHBOUR: 'it returns false'. Refute it at one input. -/
def clauseMustWrong : ChangeSpec := { name := "clauseMust", fn := fun _ => fun
  | [d1, d2, d3] => { results := [.lit (.bool false)], args := [d1, d2, d3] }
  | _ => none }
def ClauseMustWrongFalsely : Prop := clauseMustRow.holds Try.pinned (OpenSpec.ofChange clauseMustWrong)

/-- 'inquestlaw11.ClauseOrder': WHATEVER THE INPUT: true; the input reads as it did. -/
def clauseOrderSpec : ChangeSpec := { name := "clauseOrder", fn := fun _ => fun
  | [d1, d2] => { results := [.lit (.bool true)], args := [d1, d2] }
  | _ => none }
def clauseOrderRow : OpenClaim := { program := "ythpnooookkpkaaa", sum := "2ff1c9465b058066c06f05fa3e3ad06e4093d695f4b2777e301a69375638d1ce", func := "inquest/inquestlaw11.ClauseOrder", spec := "clauseOrder", unfollowed := true, recurses := true, plainKeys := false, apart := false }
def ClauseOrderSaid : Prop := clauseOrderRow.holds Try.pinned (OpenSpec.ofChange clauseOrderSpec)

/-- ITS FALSE NEIGHBOUR: 'it returns false'. Refute it at one input. -/
def clauseOrderWrong : ChangeSpec := { name := "clauseOrder", fn := fun _ => fun
  | [d1, d2] => { results := [.lit (.bool false)], args := [d1, d2] }
  | _ => none }
def ClauseOrderWrongFalsely : Prop := clauseOrderRow.holds Try.pinned (OpenSpec.ofChange clauseOrderWrong)

/- THE SECOND FORM. 'bulk': how many values and letters a reading holds, each counted each time it is reached (what is shared counts as often as it is met; a slice's spare places count too). A statement '..UptoSaid' is the law's where the arguments, and the package variables that the reading takes, are together of bulk at most 1048576: NARROWER than '..Said'. Prove '..Said' where nothing that the law and all that it calls make is longer than what came in: it says more and counts as full. Else prove '..UptoSaid'. A law counts once. -/
mutual
def uptoBulk {H : Type} : DataW H → Nat
  | .lit (.string bytes) => bytes.length + 1
  | .lit _ => 1
  | .nil => 1
  | .ptr d => uptoBulk d + 1
  | .slice elems spare => uptoBulkAll elems + uptoBulkAll spare + 1
  | .agg parts => uptoBulkAll parts + 1
  | .iface _ d => uptoBulk d + 1
  | .map entries => uptoBulkEntries entries + 1
  | .held _ => 1
def uptoBulkAll {H : Type} : List (DataW H) → Nat
  | [] => 0
  | d :: r => uptoBulk d + uptoBulkAll r
def uptoBulkEntries {H : Type} : List (Lit × DataW H) → Nat
  | [] => 0
  | x :: r => uptoBulkEntry x + uptoBulkEntries r
def uptoBulkEntry {H : Type} : Lit × DataW H → Nat
  | (.string bytes, d) => bytes.length + uptoBulk d + 1
  | (_, d) => uptoBulk d + 1
 end
def uptoSmall : (H : Type) → List (DataW H) → Bool := fun _ ds => decide (uptoBulkAll ds ≤ 1048576)
def OpenSpec.upto (s : _root_.Go.ChangeSpec) : _root_.Go.OpenSpec := { _root_.Go.OpenSpec.ofChange s with cond := some uptoSmall }

/-- 'inquestlaw06.TernWithin', WHERE WHAT IT READS IS OF BULK AT MOST 1048576: true; the input reads as it did. -/
def ternWithinUptoRow : OpenClaim := { program := "ythpnooookkpkaaa", sum := "2ff1c9465b058066c06f05fa3e3ad06e4093d695f4b2777e301a69375638d1ce", func := "inquest/inquestlaw06.TernWithin", spec := "ternWithin", plainKeys := false, apart := false, narrowed := true }
def TernWithinUptoSaid : Prop := ternWithinUptoRow.holds Try.pinned (OpenSpec.upto ternWithinSpec)

/-- 'inquestlaw06.TernTells', WHERE WHAT IT READS IS OF BULK AT MOST 1048576: true; the input reads as it did. -/
def ternTellsUptoRow : OpenClaim := { program := "ythpnooookkpkaaa", sum := "2ff1c9465b058066c06f05fa3e3ad06e4093d695f4b2777e301a69375638d1ce", func := "inquest/inquestlaw06.TernTells", spec := "ternTells", plainKeys := false, apart := false, narrowed := true }
def TernTellsUptoSaid : Prop := ternTellsUptoRow.holds Try.pinned (OpenSpec.upto ternTellsSpec)

/-- 'inquestlaw06.TernPlaces', WHERE WHAT IT READS IS OF BULK AT MOST 1048576: true; the input reads as it did. -/
def ternPlacesUptoRow : OpenClaim := { program := "ythpnooookkpkaaa", sum := "2ff1c9465b058066c06f05fa3e3ad06e4093d695f4b2777e301a69375638d1ce", func := "inquest/inquestlaw06.TernPlaces", spec := "ternPlaces", plainKeys := false, apart := false, narrowed := true }
def TernPlacesUptoSaid : Prop := ternPlacesUptoRow.holds Try.pinned (OpenSpec.upto ternPlacesSpec)

/-- 'inquestlaw33.SuspectOrders', WHERE WHAT IT READS IS OF BULK AT MOST 1048576: true; the input reads as it did. -/
def suspectOrdersUptoRow : OpenClaim := { program := "ythpnooookkpkaaa", sum := "2ff1c9465b058066c06f05fa3e3ad06e4093d695f4b2777e301a69375638d1ce", func := "inquest/inquestlaw33.SuspectOrders", spec := "suspectOrders", unfollowed := true, recurses := true, plainKeys := false, apart := false, narrowed := true }
def SuspectOrdersUptoSaid : Prop := suspectOrdersUptoRow.holds Try.pinned (OpenSpec.upto suspectOrdersSpec)

/-- 'inquestlaw33.SuspectRanks', WHERE WHAT IT READS IS OF BULK AT MOST 1048576: true; the input reads as it did. -/
def suspectRanksUptoRow : OpenClaim := { program := "ythpnooookkpkaaa", sum := "2ff1c9465b058066c06f05fa3e3ad06e4093d695f4b2777e301a69375638d1ce", func := "inquest/inquestlaw33.SuspectRanks", spec := "suspectRanks", unfollowed := true, recurses := true, plainKeys := false, apart := false, narrowed := true }
def SuspectRanksUptoSaid : Prop := suspectRanksUptoRow.holds Try.pinned (OpenSpec.upto suspectRanksSpec)

/-- 'inquestlaw11.ClauseTells', WHERE WHAT IT READS IS OF BULK AT MOST 1048576: true; the input reads as it did. -/
def clauseTellsUptoRow : OpenClaim := { program := "ythpnooookkpkaaa", sum := "2ff1c9465b058066c06f05fa3e3ad06e4093d695f4b2777e301a69375638d1ce", func := "inquest/inquestlaw11.ClauseTells", spec := "clauseTells", unfollowed := true, recurses := true, plainKeys := false, apart := false, narrowed := true }
def ClauseTellsUptoSaid : Prop := clauseTellsUptoRow.holds Try.pinned (OpenSpec.upto clauseTellsSpec)

/-- 'inquestlaw11.ClauseMust', WHERE WHAT IT READS IS OF BULK AT MOST 1048576: true; the input reads as it did. -/
def clauseMustUptoRow : OpenClaim := { program := "ythpnooookkpkaaa", sum := "2ff1c9465b058066c06f05fa3e3ad06e4093d695f4b2777e301a69375638d1ce", func := "inquest/inquestlaw11.ClauseMust", spec := "clauseMust", unfollowed := true, recurses := true, plainKeys := false, apart := false, narrowed := true }
def ClauseMustUptoSaid : Prop := clauseMustUptoRow.holds Try.pinned (OpenSpec.upto clauseMustSpec)

/-- 'inquestlaw11.ClauseOrder', WHERE WHAT IT READS IS OF BULK AT MOST 1048576: true; the input reads as it did. -/
def clauseOrderUptoRow : OpenClaim := { program := "ythpnooookkpkaaa", sum := "2ff1c9465b058066c06f05fa3e3ad06e4093d695f4b2777e301a69375638d1ce", func := "inquest/inquestlaw11.ClauseOrder", spec := "clauseOrder", unfollowed := true, recurses := true, plainKeys := false, apart := false, narrowed := true }
def ClauseOrderUptoSaid : Prop := clauseOrderUptoRow.holds Try.pinned (OpenSpec.upto clauseOrderSpec)

end Rows
end Go.Proofs.Ythpnooookkpkaaa
