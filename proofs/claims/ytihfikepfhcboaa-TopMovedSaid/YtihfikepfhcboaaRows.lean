/-
  No cell of these rows narrows 'for every input' (looked for: loops, veiled, ifaces, maps, wideKeys, modest, calm, conditions, laid).
  DERIVED. THE GIVEN ROWS OF THIS SEAT. 5 by the template 'for every input the law returns true; each argument reads behind the call as it read before'; 0 by the template 'total and deterministic' (their statements: YtihfikepfhcboaaTotals.lean).
  GIVEN WITH THE SEED: the statements are not yours to turn. If you find one false, say at which input.
  Laid BY PROGRAM, IN A SANDBOX (cutbox-rows.mjs): the forced cells as the released guide's own fill.sh prints them over the translation 63de4bec9620a9ad… (all of the seat's roots in one cut). By AI agents, Wed Nov 11 2026. No macro, syntax, notation, axiom, sorry.
-/
import Derived.Test.YtihfikepfhcboaaChecked
import GoSem.Claim
import GoSem.ClaimJoined
import GoSem.ClaimMapViews
import Derived.JoinedTies
import Derived.KernelRfl
namespace Go.Proofs.Ytihfikepfhcboaa
/- THE CELL 'sum', in the pinned program and in every row, IS THE sha256 OF THE DUMP (.gsa) THAT YtihfikepfhcboaaProg.lean LOADS. Nothing in Lean hashes anything: it is a label: what it is worth is what the hold of that sum in a sandbox is worth. -/
noncomputable def Try.pinned : Pinned := { name := "ytihfikepfhcboaa", sum := "63de4bec9620a9ad2f51bc6c45b1bb931a70356239599925a665c54749b78ab7", checked := Try.checked }
namespace Rows
def none {H : Type} : Left H := { results := [], args := [] }

/-- 'cooperagetop.TopMoved': WHATEVER THE INPUT: true; the input reads as it did. -/
def topMovedSpec : ChangeSpec := { name := "topMoved", fn := fun _ => fun
  | [d1, d2, d3, d4, d5] => { results := [.lit (.bool true)], args := [d1, d2, d3, d4, d5] }
  | _ => none }
def topMovedRow : OpenClaim := { program := "ytihfikepfhcboaa", sum := "63de4bec9620a9ad2f51bc6c45b1bb931a70356239599925a665c54749b78ab7", func := "cooperage/cooperagetop.TopMoved", spec := "topMoved", unfollowed := true, recurses := true, apart := false }
def TopMovedSaid : Prop := topMovedRow.holds Try.pinned (OpenSpec.ofChange topMovedSpec)

/-- ITS FALSE NEIGHBOUR: 'it returns false'. Refute it at one input. -/
def topMovedWrong : ChangeSpec := { name := "topMoved", fn := fun _ => fun
  | [d1, d2, d3, d4, d5] => { results := [.lit (.bool false)], args := [d1, d2, d3, d4, d5] }
  | _ => none }
def TopMovedWrongFalsely : Prop := topMovedRow.holds Try.pinned (OpenSpec.ofChange topMovedWrong)

/-- 'cooperagetop.TopGalois': WHATEVER THE INPUT: true; the input reads as it did. -/
def topGaloisSpec : ChangeSpec := { name := "topGalois", fn := fun _ => fun
  | [d1, d2, d3, d4, d5, d6, d7, d8] => { results := [.lit (.bool true)], args := [d1, d2, d3, d4, d5, d6, d7, d8] }
  | _ => none }
def topGaloisRow : OpenClaim := { program := "ytihfikepfhcboaa", sum := "63de4bec9620a9ad2f51bc6c45b1bb931a70356239599925a665c54749b78ab7", func := "cooperage/cooperagetop.TopGalois", spec := "topGalois", unfollowed := true, recurses := true, apart := false }
def TopGaloisSaid : Prop := topGaloisRow.holds Try.pinned (OpenSpec.ofChange topGaloisSpec)

/-- ITS FALSE NEIGHBOUR: 'it returns false'. Refute it at one input. -/
def topGaloisWrong : ChangeSpec := { name := "topGalois", fn := fun _ => fun
  | [d1, d2, d3, d4, d5, d6, d7, d8] => { results := [.lit (.bool false)], args := [d1, d2, d3, d4, d5, d6, d7, d8] }
  | _ => none }
def TopGaloisWrongFalsely : Prop := topGaloisRow.holds Try.pinned (OpenSpec.ofChange topGaloisWrong)

/-- 'cooperagetop.TopPosted': WHATEVER THE INPUT: true; the input reads as it did. -/
def topPostedSpec : ChangeSpec := { name := "topPosted", fn := fun _ => fun
  | [d1, d2, d3, d4] => { results := [.lit (.bool true)], args := [d1, d2, d3, d4] }
  | _ => none }
def topPostedRow : OpenClaim := { program := "ytihfikepfhcboaa", sum := "63de4bec9620a9ad2f51bc6c45b1bb931a70356239599925a665c54749b78ab7", func := "cooperage/cooperagetop.TopPosted", spec := "topPosted", unfollowed := true, recurses := true, apart := false }
def TopPostedSaid : Prop := topPostedRow.holds Try.pinned (OpenSpec.ofChange topPostedSpec)

/-- ITS FALSE NEIGHBOUR: 'it returns false'. Refute it at one input. -/
def topPostedWrong : ChangeSpec := { name := "topPosted", fn := fun _ => fun
  | [d1, d2, d3, d4] => { results := [.lit (.bool false)], args := [d1, d2, d3, d4] }
  | _ => none }
def TopPostedWrongFalsely : Prop := topPostedRow.holds Try.pinned (OpenSpec.ofChange topPostedWrong)

/-- 'cooperagetop.TopHalves': WHATEVER THE INPUT: true; the input reads as it did. -/
def topHalvesSpec : ChangeSpec := { name := "topHalves", fn := fun _ => fun
  | [d1, d2, d3] => { results := [.lit (.bool true)], args := [d1, d2, d3] }
  | _ => none }
def topHalvesRow : OpenClaim := { program := "ytihfikepfhcboaa", sum := "63de4bec9620a9ad2f51bc6c45b1bb931a70356239599925a665c54749b78ab7", func := "cooperage/cooperagetop.TopHalves", spec := "topHalves", unfollowed := true, recurses := true, apart := false }
def TopHalvesSaid : Prop := topHalvesRow.holds Try.pinned (OpenSpec.ofChange topHalvesSpec)

/-- ITS FALSE NEIGHBOUR: 'it returns false'. Refute it at one input. -/
def topHalvesWrong : ChangeSpec := { name := "topHalves", fn := fun _ => fun
  | [d1, d2, d3] => { results := [.lit (.bool false)], args := [d1, d2, d3] }
  | _ => none }
def TopHalvesWrongFalsely : Prop := topHalvesRow.holds Try.pinned (OpenSpec.ofChange topHalvesWrong)

/-- 'cooperagetop.TopRounds': WHATEVER THE INPUT: true; the input reads as it did. -/
def topRoundsSpec : ChangeSpec := { name := "topRounds", fn := fun _ => fun
  | [d1, d2, d3, d4] => { results := [.lit (.bool true)], args := [d1, d2, d3, d4] }
  | _ => none }
def topRoundsRow : OpenClaim := { program := "ytihfikepfhcboaa", sum := "63de4bec9620a9ad2f51bc6c45b1bb931a70356239599925a665c54749b78ab7", func := "cooperage/cooperagetop.TopRounds", spec := "topRounds", unfollowed := true, recurses := true, apart := false }
def TopRoundsSaid : Prop := topRoundsRow.holds Try.pinned (OpenSpec.ofChange topRoundsSpec)

/-- ITS FALSE NEIGHBOUR: 'it returns false'. Refute it at one input. -/
def topRoundsWrong : ChangeSpec := { name := "topRounds", fn := fun _ => fun
  | [d1, d2, d3, d4] => { results := [.lit (.bool false)], args := [d1, d2, d3, d4] }
  | _ => none }
def TopRoundsWrongFalsely : Prop := topRoundsRow.holds Try.pinned (OpenSpec.ofChange topRoundsWrong)

/- THE SECOND FORM. 'bulk': how many values and letters a reading holds, each counted each time it is reached (what is shared counts as often as it is met; a slice's spare places count too). A statement '..UptoSaid' is the law's where the arguments, and the package variables that the reading takes, are together of bulk at most 1048576: NARROWER than '..Said'. Prove '..Said' where nothing that the law and all that it calls make is longer than what came in: it says more and counts as full. Else prove '..UptoSaid'. A law counts once. -/
mutual
def uptoBulk {H : Type} : DataW H → Nat
  | .lit (.string bytes) => bytes.length + 1
  | .lit _ => 1
  | .nil => 1
  | .ptr d => uptoBulk d + 1
  | .slice elems spare => uptoBulkAll elems + uptoBulkAll spare + 1
  | .agg parts => uptoBulkAll parts + 1
  | .iface _ d => uptoBulk d + 1
  | .map entries => uptoBulkEntries entries + 1
  | .held _ => 1
def uptoBulkAll {H : Type} : List (DataW H) → Nat
  | [] => 0
  | d :: r => uptoBulk d + uptoBulkAll r
def uptoBulkEntries {H : Type} : List (Lit × DataW H) → Nat
  | [] => 0
  | x :: r => uptoBulkEntry x + uptoBulkEntries r
def uptoBulkEntry {H : Type} : Lit × DataW H → Nat
  | (.string bytes, d) => bytes.length + uptoBulk d + 1
  | (_, d) => uptoBulk d + 1
 end
def uptoSmall : (H : Type) → List (DataW H) → Bool := fun _ ds => decide (uptoBulkAll ds ≤ 1048576)
def OpenSpec.upto (s : _root_.Go.ChangeSpec) : _root_.Go.OpenSpec := { _root_.Go.OpenSpec.ofChange s with cond := some uptoSmall }

/-- 'cooperagetop.TopMoved', WHERE WHAT IT READS IS OF BULK AT MOST 1048576: true; the input reads as it did. -/
def topMovedUptoRow : OpenClaim := { program := "ytihfikepfhcboaa", sum := "63de4bec9620a9ad2f51bc6c45b1bb931a70356239599925a665c54749b78ab7", func := "cooperage/cooperagetop.TopMoved", spec := "topMoved", unfollowed := true, recurses := true, apart := false, narrowed := true }
def TopMovedUptoSaid : Prop := topMovedUptoRow.holds Try.pinned (OpenSpec.upto topMovedSpec)

/-- 'cooperagetop.TopGalois', WHERE WHAT IT READS IS OF BULK AT MOST 1048576: true; the input reads as it did. -/
def topGaloisUptoRow : OpenClaim := { program := "ytihfikepfhcboaa", sum := "63de4bec9620a9ad2f51bc6c45b1bb931a70356239599925a665c54749b78ab7", func := "cooperage/cooperagetop.TopGalois", spec := "topGalois", unfollowed := true, recurses := true, apart := false, narrowed := true }
def TopGaloisUptoSaid : Prop := topGaloisUptoRow.holds Try.pinned (OpenSpec.upto topGaloisSpec)

/-- 'cooperagetop.TopPosted', WHERE WHAT IT READS IS OF BULK AT MOST 1048576: true; the input reads as it did. -/
def topPostedUptoRow : OpenClaim := { program := "ytihfikepfhcboaa", sum := "63de4bec9620a9ad2f51bc6c45b1bb931a70356239599925a665c54749b78ab7", func := "cooperage/cooperagetop.TopPosted", spec := "topPosted", unfollowed := true, recurses := true, apart := false, narrowed := true }
def TopPostedUptoSaid : Prop := topPostedUptoRow.holds Try.pinned (OpenSpec.upto topPostedSpec)

/-- 'cooperagetop.TopHalves', WHERE WHAT IT READS IS OF BULK AT MOST 1048576: true; the input reads as it did. -/
def topHalvesUptoRow : OpenClaim := { program := "ytihfikepfhcboaa", sum := "63de4bec9620a9ad2f51bc6c45b1bb931a70356239599925a665c54749b78ab7", func := "cooperage/cooperagetop.TopHalves", spec := "topHalves", unfollowed := true, recurses := true, apart := false, narrowed := true }
def TopHalvesUptoSaid : Prop := topHalvesUptoRow.holds Try.pinned (OpenSpec.upto topHalvesSpec)

/-- 'cooperagetop.TopRounds', WHERE WHAT IT READS IS OF BULK AT MOST 1048576: true; the input reads as it did. -/
def topRoundsUptoRow : OpenClaim := { program := "ytihfikepfhcboaa", sum := "63de4bec9620a9ad2f51bc6c45b1bb931a70356239599925a665c54749b78ab7", func := "cooperage/cooperagetop.TopRounds", spec := "topRounds", unfollowed := true, recurses := true, apart := false, narrowed := true }
def TopRoundsUptoSaid : Prop := topRoundsUptoRow.holds Try.pinned (OpenSpec.upto topRoundsSpec)

end Rows
end Go.Proofs.Ytihfikepfhcboaa
