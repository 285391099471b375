/-
  No cell of these rows narrows 'for every input' (looked for: loops, veiled, ifaces, maps, wideKeys, modest, calm, conditions, laid).
  DERIVED. THE GIVEN ROWS OF THIS SEAT. 3 by the template 'for every input the law returns true; each argument reads behind the call as it read before'; 0 by the template 'total and deterministic' (their statements: YtlafnmdefhpeeaaTotals.lean).
  GIVEN WITH THE SEED: the statements are not yours to turn. If you find one false, say at which input.
  Laid BY PROGRAM, IN A SANDBOX (cutbox-rows.mjs): the forced cells as the released guide's own fill.sh prints them over the translation 9be91fb57f825b10… (all of the seat's roots in one cut). By AI agents, Wed Nov 11 2026. No macro, syntax, notation, axiom, sorry.
-/
import Derived.Test.YtlafnmdefhpeeaaChecked
import GoSem.Claim
import GoSem.ClaimJoined
import GoSem.ClaimMapViews
import Derived.JoinedTies
import Derived.KernelRfl
namespace Go.Proofs.Ytlafnmdefhpeeaa
/- THE CELL 'sum', in the pinned program and in every row, IS THE sha256 OF THE DUMP (.gsa) THAT YtlafnmdefhpeeaaProg.lean LOADS. Nothing in Lean hashes anything: it is a label: what it is worth is what the hold of that sum in a sandbox is worth. -/
noncomputable def Try.pinned : Pinned := { name := "ytlafnmdefhpeeaa", sum := "9be91fb57f825b1060122225481965bf8c5e93d5bf3acfd7826055e92dce7b3f", checked := Try.checked }
namespace Rows
def none {H : Type} : Left H := { results := [], args := [] }

/-- 'penumbralaw04.BoxThrough': WHATEVER THE INPUT: true; the input reads as it did. -/
def boxThroughSpec : ChangeSpec := { name := "boxThrough", fn := fun _ => fun
  | [d1, d2] => { results := [.lit (.bool true)], args := [d1, d2] }
  | _ => none }
def boxThroughRow : OpenClaim := { program := "ytlafnmdefhpeeaa", sum := "9be91fb57f825b1060122225481965bf8c5e93d5bf3acfd7826055e92dce7b3f", func := "penumbra/penumbralaw04.BoxThrough", spec := "boxThrough", inPlace := ["math.Float64frombits"], unfollowed := true, recurses := true, apart := false }
def BoxThroughSaid : Prop := boxThroughRow.holds Try.pinned (OpenSpec.ofChange boxThroughSpec)

/-- ITS FALSE NEIGHBOUR: 'it returns false'. Refute it at one input. -/
def boxThroughWrong : ChangeSpec := { name := "boxThrough", fn := fun _ => fun
  | [d1, d2] => { results := [.lit (.bool false)], args := [d1, d2] }
  | _ => none }
def BoxThroughWrongFalsely : Prop := boxThroughRow.holds Try.pinned (OpenSpec.ofChange boxThroughWrong)

/-- 'penumbralaw04.BoxGrows': WHATEVER THE INPUT: true; the input reads as it did. -/
def boxGrowsSpec : ChangeSpec := { name := "boxGrows", fn := fun _ => fun
  | [d1, d2, d3] => { results := [.lit (.bool true)], args := [d1, d2, d3] }
  | _ => none }
def boxGrowsRow : OpenClaim := { program := "ytlafnmdefhpeeaa", sum := "9be91fb57f825b1060122225481965bf8c5e93d5bf3acfd7826055e92dce7b3f", func := "penumbra/penumbralaw04.BoxGrows", spec := "boxGrows", inPlace := ["math.Float64frombits"], unfollowed := true, recurses := true, apart := false }
def BoxGrowsSaid : Prop := boxGrowsRow.holds Try.pinned (OpenSpec.ofChange boxGrowsSpec)

/-- ITS FALSE NEIGHBOUR: 'it returns false'. Refute it at one input. -/
def boxGrowsWrong : ChangeSpec := { name := "boxGrows", fn := fun _ => fun
  | [d1, d2, d3] => { results := [.lit (.bool false)], args := [d1, d2, d3] }
  | _ => none }
def BoxGrowsWrongFalsely : Prop := boxGrowsRow.holds Try.pinned (OpenSpec.ofChange boxGrowsWrong)

/-- 'penumbralaw04.BoxWithin': WHATEVER THE INPUT: true; the input reads as it did. -/
def boxWithinSpec : ChangeSpec := { name := "boxWithin", fn := fun _ => fun
  | [d1, d2, d3] => { results := [.lit (.bool true)], args := [d1, d2, d3] }
  | _ => none }
def boxWithinRow : OpenClaim := { program := "ytlafnmdefhpeeaa", sum := "9be91fb57f825b1060122225481965bf8c5e93d5bf3acfd7826055e92dce7b3f", func := "penumbra/penumbralaw04.BoxWithin", spec := "boxWithin", inPlace := ["math.Float64frombits"], unfollowed := true, recurses := true, apart := false }
def BoxWithinSaid : Prop := boxWithinRow.holds Try.pinned (OpenSpec.ofChange boxWithinSpec)

/-- ITS FALSE NEIGHBOUR: 'it returns false'. Refute it at one input. -/
def boxWithinWrong : ChangeSpec := { name := "boxWithin", fn := fun _ => fun
  | [d1, d2, d3] => { results := [.lit (.bool false)], args := [d1, d2, d3] }
  | _ => none }
def BoxWithinWrongFalsely : Prop := boxWithinRow.holds Try.pinned (OpenSpec.ofChange boxWithinWrong)

/- THE SECOND FORM. 'bulk': how many values and letters a reading holds, each counted each time it is reached (what is shared counts as often as it is met; a slice's spare places count too). A statement '..UptoSaid' is the law's where the arguments, and the package variables that the reading takes, are together of bulk at most 1048576: NARROWER than '..Said'. Prove '..Said' where nothing that the law and all that it calls make is longer than what came in: it says more and counts as full. Else prove '..UptoSaid'. A law counts once. -/
mutual
def uptoBulk {H : Type} : DataW H → Nat
  | .lit (.string bytes) => bytes.length + 1
  | .lit _ => 1
  | .nil => 1
  | .ptr d => uptoBulk d + 1
  | .slice elems spare => uptoBulkAll elems + uptoBulkAll spare + 1
  | .agg parts => uptoBulkAll parts + 1
  | .iface _ d => uptoBulk d + 1
  | .map entries => uptoBulkEntries entries + 1
  | .held _ => 1
def uptoBulkAll {H : Type} : List (DataW H) → Nat
  | [] => 0
  | d :: r => uptoBulk d + uptoBulkAll r
def uptoBulkEntries {H : Type} : List (Lit × DataW H) → Nat
  | [] => 0
  | x :: r => uptoBulkEntry x + uptoBulkEntries r
def uptoBulkEntry {H : Type} : Lit × DataW H → Nat
  | (.string bytes, d) => bytes.length + uptoBulk d + 1
  | (_, d) => uptoBulk d + 1
 end
def uptoSmall : (H : Type) → List (DataW H) → Bool := fun _ ds => decide (uptoBulkAll ds ≤ 1048576)
def OpenSpec.upto (s : _root_.Go.ChangeSpec) : _root_.Go.OpenSpec := { _root_.Go.OpenSpec.ofChange s with cond := some uptoSmall }

/-- 'penumbralaw04.BoxThrough', WHERE WHAT IT READS IS OF BULK AT MOST 1048576: true; the input reads as it did. -/
def boxThroughUptoRow : OpenClaim := { program := "ytlafnmdefhpeeaa", sum := "9be91fb57f825b1060122225481965bf8c5e93d5bf3acfd7826055e92dce7b3f", func := "penumbra/penumbralaw04.BoxThrough", spec := "boxThrough", inPlace := ["math.Float64frombits"], unfollowed := true, recurses := true, apart := false, narrowed := true }
def BoxThroughUptoSaid : Prop := boxThroughUptoRow.holds Try.pinned (OpenSpec.upto boxThroughSpec)

/-- 'penumbralaw04.BoxGrows', WHERE WHAT IT READS IS OF BULK AT MOST 1048576: true; the input reads as it did. -/
def boxGrowsUptoRow : OpenClaim := { program := "ytlafnmdefhpeeaa", sum := "9be91fb57f825b1060122225481965bf8c5e93d5bf3acfd7826055e92dce7b3f", func := "penumbra/penumbralaw04.BoxGrows", spec := "boxGrows", inPlace := ["math.Float64frombits"], unfollowed := true, recurses := true, apart := false, narrowed := true }
def BoxGrowsUptoSaid : Prop := boxGrowsUptoRow.holds Try.pinned (OpenSpec.upto boxGrowsSpec)

/-- 'penumbralaw04.BoxWithin', WHERE WHAT IT READS IS OF BULK AT MOST 1048576: true; the input reads as it did. -/
def boxWithinUptoRow : OpenClaim := { program := "ytlafnmdefhpeeaa", sum := "9be91fb57f825b1060122225481965bf8c5e93d5bf3acfd7826055e92dce7b3f", func := "penumbra/penumbralaw04.BoxWithin", spec := "boxWithin", inPlace := ["math.Float64frombits"], unfollowed := true, recurses := true, apart := false, narrowed := true }
def BoxWithinUptoSaid : Prop := boxWithinUptoRow.holds Try.pinned (OpenSpec.upto boxWithinSpec)

end Rows
end Go.Proofs.Ytlafnmdefhpeeaa
