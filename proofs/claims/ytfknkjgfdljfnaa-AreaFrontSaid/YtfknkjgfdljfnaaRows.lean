/-
  No cell of these rows narrows 'for every input' (looked for: loops, veiled, ifaces, maps, wideKeys, modest, calm, conditions, laid).
  DERIVED. THE GIVEN ROWS OF THIS SEAT. 3 by the template 'for every input the law returns true; each argument reads behind the call as it read before'; 0 by the template 'total and deterministic' (their statements: YtfknkjgfdljfnaaTotals.lean).
  GIVEN WITH THE SEED: the statements are not yours to turn. If you find one false, say at which input.
  Laid BY PROGRAM, IN A SANDBOX (cutbox-rows.mjs): the forced cells as the released guide's own fill.sh prints them over the translation 3c58d0b05d9d5f94… (all of the seat's roots in one cut). By AI agents, Wed Nov 11 2026. No macro, syntax, notation, axiom, sorry.
-/
import Derived.Test.YtfknkjgfdljfnaaChecked
import GoSem.Claim
import GoSem.ClaimJoined
import GoSem.ClaimMapViews
import Derived.JoinedTies
import Derived.KernelRfl
namespace Go.Proofs.Ytfknkjgfdljfnaa
/- THE CELL 'sum', in the pinned program and in every row, IS THE sha256 OF THE DUMP (.gsa) THAT YtfknkjgfdljfnaaProg.lean LOADS. Nothing in Lean hashes anything: it is a label: what it is worth is what the hold of that sum in a sandbox is worth. -/
noncomputable def Try.pinned : Pinned := { name := "ytfknkjgfdljfnaa", sum := "3c58d0b05d9d5f94934633cb54ba20136d5b30e5b29102901b5ec6b9afaa96f7", checked := Try.checked }
namespace Rows
def none {H : Type} : Left H := { results := [], args := [] }

/-- 'penumbralaw11.AreaPoints': WHATEVER THE INPUT: true; the input reads as it did. -/
def areaPointsSpec : ChangeSpec := { name := "areaPoints", fn := fun _ => fun
  | [d1, d2, d3] => { results := [.lit (.bool true)], args := [d1, d2, d3] }
  | _ => none }
def areaPointsRow : OpenClaim := { program := "ytfknkjgfdljfnaa", sum := "3c58d0b05d9d5f94934633cb54ba20136d5b30e5b29102901b5ec6b9afaa96f7", func := "penumbra/penumbralaw11.AreaPoints", spec := "areaPoints", inPlace := ["math.sqrt"], unfollowed := true, recurses := true, apart := false }
def AreaPointsSaid : Prop := areaPointsRow.holds Try.pinned (OpenSpec.ofChange areaPointsSpec)

/-- ITS FALSE NEIGHBOUR: 'it returns false'. Refute it at one input. -/
def areaPointsWrong : ChangeSpec := { name := "areaPoints", fn := fun _ => fun
  | [d1, d2, d3] => { results := [.lit (.bool false)], args := [d1, d2, d3] }
  | _ => none }
def AreaPointsWrongFalsely : Prop := areaPointsRow.holds Try.pinned (OpenSpec.ofChange areaPointsWrong)

/-- 'penumbralaw11.AreaSolid': WHATEVER THE INPUT: true; the input reads as it did. -/
def areaSolidSpec : ChangeSpec := { name := "areaSolid", fn := fun _ => fun
  | [d1, d2, d3] => { results := [.lit (.bool true)], args := [d1, d2, d3] }
  | _ => none }
def areaSolidRow : OpenClaim := { program := "ytfknkjgfdljfnaa", sum := "3c58d0b05d9d5f94934633cb54ba20136d5b30e5b29102901b5ec6b9afaa96f7", func := "penumbra/penumbralaw11.AreaSolid", spec := "areaSolid", inPlace := ["math.sqrt"], unfollowed := true, recurses := true, apart := false }
def AreaSolidSaid : Prop := areaSolidRow.holds Try.pinned (OpenSpec.ofChange areaSolidSpec)

/-- ITS FALSE NEIGHBOUR: 'it returns false'. Refute it at one input. -/
def areaSolidWrong : ChangeSpec := { name := "areaSolid", fn := fun _ => fun
  | [d1, d2, d3] => { results := [.lit (.bool false)], args := [d1, d2, d3] }
  | _ => none }
def AreaSolidWrongFalsely : Prop := areaSolidRow.holds Try.pinned (OpenSpec.ofChange areaSolidWrong)

/-- 'penumbralaw11.AreaFront': WHATEVER THE INPUT: true; the input reads as it did. -/
def areaFrontSpec : ChangeSpec := { name := "areaFront", fn := fun _ => fun
  | [d1, d2] => { results := [.lit (.bool true)], args := [d1, d2] }
  | _ => none }
def areaFrontRow : OpenClaim := { program := "ytfknkjgfdljfnaa", sum := "3c58d0b05d9d5f94934633cb54ba20136d5b30e5b29102901b5ec6b9afaa96f7", func := "penumbra/penumbralaw11.AreaFront", spec := "areaFront", inPlace := ["math.sqrt"], unfollowed := true, recurses := true, apart := false }
def AreaFrontSaid : Prop := areaFrontRow.holds Try.pinned (OpenSpec.ofChange areaFrontSpec)

/-- ITS FALSE NEIGHBOUR: 'it returns false'. Refute it at one input. -/
def areaFrontWrong : ChangeSpec := { name := "areaFront", fn := fun _ => fun
  | [d1, d2] => { results := [.lit (.bool false)], args := [d1, d2] }
  | _ => none }
def AreaFrontWrongFalsely : Prop := areaFrontRow.holds Try.pinned (OpenSpec.ofChange areaFrontWrong)

/- THE SECOND FORM. 'bulk': how many values and letters a reading holds, each counted each time it is reached (what is shared counts as often as it is met; a slice's spare places count too). A statement '..UptoSaid' is the law's where the arguments, and the package variables that the reading takes, are together of bulk at most 1048576: NARROWER than '..Said'. Prove '..Said' where nothing that the law and all that it calls make is longer than what came in: it says more and counts as full. Else prove '..UptoSaid'. A law counts once. -/
mutual
def uptoBulk {H : Type} : DataW H → Nat
  | .lit (.string bytes) => bytes.length + 1
  | .lit _ => 1
  | .nil => 1
  | .ptr d => uptoBulk d + 1
  | .slice elems spare => uptoBulkAll elems + uptoBulkAll spare + 1
  | .agg parts => uptoBulkAll parts + 1
  | .iface _ d => uptoBulk d + 1
  | .map entries => uptoBulkEntries entries + 1
  | .held _ => 1
def uptoBulkAll {H : Type} : List (DataW H) → Nat
  | [] => 0
  | d :: r => uptoBulk d + uptoBulkAll r
def uptoBulkEntries {H : Type} : List (Lit × DataW H) → Nat
  | [] => 0
  | x :: r => uptoBulkEntry x + uptoBulkEntries r
def uptoBulkEntry {H : Type} : Lit × DataW H → Nat
  | (.string bytes, d) => bytes.length + uptoBulk d + 1
  | (_, d) => uptoBulk d + 1
 end
def uptoSmall : (H : Type) → List (DataW H) → Bool := fun _ ds => decide (uptoBulkAll ds ≤ 1048576)
def OpenSpec.upto (s : _root_.Go.ChangeSpec) : _root_.Go.OpenSpec := { _root_.Go.OpenSpec.ofChange s with cond := some uptoSmall }

/-- 'penumbralaw11.AreaPoints', WHERE WHAT IT READS IS OF BULK AT MOST 1048576: true; the input reads as it did. -/
def areaPointsUptoRow : OpenClaim := { program := "ytfknkjgfdljfnaa", sum := "3c58d0b05d9d5f94934633cb54ba20136d5b30e5b29102901b5ec6b9afaa96f7", func := "penumbra/penumbralaw11.AreaPoints", spec := "areaPoints", inPlace := ["math.sqrt"], unfollowed := true, recurses := true, apart := false, narrowed := true }
def AreaPointsUptoSaid : Prop := areaPointsUptoRow.holds Try.pinned (OpenSpec.upto areaPointsSpec)

/-- 'penumbralaw11.AreaSolid', WHERE WHAT IT READS IS OF BULK AT MOST 1048576: true; the input reads as it did. -/
def areaSolidUptoRow : OpenClaim := { program := "ytfknkjgfdljfnaa", sum := "3c58d0b05d9d5f94934633cb54ba20136d5b30e5b29102901b5ec6b9afaa96f7", func := "penumbra/penumbralaw11.AreaSolid", spec := "areaSolid", inPlace := ["math.sqrt"], unfollowed := true, recurses := true, apart := false, narrowed := true }
def AreaSolidUptoSaid : Prop := areaSolidUptoRow.holds Try.pinned (OpenSpec.upto areaSolidSpec)

/-- 'penumbralaw11.AreaFront', WHERE WHAT IT READS IS OF BULK AT MOST 1048576: true; the input reads as it did. -/
def areaFrontUptoRow : OpenClaim := { program := "ytfknkjgfdljfnaa", sum := "3c58d0b05d9d5f94934633cb54ba20136d5b30e5b29102901b5ec6b9afaa96f7", func := "penumbra/penumbralaw11.AreaFront", spec := "areaFront", inPlace := ["math.sqrt"], unfollowed := true, recurses := true, apart := false, narrowed := true }
def AreaFrontUptoSaid : Prop := areaFrontUptoRow.holds Try.pinned (OpenSpec.upto areaFrontSpec)

end Rows
end Go.Proofs.Ytfknkjgfdljfnaa
