/-
  No cell of these rows narrows 'for every input' (looked for: loops, veiled, ifaces, maps, wideKeys, modest, calm, conditions, laid).
  DERIVED. THE GIVEN ROWS OF THIS SEAT. 3 by the template 'for every input the law returns true; each argument reads behind the call as it read before'; 0 by the template 'total and deterministic' (their statements: YthfgapbbmkgfiaaTotals.lean).
  GIVEN WITH THE SEED: the statements are not yours to turn. If you find one false, say at which input.
  Laid BY PROGRAM, IN A SANDBOX (cutbox-rows.mjs): the forced cells as the released guide's own fill.sh prints them over the translation 81e30d65650228ac… (all of the seat's roots in one cut). By AI agents, Wed Nov 11 2026. No macro, syntax, notation, axiom, sorry.
-/
import Derived.Test.YthfgapbbmkgfiaaChecked
import GoSem.Claim
import GoSem.ClaimJoined
import GoSem.ClaimMapViews
import Derived.JoinedTies
import Derived.KernelRfl
namespace Go.Proofs.Ythfgapbbmkgfiaa
/- THE CELL 'sum', in the pinned program and in every row, IS THE sha256 OF THE DUMP (.gsa) THAT YthfgapbbmkgfiaaProg.lean LOADS. Nothing in Lean hashes anything: it is a label: what it is worth is what the hold of that sum in a sandbox is worth. -/
noncomputable def Try.pinned : Pinned := { name := "ythfgapbbmkgfiaa", sum := "81e30d65650228ac632caccd0651f01777879d269984bbf3fb29016e2f45a1c2", checked := Try.checked }
namespace Rows
def none {H : Type} : Left H := { results := [], args := [] }

/-- 'penumbralaw16.BsdfDraws': WHATEVER THE INPUT: true; the input reads as it did. -/
def bsdfDrawsSpec : ChangeSpec := { name := "bsdfDraws", fn := fun _ => fun
  | [d1, d2, d3] => { results := [.lit (.bool true)], args := [d1, d2, d3] }
  | _ => none }
def bsdfDrawsRow : OpenClaim := { program := "ythfgapbbmkgfiaa", sum := "81e30d65650228ac632caccd0651f01777879d269984bbf3fb29016e2f45a1c2", func := "penumbra/penumbralaw16.BsdfDraws", spec := "bsdfDraws", inPlace := ["math.sqrt"], unfollowed := true, recurses := true, apart := false }
def BsdfDrawsSaid : Prop := bsdfDrawsRow.holds Try.pinned (OpenSpec.ofChange bsdfDrawsSpec)

/-- ITS FALSE NEIGHBOUR: 'it returns false'. Refute it at one input. -/
def bsdfDrawsWrong : ChangeSpec := { name := "bsdfDraws", fn := fun _ => fun
  | [d1, d2, d3] => { results := [.lit (.bool false)], args := [d1, d2, d3] }
  | _ => none }
def BsdfDrawsWrongFalsely : Prop := bsdfDrawsRow.holds Try.pinned (OpenSpec.ofChange bsdfDrawsWrong)

/-- 'penumbralaw16.BsdfShares': WHATEVER THE INPUT: true; the input reads as it did. -/
def bsdfSharesSpec : ChangeSpec := { name := "bsdfShares", fn := fun _ => fun
  | [d] => { results := [.lit (.bool true)], args := [d] }
  | _ => none }
def bsdfSharesRow : OpenClaim := { program := "ythfgapbbmkgfiaa", sum := "81e30d65650228ac632caccd0651f01777879d269984bbf3fb29016e2f45a1c2", func := "penumbra/penumbralaw16.BsdfShares", spec := "bsdfShares", inPlace := ["math.sqrt"], unfollowed := true, recurses := true, apart := false }
def BsdfSharesSaid : Prop := bsdfSharesRow.holds Try.pinned (OpenSpec.ofChange bsdfSharesSpec)

/-- ITS FALSE NEIGHBOUR: 'it returns false'. Refute it at one input. -/
def bsdfSharesWrong : ChangeSpec := { name := "bsdfShares", fn := fun _ => fun
  | [d] => { results := [.lit (.bool false)], args := [d] }
  | _ => none }
def BsdfSharesWrongFalsely : Prop := bsdfSharesRow.holds Try.pinned (OpenSpec.ofChange bsdfSharesWrong)

/-- 'penumbralaw16.BsdfTells': WHATEVER THE INPUT: true; the input reads as it did. -/
def bsdfTellsSpec : ChangeSpec := { name := "bsdfTells", fn := fun _ => fun
  | [d1, d2, d3] => { results := [.lit (.bool true)], args := [d1, d2, d3] }
  | _ => none }
def bsdfTellsRow : OpenClaim := { program := "ythfgapbbmkgfiaa", sum := "81e30d65650228ac632caccd0651f01777879d269984bbf3fb29016e2f45a1c2", func := "penumbra/penumbralaw16.BsdfTells", spec := "bsdfTells", inPlace := ["math.sqrt"], unfollowed := true, recurses := true, apart := false }
def BsdfTellsSaid : Prop := bsdfTellsRow.holds Try.pinned (OpenSpec.ofChange bsdfTellsSpec)

/-- ITS FALSE NEIGHBOUR: 'it returns false'. Refute it at one input. -/
def bsdfTellsWrong : ChangeSpec := { name := "bsdfTells", fn := fun _ => fun
  | [d1, d2, d3] => { results := [.lit (.bool false)], args := [d1, d2, d3] }
  | _ => none }
def BsdfTellsWrongFalsely : Prop := bsdfTellsRow.holds Try.pinned (OpenSpec.ofChange bsdfTellsWrong)

/- THE SECOND FORM. 'bulk': how many values and letters a reading holds, each counted each time it is reached (what is shared counts as often as it is met; a slice's spare places count too). A statement '..UptoSaid' is the law's where the arguments, and the package variables that the reading takes, are together of bulk at most 1048576: NARROWER than '..Said'. Prove '..Said' where nothing that the law and all that it calls make is longer than what came in: it says more and counts as full. Else prove '..UptoSaid'. A law counts once. -/
mutual
def uptoBulk {H : Type} : DataW H → Nat
  | .lit (.string bytes) => bytes.length + 1
  | .lit _ => 1
  | .nil => 1
  | .ptr d => uptoBulk d + 1
  | .slice elems spare => uptoBulkAll elems + uptoBulkAll spare + 1
  | .agg parts => uptoBulkAll parts + 1
  | .iface _ d => uptoBulk d + 1
  | .map entries => uptoBulkEntries entries + 1
  | .held _ => 1
def uptoBulkAll {H : Type} : List (DataW H) → Nat
  | [] => 0
  | d :: r => uptoBulk d + uptoBulkAll r
def uptoBulkEntries {H : Type} : List (Lit × DataW H) → Nat
  | [] => 0
  | x :: r => uptoBulkEntry x + uptoBulkEntries r
def uptoBulkEntry {H : Type} : Lit × DataW H → Nat
  | (.string bytes, d) => bytes.length + uptoBulk d + 1
  | (_, d) => uptoBulk d + 1
 end
def uptoSmall : (H : Type) → List (DataW H) → Bool := fun _ ds => decide (uptoBulkAll ds ≤ 1048576)
def OpenSpec.upto (s : _root_.Go.ChangeSpec) : _root_.Go.OpenSpec := { _root_.Go.OpenSpec.ofChange s with cond := some uptoSmall }

/-- 'penumbralaw16.BsdfDraws', WHERE WHAT IT READS IS OF BULK AT MOST 1048576: true; the input reads as it did. -/
def bsdfDrawsUptoRow : OpenClaim := { program := "ythfgapbbmkgfiaa", sum := "81e30d65650228ac632caccd0651f01777879d269984bbf3fb29016e2f45a1c2", func := "penumbra/penumbralaw16.BsdfDraws", spec := "bsdfDraws", inPlace := ["math.sqrt"], unfollowed := true, recurses := true, apart := false, narrowed := true }
def BsdfDrawsUptoSaid : Prop := bsdfDrawsUptoRow.holds Try.pinned (OpenSpec.upto bsdfDrawsSpec)

/-- 'penumbralaw16.BsdfShares', WHERE WHAT IT READS IS OF BULK AT MOST 1048576: true; the input reads as it did. -/
def bsdfSharesUptoRow : OpenClaim := { program := "ythfgapbbmkgfiaa", sum := "81e30d65650228ac632caccd0651f01777879d269984bbf3fb29016e2f45a1c2", func := "penumbra/penumbralaw16.BsdfShares", spec := "bsdfShares", inPlace := ["math.sqrt"], unfollowed := true, recurses := true, apart := false, narrowed := true }
def BsdfSharesUptoSaid : Prop := bsdfSharesUptoRow.holds Try.pinned (OpenSpec.upto bsdfSharesSpec)

/-- 'penumbralaw16.BsdfTells', WHERE WHAT IT READS IS OF BULK AT MOST 1048576: true; the input reads as it did. -/
def bsdfTellsUptoRow : OpenClaim := { program := "ythfgapbbmkgfiaa", sum := "81e30d65650228ac632caccd0651f01777879d269984bbf3fb29016e2f45a1c2", func := "penumbra/penumbralaw16.BsdfTells", spec := "bsdfTells", inPlace := ["math.sqrt"], unfollowed := true, recurses := true, apart := false, narrowed := true }
def BsdfTellsUptoSaid : Prop := bsdfTellsUptoRow.holds Try.pinned (OpenSpec.upto bsdfTellsSpec)

end Rows
end Go.Proofs.Ythfgapbbmkgfiaa
