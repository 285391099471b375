/-
  No cell of these rows narrows 'for every input' (looked for: loops, veiled, ifaces, maps, wideKeys, modest, calm, conditions, laid).
  DERIVED. THE GIVEN ROWS OF THIS SEAT. 3 by the template 'for every input the law returns true; each argument reads behind the call as it read before'; 0 by the template 'total and deterministic' (their statements: YtnkpmpghoblkjaaTotals.lean).
  GIVEN WITH THE SEED: the statements are not yours to turn. If you find one false, say at which input.
  Laid BY PROGRAM, IN A SANDBOX (cutbox-rows.mjs): the forced cells as the released guide's own fill.sh prints them over the translation 12cc50641becb210… (all of the seat's roots in one cut). By AI agents, Wed Nov 11 2026. No macro, syntax, notation, axiom, sorry.
-/
import Derived.Test.YtnkpmpghoblkjaaChecked
import GoSem.Claim
import GoSem.ClaimJoined
import GoSem.ClaimMapViews
import Derived.JoinedTies
import Derived.KernelRfl
namespace Go.Proofs.Ytnkpmpghoblkjaa
/- THE CELL 'sum', in the pinned program and in every row, IS THE sha256 OF THE DUMP (.gsa) THAT YtnkpmpghoblkjaaProg.lean LOADS. Nothing in Lean hashes anything: it is a label: what it is worth is what the hold of that sum in a sandbox is worth. -/
noncomputable def Try.pinned : Pinned := { name := "ytnkpmpghoblkjaa", sum := "12cc50641becb210eb33cc78194b2305847934c9331a7e08633c681f6e010e66", checked := Try.checked }
namespace Rows
def none {H : Type} : Left H := { results := [], args := [] }

/-- 'penumbralaw10.TriMeets': WHATEVER THE INPUT: true; the input reads as it did. -/
def triMeetsSpec : ChangeSpec := { name := "triMeets", fn := fun _ => fun
  | [d1, d2] => { results := [.lit (.bool true)], args := [d1, d2] }
  | _ => none }
def triMeetsRow : OpenClaim := { program := "ytnkpmpghoblkjaa", sum := "12cc50641becb210eb33cc78194b2305847934c9331a7e08633c681f6e010e66", func := "penumbra/penumbralaw10.TriMeets", spec := "triMeets", inPlace := ["math.Float64frombits", "math.sqrt"], unfollowed := true, recurses := true, apart := false }
def TriMeetsSaid : Prop := triMeetsRow.holds Try.pinned (OpenSpec.ofChange triMeetsSpec)

/-- ITS FALSE NEIGHBOUR: 'it returns false'. Refute it at one input. -/
def triMeetsWrong : ChangeSpec := { name := "triMeets", fn := fun _ => fun
  | [d1, d2] => { results := [.lit (.bool false)], args := [d1, d2] }
  | _ => none }
def TriMeetsWrongFalsely : Prop := triMeetsRow.holds Try.pinned (OpenSpec.ofChange triMeetsWrong)

/-- 'penumbralaw10.TriBetter': WHATEVER THE INPUT: true; the input reads as it did. -/
def triBetterSpec : ChangeSpec := { name := "triBetter", fn := fun _ => fun
  | [d1, d2, d3] => { results := [.lit (.bool true)], args := [d1, d2, d3] }
  | _ => none }
def triBetterRow : OpenClaim := { program := "ytnkpmpghoblkjaa", sum := "12cc50641becb210eb33cc78194b2305847934c9331a7e08633c681f6e010e66", func := "penumbra/penumbralaw10.TriBetter", spec := "triBetter", inPlace := ["math.Float64frombits", "math.sqrt"], unfollowed := true, recurses := true, apart := false }
def TriBetterSaid : Prop := triBetterRow.holds Try.pinned (OpenSpec.ofChange triBetterSpec)

/-- ITS FALSE NEIGHBOUR: 'it returns false'. Refute it at one input. -/
def triBetterWrong : ChangeSpec := { name := "triBetter", fn := fun _ => fun
  | [d1, d2, d3] => { results := [.lit (.bool false)], args := [d1, d2, d3] }
  | _ => none }
def TriBetterWrongFalsely : Prop := triBetterRow.holds Try.pinned (OpenSpec.ofChange triBetterWrong)

/-- 'penumbralaw10.TriLooks': WHATEVER THE INPUT: true; the input reads as it did. -/
def triLooksSpec : ChangeSpec := { name := "triLooks", fn := fun _ => fun
  | [d1, d2, d3] => { results := [.lit (.bool true)], args := [d1, d2, d3] }
  | _ => none }
def triLooksRow : OpenClaim := { program := "ytnkpmpghoblkjaa", sum := "12cc50641becb210eb33cc78194b2305847934c9331a7e08633c681f6e010e66", func := "penumbra/penumbralaw10.TriLooks", spec := "triLooks", inPlace := ["math.sqrt", "math.Float64frombits"], unfollowed := true, recurses := true, apart := false }
def TriLooksSaid : Prop := triLooksRow.holds Try.pinned (OpenSpec.ofChange triLooksSpec)

/-- ITS FALSE NEIGHBOUR: 'it returns false'. Refute it at one input. -/
def triLooksWrong : ChangeSpec := { name := "triLooks", fn := fun _ => fun
  | [d1, d2, d3] => { results := [.lit (.bool false)], args := [d1, d2, d3] }
  | _ => none }
def TriLooksWrongFalsely : Prop := triLooksRow.holds Try.pinned (OpenSpec.ofChange triLooksWrong)

/- THE SECOND FORM. 'bulk': how many values and letters a reading holds, each counted each time it is reached (what is shared counts as often as it is met; a slice's spare places count too). A statement '..UptoSaid' is the law's where the arguments, and the package variables that the reading takes, are together of bulk at most 1048576: NARROWER than '..Said'. Prove '..Said' where nothing that the law and all that it calls make is longer than what came in: it says more and counts as full. Else prove '..UptoSaid'. A law counts once. -/
mutual
def uptoBulk {H : Type} : DataW H → Nat
  | .lit (.string bytes) => bytes.length + 1
  | .lit _ => 1
  | .nil => 1
  | .ptr d => uptoBulk d + 1
  | .slice elems spare => uptoBulkAll elems + uptoBulkAll spare + 1
  | .agg parts => uptoBulkAll parts + 1
  | .iface _ d => uptoBulk d + 1
  | .map entries => uptoBulkEntries entries + 1
  | .held _ => 1
def uptoBulkAll {H : Type} : List (DataW H) → Nat
  | [] => 0
  | d :: r => uptoBulk d + uptoBulkAll r
def uptoBulkEntries {H : Type} : List (Lit × DataW H) → Nat
  | [] => 0
  | x :: r => uptoBulkEntry x + uptoBulkEntries r
def uptoBulkEntry {H : Type} : Lit × DataW H → Nat
  | (.string bytes, d) => bytes.length + uptoBulk d + 1
  | (_, d) => uptoBulk d + 1
 end
def uptoSmall : (H : Type) → List (DataW H) → Bool := fun _ ds => decide (uptoBulkAll ds ≤ 1048576)
def OpenSpec.upto (s : _root_.Go.ChangeSpec) : _root_.Go.OpenSpec := { _root_.Go.OpenSpec.ofChange s with cond := some uptoSmall }

/-- 'penumbralaw10.TriMeets', WHERE WHAT IT READS IS OF BULK AT MOST 1048576: true; the input reads as it did. -/
def triMeetsUptoRow : OpenClaim := { program := "ytnkpmpghoblkjaa", sum := "12cc50641becb210eb33cc78194b2305847934c9331a7e08633c681f6e010e66", func := "penumbra/penumbralaw10.TriMeets", spec := "triMeets", inPlace := ["math.Float64frombits", "math.sqrt"], unfollowed := true, recurses := true, apart := false, narrowed := true }
def TriMeetsUptoSaid : Prop := triMeetsUptoRow.holds Try.pinned (OpenSpec.upto triMeetsSpec)

/-- 'penumbralaw10.TriBetter', WHERE WHAT IT READS IS OF BULK AT MOST 1048576: true; the input reads as it did. -/
def triBetterUptoRow : OpenClaim := { program := "ytnkpmpghoblkjaa", sum := "12cc50641becb210eb33cc78194b2305847934c9331a7e08633c681f6e010e66", func := "penumbra/penumbralaw10.TriBetter", spec := "triBetter", inPlace := ["math.Float64frombits", "math.sqrt"], unfollowed := true, recurses := true, apart := false, narrowed := true }
def TriBetterUptoSaid : Prop := triBetterUptoRow.holds Try.pinned (OpenSpec.upto triBetterSpec)

/-- 'penumbralaw10.TriLooks', WHERE WHAT IT READS IS OF BULK AT MOST 1048576: true; the input reads as it did. -/
def triLooksUptoRow : OpenClaim := { program := "ytnkpmpghoblkjaa", sum := "12cc50641becb210eb33cc78194b2305847934c9331a7e08633c681f6e010e66", func := "penumbra/penumbralaw10.TriLooks", spec := "triLooks", inPlace := ["math.sqrt", "math.Float64frombits"], unfollowed := true, recurses := true, apart := false, narrowed := true }
def TriLooksUptoSaid : Prop := triLooksUptoRow.holds Try.pinned (OpenSpec.upto triLooksSpec)

end Rows
end Go.Proofs.Ytnkpmpghoblkjaa
