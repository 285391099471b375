/-
  No cell of these rows narrows 'for every input' (looked for: loops, veiled, ifaces, maps, wideKeys, modest, calm, conditions, laid).
  DERIVED. THE GIVEN ROWS OF THIS SEAT. 2 by the template 'for every input the law returns true; each argument reads behind the call as it read before'; 0 by the template 'total and deterministic' (their statements: YtnehhebdbibecaaTotals.lean).
  GIVEN WITH THE SEED: the statements are not yours to turn. If you find one false, say at which input.
  Laid BY PROGRAM, IN A SANDBOX (cutbox-rows.mjs): the forced cells as the released guide's own fill.sh prints them over the translation 6198c2f3a97ca529… (all of the seat's roots in one cut). By AI agents, Wed Nov 11 2026. No macro, syntax, notation, axiom, sorry.
-/
import Derived.Test.YtnehhebdbibecaaChecked
import GoSem.Claim
import GoSem.ClaimJoined
import GoSem.ClaimMapViews
import Derived.JoinedTies
import Derived.KernelRfl
namespace Go.Proofs.Ytnehhebdbibecaa
/- THE CELL 'sum', in the pinned program and in every row, IS THE sha256 OF THE DUMP (.gsa) THAT YtnehhebdbibecaaProg.lean LOADS. Nothing in Lean hashes anything: it is a label: what it is worth is what the hold of that sum in a sandbox is worth. -/
noncomputable def Try.pinned : Pinned := { name := "ytnehhebdbibecaa", sum := "6198c2f3a97ca529b9c1ebce648630f2c1e2d8b6edb6b3896b01cddfe8426377", checked := Try.checked }
namespace Rows
def none {H : Type} : Left H := { results := [], args := [] }

/-- 'penumbralaw43.ToneMakes': WHATEVER THE INPUT: true; the input reads as it did. -/
def toneMakesSpec : ChangeSpec := { name := "toneMakes", fn := fun _ => fun
  | [d1, d2, d3] => { results := [.lit (.bool true)], args := [d1, d2, d3] }
  | _ => none }
def toneMakesRow : OpenClaim := { program := "ytnehhebdbibecaa", sum := "6198c2f3a97ca529b9c1ebce648630f2c1e2d8b6edb6b3896b01cddfe8426377", func := "penumbra/penumbralaw43.ToneMakes", spec := "toneMakes", unfollowed := true, recurses := true, apart := false }
def ToneMakesSaid : Prop := toneMakesRow.holds Try.pinned (OpenSpec.ofChange toneMakesSpec)

/-- ITS FALSE NEIGHBOUR: 'it returns false'. Refute it at one input. -/
def toneMakesWrong : ChangeSpec := { name := "toneMakes", fn := fun _ => fun
  | [d1, d2, d3] => { results := [.lit (.bool false)], args := [d1, d2, d3] }
  | _ => none }
def ToneMakesWrongFalsely : Prop := toneMakesRow.holds Try.pinned (OpenSpec.ofChange toneMakesWrong)

/-- 'penumbralaw43.ToneBytes': WHATEVER THE INPUT: true; the input reads as it did. -/
def toneBytesSpec : ChangeSpec := { name := "toneBytes", fn := fun _ => fun
  | [d1, d2, d3] => { results := [.lit (.bool true)], args := [d1, d2, d3] }
  | _ => none }
def toneBytesRow : OpenClaim := { program := "ytnehhebdbibecaa", sum := "6198c2f3a97ca529b9c1ebce648630f2c1e2d8b6edb6b3896b01cddfe8426377", func := "penumbra/penumbralaw43.ToneBytes", spec := "toneBytes", inPlace := ["math.Float64frombits"], unfollowed := true, recurses := true, apart := false }
def ToneBytesSaid : Prop := toneBytesRow.holds Try.pinned (OpenSpec.ofChange toneBytesSpec)

/-- ITS FALSE NEIGHBOUR: 'it returns false'. Refute it at one input. -/
def toneBytesWrong : ChangeSpec := { name := "toneBytes", fn := fun _ => fun
  | [d1, d2, d3] => { results := [.lit (.bool false)], args := [d1, d2, d3] }
  | _ => none }
def ToneBytesWrongFalsely : Prop := toneBytesRow.holds Try.pinned (OpenSpec.ofChange toneBytesWrong)

/- THE SECOND FORM. 'bulk': how many values and letters a reading holds, each counted each time it is reached (what is shared counts as often as it is met; a slice's spare places count too). A statement '..UptoSaid' is the law's where the arguments, and the package variables that the reading takes, are together of bulk at most 1048576: NARROWER than '..Said'. Prove '..Said' where nothing that the law and all that it calls make is longer than what came in: it says more and counts as full. Else prove '..UptoSaid'. A law counts once. -/
mutual
def uptoBulk {H : Type} : DataW H → Nat
  | .lit (.string bytes) => bytes.length + 1
  | .lit _ => 1
  | .nil => 1
  | .ptr d => uptoBulk d + 1
  | .slice elems spare => uptoBulkAll elems + uptoBulkAll spare + 1
  | .agg parts => uptoBulkAll parts + 1
  | .iface _ d => uptoBulk d + 1
  | .map entries => uptoBulkEntries entries + 1
  | .held _ => 1
def uptoBulkAll {H : Type} : List (DataW H) → Nat
  | [] => 0
  | d :: r => uptoBulk d + uptoBulkAll r
def uptoBulkEntries {H : Type} : List (Lit × DataW H) → Nat
  | [] => 0
  | x :: r => uptoBulkEntry x + uptoBulkEntries r
def uptoBulkEntry {H : Type} : Lit × DataW H → Nat
  | (.string bytes, d) => bytes.length + uptoBulk d + 1
  | (_, d) => uptoBulk d + 1
 end
def uptoSmall : (H : Type) → List (DataW H) → Bool := fun _ ds => decide (uptoBulkAll ds ≤ 1048576)
def OpenSpec.upto (s : _root_.Go.ChangeSpec) : _root_.Go.OpenSpec := { _root_.Go.OpenSpec.ofChange s with cond := some uptoSmall }

/-- 'penumbralaw43.ToneMakes', WHERE WHAT IT READS IS OF BULK AT MOST 1048576: true; the input reads as it did. -/
def toneMakesUptoRow : OpenClaim := { program := "ytnehhebdbibecaa", sum := "6198c2f3a97ca529b9c1ebce648630f2c1e2d8b6edb6b3896b01cddfe8426377", func := "penumbra/penumbralaw43.ToneMakes", spec := "toneMakes", unfollowed := true, recurses := true, apart := false, narrowed := true }
def ToneMakesUptoSaid : Prop := toneMakesUptoRow.holds Try.pinned (OpenSpec.upto toneMakesSpec)

/-- 'penumbralaw43.ToneBytes', WHERE WHAT IT READS IS OF BULK AT MOST 1048576: true; the input reads as it did. -/
def toneBytesUptoRow : OpenClaim := { program := "ytnehhebdbibecaa", sum := "6198c2f3a97ca529b9c1ebce648630f2c1e2d8b6edb6b3896b01cddfe8426377", func := "penumbra/penumbralaw43.ToneBytes", spec := "toneBytes", inPlace := ["math.Float64frombits"], unfollowed := true, recurses := true, apart := false, narrowed := true }
def ToneBytesUptoSaid : Prop := toneBytesUptoRow.holds Try.pinned (OpenSpec.upto toneBytesSpec)

end Rows
end Go.Proofs.Ytnehhebdbibecaa
