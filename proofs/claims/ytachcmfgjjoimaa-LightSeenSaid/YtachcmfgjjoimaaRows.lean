/-
  No cell of these rows narrows 'for every input' (looked for: loops, veiled, ifaces, maps, wideKeys, modest, calm, conditions, laid).
  DERIVED. THE GIVEN ROWS OF THIS SEAT. 3 by the template 'for every input the law returns true; each argument reads behind the call as it read before'; 0 by the template 'total and deterministic' (their statements: YtachcmfgjjoimaaTotals.lean).
  GIVEN WITH THE SEED: the statements are not yours to turn. If you find one false, say at which input.
  Laid BY PROGRAM, IN A SANDBOX (cutbox-rows.mjs): the forced cells as the released guide's own fill.sh prints them over the translation 7cebeec874ae83a2… (all of the seat's roots in one cut). By AI agents, Wed Nov 11 2026. No macro, syntax, notation, axiom, sorry.
-/
import Derived.Test.YtachcmfgjjoimaaChecked
import GoSem.Claim
import GoSem.ClaimJoined
import GoSem.ClaimMapViews
import Derived.JoinedTies
import Derived.KernelRfl
namespace Go.Proofs.Ytachcmfgjjoimaa
/- THE CELL 'sum', in the pinned program and in every row, IS THE sha256 OF THE DUMP (.gsa) THAT YtachcmfgjjoimaaProg.lean LOADS. Nothing in Lean hashes anything: it is a label: what it is worth is what the hold of that sum in a sandbox is worth. -/
noncomputable def Try.pinned : Pinned := { name := "ytachcmfgjjoimaa", sum := "7cebeec874ae83a232c4c6f07a5c53b9112194a5f04721a7dd13b8ff98cc644a", checked := Try.checked }
namespace Rows
def none {H : Type} : Left H := { results := [], args := [] }

/-- 'penumbralaw18.LightMakes': WHATEVER THE INPUT: true; the input reads as it did. -/
def lightMakesSpec : ChangeSpec := { name := "lightMakes", fn := fun _ => fun
  | [d1, d2, d3] => { results := [.lit (.bool true)], args := [d1, d2, d3] }
  | _ => none }
def lightMakesRow : OpenClaim := { program := "ytachcmfgjjoimaa", sum := "7cebeec874ae83a232c4c6f07a5c53b9112194a5f04721a7dd13b8ff98cc644a", func := "penumbra/penumbralaw18.LightMakes", spec := "lightMakes", inPlace := ["math.sqrt"], unfollowed := true, recurses := true, apart := false }
def LightMakesSaid : Prop := lightMakesRow.holds Try.pinned (OpenSpec.ofChange lightMakesSpec)

/-- ITS FALSE NEIGHBOUR: 'it returns false'. Refute it at one input. -/
def lightMakesWrong : ChangeSpec := { name := "lightMakes", fn := fun _ => fun
  | [d1, d2, d3] => { results := [.lit (.bool false)], args := [d1, d2, d3] }
  | _ => none }
def LightMakesWrongFalsely : Prop := lightMakesRow.holds Try.pinned (OpenSpec.ofChange lightMakesWrong)

/-- 'penumbralaw18.LightLooks': WHATEVER THE INPUT: true; the input reads as it did. -/
def lightLooksSpec : ChangeSpec := { name := "lightLooks", fn := fun _ => fun
  | [d1, d2] => { results := [.lit (.bool true)], args := [d1, d2] }
  | _ => none }
def lightLooksRow : OpenClaim := { program := "ytachcmfgjjoimaa", sum := "7cebeec874ae83a232c4c6f07a5c53b9112194a5f04721a7dd13b8ff98cc644a", func := "penumbra/penumbralaw18.LightLooks", spec := "lightLooks", inPlace := ["math.sqrt"], unfollowed := true, recurses := true, apart := false }
def LightLooksSaid : Prop := lightLooksRow.holds Try.pinned (OpenSpec.ofChange lightLooksSpec)

/-- ITS FALSE NEIGHBOUR: 'it returns false'. Refute it at one input. -/
def lightLooksWrong : ChangeSpec := { name := "lightLooks", fn := fun _ => fun
  | [d1, d2] => { results := [.lit (.bool false)], args := [d1, d2] }
  | _ => none }
def LightLooksWrongFalsely : Prop := lightLooksRow.holds Try.pinned (OpenSpec.ofChange lightLooksWrong)

/-- 'penumbralaw18.LightSeen': WHATEVER THE INPUT: true; the input reads as it did. -/
def lightSeenSpec : ChangeSpec := { name := "lightSeen", fn := fun _ => fun
  | [d] => { results := [.lit (.bool true)], args := [d] }
  | _ => none }
def lightSeenRow : OpenClaim := { program := "ytachcmfgjjoimaa", sum := "7cebeec874ae83a232c4c6f07a5c53b9112194a5f04721a7dd13b8ff98cc644a", func := "penumbra/penumbralaw18.LightSeen", spec := "lightSeen", inPlace := ["math.sqrt"], unfollowed := true, recurses := true, apart := false }
def LightSeenSaid : Prop := lightSeenRow.holds Try.pinned (OpenSpec.ofChange lightSeenSpec)

/-- ITS FALSE NEIGHBOUR: 'it returns false'. Refute it at one input. -/
def lightSeenWrong : ChangeSpec := { name := "lightSeen", fn := fun _ => fun
  | [d] => { results := [.lit (.bool false)], args := [d] }
  | _ => none }
def LightSeenWrongFalsely : Prop := lightSeenRow.holds Try.pinned (OpenSpec.ofChange lightSeenWrong)

/- THE SECOND FORM. 'bulk': how many values and letters a reading holds, each counted each time it is reached (what is shared counts as often as it is met; a slice's spare places count too). A statement '..UptoSaid' is the law's where the arguments, and the package variables that the reading takes, are together of bulk at most 1048576: NARROWER than '..Said'. Prove '..Said' where nothing that the law and all that it calls make is longer than what came in: it says more and counts as full. Else prove '..UptoSaid'. A law counts once. -/
mutual
def uptoBulk {H : Type} : DataW H → Nat
  | .lit (.string bytes) => bytes.length + 1
  | .lit _ => 1
  | .nil => 1
  | .ptr d => uptoBulk d + 1
  | .slice elems spare => uptoBulkAll elems + uptoBulkAll spare + 1
  | .agg parts => uptoBulkAll parts + 1
  | .iface _ d => uptoBulk d + 1
  | .map entries => uptoBulkEntries entries + 1
  | .held _ => 1
def uptoBulkAll {H : Type} : List (DataW H) → Nat
  | [] => 0
  | d :: r => uptoBulk d + uptoBulkAll r
def uptoBulkEntries {H : Type} : List (Lit × DataW H) → Nat
  | [] => 0
  | x :: r => uptoBulkEntry x + uptoBulkEntries r
def uptoBulkEntry {H : Type} : Lit × DataW H → Nat
  | (.string bytes, d) => bytes.length + uptoBulk d + 1
  | (_, d) => uptoBulk d + 1
 end
def uptoSmall : (H : Type) → List (DataW H) → Bool := fun _ ds => decide (uptoBulkAll ds ≤ 1048576)
def OpenSpec.upto (s : _root_.Go.ChangeSpec) : _root_.Go.OpenSpec := { _root_.Go.OpenSpec.ofChange s with cond := some uptoSmall }

/-- 'penumbralaw18.LightMakes', WHERE WHAT IT READS IS OF BULK AT MOST 1048576: true; the input reads as it did. -/
def lightMakesUptoRow : OpenClaim := { program := "ytachcmfgjjoimaa", sum := "7cebeec874ae83a232c4c6f07a5c53b9112194a5f04721a7dd13b8ff98cc644a", func := "penumbra/penumbralaw18.LightMakes", spec := "lightMakes", inPlace := ["math.sqrt"], unfollowed := true, recurses := true, apart := false, narrowed := true }
def LightMakesUptoSaid : Prop := lightMakesUptoRow.holds Try.pinned (OpenSpec.upto lightMakesSpec)

/-- 'penumbralaw18.LightLooks', WHERE WHAT IT READS IS OF BULK AT MOST 1048576: true; the input reads as it did. -/
def lightLooksUptoRow : OpenClaim := { program := "ytachcmfgjjoimaa", sum := "7cebeec874ae83a232c4c6f07a5c53b9112194a5f04721a7dd13b8ff98cc644a", func := "penumbra/penumbralaw18.LightLooks", spec := "lightLooks", inPlace := ["math.sqrt"], unfollowed := true, recurses := true, apart := false, narrowed := true }
def LightLooksUptoSaid : Prop := lightLooksUptoRow.holds Try.pinned (OpenSpec.upto lightLooksSpec)

/-- 'penumbralaw18.LightSeen', WHERE WHAT IT READS IS OF BULK AT MOST 1048576: true; the input reads as it did. -/
def lightSeenUptoRow : OpenClaim := { program := "ytachcmfgjjoimaa", sum := "7cebeec874ae83a232c4c6f07a5c53b9112194a5f04721a7dd13b8ff98cc644a", func := "penumbra/penumbralaw18.LightSeen", spec := "lightSeen", inPlace := ["math.sqrt"], unfollowed := true, recurses := true, apart := false, narrowed := true }
def LightSeenUptoSaid : Prop := lightSeenUptoRow.holds Try.pinned (OpenSpec.upto lightSeenSpec)

end Rows
end Go.Proofs.Ytachcmfgjjoimaa
