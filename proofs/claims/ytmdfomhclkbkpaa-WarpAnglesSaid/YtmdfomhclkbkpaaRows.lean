/-
  No cell of these rows narrows 'for every input' (looked for: loops, veiled, ifaces, maps, wideKeys, modest, calm, conditions, laid).
  DERIVED. THE GIVEN ROWS OF THIS SEAT. 4 by the template 'for every input the law returns true; each argument reads behind the call as it read before'; 0 by the template 'total and deterministic' (their statements: YtmdfomhclkbkpaaTotals.lean).
  GIVEN WITH THE SEED: the statements are not yours to turn. If you find one false, say at which input.
  Laid BY PROGRAM, IN A SANDBOX (cutbox-rows.mjs): the forced cells as the released guide's own fill.sh prints them over the translation f60ad95ab2349bdf… (all of the seat's roots in one cut). By AI agents, Wed Nov 11 2026. No macro, syntax, notation, axiom, sorry.
-/
import Derived.Test.YtmdfomhclkbkpaaChecked
import GoSem.Claim
import GoSem.ClaimJoined
import GoSem.ClaimMapViews
import Derived.JoinedTies
import Derived.KernelRfl
namespace Go.Proofs.Ytmdfomhclkbkpaa
/- THE CELL 'sum', in the pinned program and in every row, IS THE sha256 OF THE DUMP (.gsa) THAT YtmdfomhclkbkpaaProg.lean LOADS. Nothing in Lean hashes anything: it is a label: what it is worth is what the hold of that sum in a sandbox is worth. -/
noncomputable def Try.pinned : Pinned := { name := "ytmdfomhclkbkpaa", sum := "f60ad95ab2349bdfc0093c7a2c76fff795b2d9575b76204a29246f9bb75646fe", checked := Try.checked }
namespace Rows
def none {H : Type} : Left H := { results := [], args := [] }

/-- 'penumbralaw09.WarpPlane': WHATEVER THE INPUT: true; the input reads as it did. -/
def warpPlaneSpec : ChangeSpec := { name := "warpPlane", fn := fun _ => fun
  | [d1, d2] => { results := [.lit (.bool true)], args := [d1, d2] }
  | _ => none }
def warpPlaneRow : OpenClaim := { program := "ytmdfomhclkbkpaa", sum := "f60ad95ab2349bdfc0093c7a2c76fff795b2d9575b76204a29246f9bb75646fe", func := "penumbra/penumbralaw09.WarpPlane", spec := "warpPlane", inPlace := ["math.sqrt"], unfollowed := true, recurses := true, apart := false }
def WarpPlaneSaid : Prop := warpPlaneRow.holds Try.pinned (OpenSpec.ofChange warpPlaneSpec)

/-- ITS FALSE NEIGHBOUR: 'it returns false'. Refute it at one input. -/
def warpPlaneWrong : ChangeSpec := { name := "warpPlane", fn := fun _ => fun
  | [d1, d2] => { results := [.lit (.bool false)], args := [d1, d2] }
  | _ => none }
def WarpPlaneWrongFalsely : Prop := warpPlaneRow.holds Try.pinned (OpenSpec.ofChange warpPlaneWrong)

/-- 'penumbralaw09.WarpAngles': WHATEVER THE INPUT: true; the input reads as it did. -/
def warpAnglesSpec : ChangeSpec := { name := "warpAngles", fn := fun _ => fun
  | [d1, d2, d3] => { results := [.lit (.bool true)], args := [d1, d2, d3] }
  | _ => none }
def warpAnglesRow : OpenClaim := { program := "ytmdfomhclkbkpaa", sum := "f60ad95ab2349bdfc0093c7a2c76fff795b2d9575b76204a29246f9bb75646fe", func := "penumbra/penumbralaw09.WarpAngles", spec := "warpAngles", inPlace := ["math.sqrt"], unfollowed := true, recurses := true, apart := false }
def WarpAnglesSaid : Prop := warpAnglesRow.holds Try.pinned (OpenSpec.ofChange warpAnglesSpec)

/-- ITS FALSE NEIGHBOUR: 'it returns false'. Refute it at one input. -/
def warpAnglesWrong : ChangeSpec := { name := "warpAngles", fn := fun _ => fun
  | [d1, d2, d3] => { results := [.lit (.bool false)], args := [d1, d2, d3] }
  | _ => none }
def WarpAnglesWrongFalsely : Prop := warpAnglesRow.holds Try.pinned (OpenSpec.ofChange warpAnglesWrong)

/-- 'penumbralaw09.WarpLine': WHATEVER THE INPUT: true; the input reads as it did. -/
def warpLineSpec : ChangeSpec := { name := "warpLine", fn := fun _ => fun
  | [d1, d2] => { results := [.lit (.bool true)], args := [d1, d2] }
  | _ => none }
def warpLineRow : OpenClaim := { program := "ytmdfomhclkbkpaa", sum := "f60ad95ab2349bdfc0093c7a2c76fff795b2d9575b76204a29246f9bb75646fe", func := "penumbra/penumbralaw09.WarpLine", spec := "warpLine", inPlace := ["math.sqrt"], unfollowed := true, recurses := true, apart := false }
def WarpLineSaid : Prop := warpLineRow.holds Try.pinned (OpenSpec.ofChange warpLineSpec)

/-- ITS FALSE NEIGHBOUR: 'it returns false'. Refute it at one input. -/
def warpLineWrong : ChangeSpec := { name := "warpLine", fn := fun _ => fun
  | [d1, d2] => { results := [.lit (.bool false)], args := [d1, d2] }
  | _ => none }
def WarpLineWrongFalsely : Prop := warpLineRow.holds Try.pinned (OpenSpec.ofChange warpLineWrong)

/-- 'penumbralaw09.WarpSpace': WHATEVER THE INPUT: true; the input reads as it did. -/
def warpSpaceSpec : ChangeSpec := { name := "warpSpace", fn := fun _ => fun
  | [d1, d2] => { results := [.lit (.bool true)], args := [d1, d2] }
  | _ => none }
def warpSpaceRow : OpenClaim := { program := "ytmdfomhclkbkpaa", sum := "f60ad95ab2349bdfc0093c7a2c76fff795b2d9575b76204a29246f9bb75646fe", func := "penumbra/penumbralaw09.WarpSpace", spec := "warpSpace", inPlace := ["math.sqrt"], unfollowed := true, recurses := true, apart := false }
def WarpSpaceSaid : Prop := warpSpaceRow.holds Try.pinned (OpenSpec.ofChange warpSpaceSpec)

/-- ITS FALSE NEIGHBOUR: 'it returns false'. Refute it at one input. -/
def warpSpaceWrong : ChangeSpec := { name := "warpSpace", fn := fun _ => fun
  | [d1, d2] => { results := [.lit (.bool false)], args := [d1, d2] }
  | _ => none }
def WarpSpaceWrongFalsely : Prop := warpSpaceRow.holds Try.pinned (OpenSpec.ofChange warpSpaceWrong)

/- THE SECOND FORM. 'bulk': how many values and letters a reading holds, each counted each time it is reached (what is shared counts as often as it is met; a slice's spare places count too). A statement '..UptoSaid' is the law's where the arguments, and the package variables that the reading takes, are together of bulk at most 1048576: NARROWER than '..Said'. Prove '..Said' where nothing that the law and all that it calls make is longer than what came in: it says more and counts as full. Else prove '..UptoSaid'. A law counts once. -/
mutual
def uptoBulk {H : Type} : DataW H → Nat
  | .lit (.string bytes) => bytes.length + 1
  | .lit _ => 1
  | .nil => 1
  | .ptr d => uptoBulk d + 1
  | .slice elems spare => uptoBulkAll elems + uptoBulkAll spare + 1
  | .agg parts => uptoBulkAll parts + 1
  | .iface _ d => uptoBulk d + 1
  | .map entries => uptoBulkEntries entries + 1
  | .held _ => 1
def uptoBulkAll {H : Type} : List (DataW H) → Nat
  | [] => 0
  | d :: r => uptoBulk d + uptoBulkAll r
def uptoBulkEntries {H : Type} : List (Lit × DataW H) → Nat
  | [] => 0
  | x :: r => uptoBulkEntry x + uptoBulkEntries r
def uptoBulkEntry {H : Type} : Lit × DataW H → Nat
  | (.string bytes, d) => bytes.length + uptoBulk d + 1
  | (_, d) => uptoBulk d + 1
 end
def uptoSmall : (H : Type) → List (DataW H) → Bool := fun _ ds => decide (uptoBulkAll ds ≤ 1048576)
def OpenSpec.upto (s : _root_.Go.ChangeSpec) : _root_.Go.OpenSpec := { _root_.Go.OpenSpec.ofChange s with cond := some uptoSmall }

/-- 'penumbralaw09.WarpPlane', WHERE WHAT IT READS IS OF BULK AT MOST 1048576: true; the input reads as it did. -/
def warpPlaneUptoRow : OpenClaim := { program := "ytmdfomhclkbkpaa", sum := "f60ad95ab2349bdfc0093c7a2c76fff795b2d9575b76204a29246f9bb75646fe", func := "penumbra/penumbralaw09.WarpPlane", spec := "warpPlane", inPlace := ["math.sqrt"], unfollowed := true, recurses := true, apart := false, narrowed := true }
def WarpPlaneUptoSaid : Prop := warpPlaneUptoRow.holds Try.pinned (OpenSpec.upto warpPlaneSpec)

/-- 'penumbralaw09.WarpAngles', WHERE WHAT IT READS IS OF BULK AT MOST 1048576: true; the input reads as it did. -/
def warpAnglesUptoRow : OpenClaim := { program := "ytmdfomhclkbkpaa", sum := "f60ad95ab2349bdfc0093c7a2c76fff795b2d9575b76204a29246f9bb75646fe", func := "penumbra/penumbralaw09.WarpAngles", spec := "warpAngles", inPlace := ["math.sqrt"], unfollowed := true, recurses := true, apart := false, narrowed := true }
def WarpAnglesUptoSaid : Prop := warpAnglesUptoRow.holds Try.pinned (OpenSpec.upto warpAnglesSpec)

/-- 'penumbralaw09.WarpLine', WHERE WHAT IT READS IS OF BULK AT MOST 1048576: true; the input reads as it did. -/
def warpLineUptoRow : OpenClaim := { program := "ytmdfomhclkbkpaa", sum := "f60ad95ab2349bdfc0093c7a2c76fff795b2d9575b76204a29246f9bb75646fe", func := "penumbra/penumbralaw09.WarpLine", spec := "warpLine", inPlace := ["math.sqrt"], unfollowed := true, recurses := true, apart := false, narrowed := true }
def WarpLineUptoSaid : Prop := warpLineUptoRow.holds Try.pinned (OpenSpec.upto warpLineSpec)

/-- 'penumbralaw09.WarpSpace', WHERE WHAT IT READS IS OF BULK AT MOST 1048576: true; the input reads as it did. -/
def warpSpaceUptoRow : OpenClaim := { program := "ytmdfomhclkbkpaa", sum := "f60ad95ab2349bdfc0093c7a2c76fff795b2d9575b76204a29246f9bb75646fe", func := "penumbra/penumbralaw09.WarpSpace", spec := "warpSpace", inPlace := ["math.sqrt"], unfollowed := true, recurses := true, apart := false, narrowed := true }
def WarpSpaceUptoSaid : Prop := warpSpaceUptoRow.holds Try.pinned (OpenSpec.upto warpSpaceSpec)

end Rows
end Go.Proofs.Ytmdfomhclkbkpaa
