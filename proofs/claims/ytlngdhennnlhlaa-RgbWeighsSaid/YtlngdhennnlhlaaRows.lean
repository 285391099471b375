/-
  No cell of these rows narrows 'for every input' (looked for: loops, veiled, ifaces, maps, wideKeys, modest, calm, conditions, laid).
  DERIVED. THE GIVEN ROWS OF THIS SEAT. 6 by the template 'for every input the law returns true; each argument reads behind the call as it read before'; 0 by the template 'total and deterministic' (their statements: YtlngdhennnlhlaaTotals.lean).
  GIVEN WITH THE SEED: the statements are not yours to turn. If you find one false, say at which input.
  Laid BY PROGRAM, IN A SANDBOX (cutbox-rows.mjs): the forced cells as the released guide's own fill.sh prints them over the translation d4d7629388b8473f… (all of the seat's roots in one cut). By AI agents, Wed Nov 11 2026. No macro, syntax, notation, axiom, sorry.
-/
import Derived.Test.YtlngdhennnlhlaaChecked
import GoSem.Claim
import GoSem.ClaimJoined
import GoSem.ClaimMapViews
import Derived.JoinedTies
import Derived.KernelRfl
namespace Go.Proofs.Ytlngdhennnlhlaa
/- THE CELL 'sum', in the pinned program and in every row, IS THE sha256 OF THE DUMP (.gsa) THAT YtlngdhennnlhlaaProg.lean LOADS. Nothing in Lean hashes anything: it is a label: what it is worth is what the hold of that sum in a sandbox is worth. -/
noncomputable def Try.pinned : Pinned := { name := "ytlngdhennnlhlaa", sum := "d4d7629388b8473fb6e9d6ef66efcfa5598f233114a3b9587913812775ade1a8", checked := Try.checked }
namespace Rows
def none {H : Type} : Left H := { results := [], args := [] }

/-- 'penumbralaw05.RgbLooks': WHATEVER THE INPUT: true; the input reads as it did. -/
def rgbLooksSpec : ChangeSpec := { name := "rgbLooks", fn := fun _ => fun
  | [d] => { results := [.lit (.bool true)], args := [d] }
  | _ => none }
def rgbLooksRow : OpenClaim := { program := "ytlngdhennnlhlaa", sum := "d4d7629388b8473fb6e9d6ef66efcfa5598f233114a3b9587913812775ade1a8", func := "penumbra/penumbralaw05.RgbLooks", spec := "rgbLooks", unfollowed := true, recurses := true, apart := false }
def RgbLooksSaid : Prop := rgbLooksRow.holds Try.pinned (OpenSpec.ofChange rgbLooksSpec)

/-- ITS FALSE NEIGHBOUR: 'it returns false'. Refute it at one input. -/
def rgbLooksWrong : ChangeSpec := { name := "rgbLooks", fn := fun _ => fun
  | [d] => { results := [.lit (.bool false)], args := [d] }
  | _ => none }
def RgbLooksWrongFalsely : Prop := rgbLooksRow.holds Try.pinned (OpenSpec.ofChange rgbLooksWrong)

/-- 'penumbralaw05.RgbWeighs': WHATEVER THE INPUT: true; the input reads as it did. -/
def rgbWeighsSpec : ChangeSpec := { name := "rgbWeighs", fn := fun _ => fun
  | [d1, d2] => { results := [.lit (.bool true)], args := [d1, d2] }
  | _ => none }
def rgbWeighsRow : OpenClaim := { program := "ytlngdhennnlhlaa", sum := "d4d7629388b8473fb6e9d6ef66efcfa5598f233114a3b9587913812775ade1a8", func := "penumbra/penumbralaw05.RgbWeighs", spec := "rgbWeighs", unfollowed := true, recurses := true, apart := false }
def RgbWeighsSaid : Prop := rgbWeighsRow.holds Try.pinned (OpenSpec.ofChange rgbWeighsSpec)

/-- ITS FALSE NEIGHBOUR: 'it returns false'. Refute it at one input. -/
def rgbWeighsWrong : ChangeSpec := { name := "rgbWeighs", fn := fun _ => fun
  | [d1, d2] => { results := [.lit (.bool false)], args := [d1, d2] }
  | _ => none }
def RgbWeighsWrongFalsely : Prop := rgbWeighsRow.holds Try.pinned (OpenSpec.ofChange rgbWeighsWrong)

/-- 'penumbralaw03.FrameMakes': WHATEVER THE INPUT: true; the input reads as it did. -/
def frameMakesSpec : ChangeSpec := { name := "frameMakes", fn := fun _ => fun
  | [d] => { results := [.lit (.bool true)], args := [d] }
  | _ => none }
def frameMakesRow : OpenClaim := { program := "ytlngdhennnlhlaa", sum := "d4d7629388b8473fb6e9d6ef66efcfa5598f233114a3b9587913812775ade1a8", func := "penumbra/penumbralaw03.FrameMakes", spec := "frameMakes", unfollowed := true, recurses := true, apart := false }
def FrameMakesSaid : Prop := frameMakesRow.holds Try.pinned (OpenSpec.ofChange frameMakesSpec)

/-- ITS FALSE NEIGHBOUR: 'it returns false'. Refute it at one input. -/
def frameMakesWrong : ChangeSpec := { name := "frameMakes", fn := fun _ => fun
  | [d] => { results := [.lit (.bool false)], args := [d] }
  | _ => none }
def FrameMakesWrongFalsely : Prop := frameMakesRow.holds Try.pinned (OpenSpec.ofChange frameMakesWrong)

/-- 'penumbralaw03.FrameTells': WHATEVER THE INPUT: true; the input reads as it did. -/
def frameTellsSpec : ChangeSpec := { name := "frameTells", fn := fun _ => fun
  | [d1, d2] => { results := [.lit (.bool true)], args := [d1, d2] }
  | _ => none }
def frameTellsRow : OpenClaim := { program := "ytlngdhennnlhlaa", sum := "d4d7629388b8473fb6e9d6ef66efcfa5598f233114a3b9587913812775ade1a8", func := "penumbra/penumbralaw03.FrameTells", spec := "frameTells", unfollowed := true, recurses := true, apart := false }
def FrameTellsSaid : Prop := frameTellsRow.holds Try.pinned (OpenSpec.ofChange frameTellsSpec)

/-- ITS FALSE NEIGHBOUR: 'it returns false'. Refute it at one input. -/
def frameTellsWrong : ChangeSpec := { name := "frameTells", fn := fun _ => fun
  | [d1, d2] => { results := [.lit (.bool false)], args := [d1, d2] }
  | _ => none }
def FrameTellsWrongFalsely : Prop := frameTellsRow.holds Try.pinned (OpenSpec.ofChange frameTellsWrong)

/-- 'penumbralaw05.RgbReckons': WHATEVER THE INPUT: true; the input reads as it did. -/
def rgbReckonsSpec : ChangeSpec := { name := "rgbReckons", fn := fun _ => fun
  | [d1, d2, d3] => { results := [.lit (.bool true)], args := [d1, d2, d3] }
  | _ => none }
def rgbReckonsRow : OpenClaim := { program := "ytlngdhennnlhlaa", sum := "d4d7629388b8473fb6e9d6ef66efcfa5598f233114a3b9587913812775ade1a8", func := "penumbra/penumbralaw05.RgbReckons", spec := "rgbReckons", unfollowed := true, recurses := true, apart := false }
def RgbReckonsSaid : Prop := rgbReckonsRow.holds Try.pinned (OpenSpec.ofChange rgbReckonsSpec)

/-- ITS FALSE NEIGHBOUR: 'it returns false'. Refute it at one input. -/
def rgbReckonsWrong : ChangeSpec := { name := "rgbReckons", fn := fun _ => fun
  | [d1, d2, d3] => { results := [.lit (.bool false)], args := [d1, d2, d3] }
  | _ => none }
def RgbReckonsWrongFalsely : Prop := rgbReckonsRow.holds Try.pinned (OpenSpec.ofChange rgbReckonsWrong)

/-- 'penumbralaw03.FrameLooks': WHATEVER THE INPUT: true; the input reads as it did. -/
def frameLooksSpec : ChangeSpec := { name := "frameLooks", fn := fun _ => fun
  | [d1, d2] => { results := [.lit (.bool true)], args := [d1, d2] }
  | _ => none }
def frameLooksRow : OpenClaim := { program := "ytlngdhennnlhlaa", sum := "d4d7629388b8473fb6e9d6ef66efcfa5598f233114a3b9587913812775ade1a8", func := "penumbra/penumbralaw03.FrameLooks", spec := "frameLooks", unfollowed := true, recurses := true, apart := false }
def FrameLooksSaid : Prop := frameLooksRow.holds Try.pinned (OpenSpec.ofChange frameLooksSpec)

/-- ITS FALSE NEIGHBOUR: 'it returns false'. Refute it at one input. -/
def frameLooksWrong : ChangeSpec := { name := "frameLooks", fn := fun _ => fun
  | [d1, d2] => { results := [.lit (.bool false)], args := [d1, d2] }
  | _ => none }
def FrameLooksWrongFalsely : Prop := frameLooksRow.holds Try.pinned (OpenSpec.ofChange frameLooksWrong)

/- THE SECOND FORM. 'bulk': how many values and letters a reading holds, each counted each time it is reached (what is shared counts as often as it is met; a slice's spare places count too). A statement '..UptoSaid' is the law's where the arguments, and the package variables that the reading takes, are together of bulk at most 1048576: NARROWER than '..Said'. Prove '..Said' where nothing that the law and all that it calls make is longer than what came in: it says more and counts as full. Else prove '..UptoSaid'. A law counts once. -/
mutual
def uptoBulk {H : Type} : DataW H → Nat
  | .lit (.string bytes) => bytes.length + 1
  | .lit _ => 1
  | .nil => 1
  | .ptr d => uptoBulk d + 1
  | .slice elems spare => uptoBulkAll elems + uptoBulkAll spare + 1
  | .agg parts => uptoBulkAll parts + 1
  | .iface _ d => uptoBulk d + 1
  | .map entries => uptoBulkEntries entries + 1
  | .held _ => 1
def uptoBulkAll {H : Type} : List (DataW H) → Nat
  | [] => 0
  | d :: r => uptoBulk d + uptoBulkAll r
def uptoBulkEntries {H : Type} : List (Lit × DataW H) → Nat
  | [] => 0
  | x :: r => uptoBulkEntry x + uptoBulkEntries r
def uptoBulkEntry {H : Type} : Lit × DataW H → Nat
  | (.string bytes, d) => bytes.length + uptoBulk d + 1
  | (_, d) => uptoBulk d + 1
 end
def uptoSmall : (H : Type) → List (DataW H) → Bool := fun _ ds => decide (uptoBulkAll ds ≤ 1048576)
def OpenSpec.upto (s : _root_.Go.ChangeSpec) : _root_.Go.OpenSpec := { _root_.Go.OpenSpec.ofChange s with cond := some uptoSmall }

/-- 'penumbralaw05.RgbLooks', WHERE WHAT IT READS IS OF BULK AT MOST 1048576: true; the input reads as it did. -/
def rgbLooksUptoRow : OpenClaim := { program := "ytlngdhennnlhlaa", sum := "d4d7629388b8473fb6e9d6ef66efcfa5598f233114a3b9587913812775ade1a8", func := "penumbra/penumbralaw05.RgbLooks", spec := "rgbLooks", unfollowed := true, recurses := true, apart := false, narrowed := true }
def RgbLooksUptoSaid : Prop := rgbLooksUptoRow.holds Try.pinned (OpenSpec.upto rgbLooksSpec)

/-- 'penumbralaw05.RgbWeighs', WHERE WHAT IT READS IS OF BULK AT MOST 1048576: true; the input reads as it did. -/
def rgbWeighsUptoRow : OpenClaim := { program := "ytlngdhennnlhlaa", sum := "d4d7629388b8473fb6e9d6ef66efcfa5598f233114a3b9587913812775ade1a8", func := "penumbra/penumbralaw05.RgbWeighs", spec := "rgbWeighs", unfollowed := true, recurses := true, apart := false, narrowed := true }
def RgbWeighsUptoSaid : Prop := rgbWeighsUptoRow.holds Try.pinned (OpenSpec.upto rgbWeighsSpec)

/-- 'penumbralaw03.FrameMakes', WHERE WHAT IT READS IS OF BULK AT MOST 1048576: true; the input reads as it did. -/
def frameMakesUptoRow : OpenClaim := { program := "ytlngdhennnlhlaa", sum := "d4d7629388b8473fb6e9d6ef66efcfa5598f233114a3b9587913812775ade1a8", func := "penumbra/penumbralaw03.FrameMakes", spec := "frameMakes", unfollowed := true, recurses := true, apart := false, narrowed := true }
def FrameMakesUptoSaid : Prop := frameMakesUptoRow.holds Try.pinned (OpenSpec.upto frameMakesSpec)

/-- 'penumbralaw03.FrameTells', WHERE WHAT IT READS IS OF BULK AT MOST 1048576: true; the input reads as it did. -/
def frameTellsUptoRow : OpenClaim := { program := "ytlngdhennnlhlaa", sum := "d4d7629388b8473fb6e9d6ef66efcfa5598f233114a3b9587913812775ade1a8", func := "penumbra/penumbralaw03.FrameTells", spec := "frameTells", unfollowed := true, recurses := true, apart := false, narrowed := true }
def FrameTellsUptoSaid : Prop := frameTellsUptoRow.holds Try.pinned (OpenSpec.upto frameTellsSpec)

/-- 'penumbralaw05.RgbReckons', WHERE WHAT IT READS IS OF BULK AT MOST 1048576: true; the input reads as it did. -/
def rgbReckonsUptoRow : OpenClaim := { program := "ytlngdhennnlhlaa", sum := "d4d7629388b8473fb6e9d6ef66efcfa5598f233114a3b9587913812775ade1a8", func := "penumbra/penumbralaw05.RgbReckons", spec := "rgbReckons", unfollowed := true, recurses := true, apart := false, narrowed := true }
def RgbReckonsUptoSaid : Prop := rgbReckonsUptoRow.holds Try.pinned (OpenSpec.upto rgbReckonsSpec)

/-- 'penumbralaw03.FrameLooks', WHERE WHAT IT READS IS OF BULK AT MOST 1048576: true; the input reads as it did. -/
def frameLooksUptoRow : OpenClaim := { program := "ytlngdhennnlhlaa", sum := "d4d7629388b8473fb6e9d6ef66efcfa5598f233114a3b9587913812775ade1a8", func := "penumbra/penumbralaw03.FrameLooks", spec := "frameLooks", unfollowed := true, recurses := true, apart := false, narrowed := true }
def FrameLooksUptoSaid : Prop := frameLooksUptoRow.holds Try.pinned (OpenSpec.upto frameLooksSpec)

end Rows
end Go.Proofs.Ytlngdhennnlhlaa
