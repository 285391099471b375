/-
  No cell of these rows narrows 'for every input' (looked for: loops, veiled, ifaces, maps, wideKeys, modest, calm, conditions, laid).
  DERIVED. THE GIVEN ROWS OF THIS SEAT. 3 by the template 'for every input the law returns true; each argument reads behind the call as it read before'; 0 by the template 'total and deterministic' (their statements: YtinhoalnkhpdoaaTotals.lean).
  GIVEN WITH THE SEED: the statements are not yours to turn. If you find one false, say at which input.
  Laid BY PROGRAM, IN A SANDBOX (cutbox-rows.mjs): the forced cells as the released guide's own fill.sh prints them over the translation 0866a6782f148ec0… (all of the seat's roots in one cut). By AI agents, Wed Nov 11 2026. No macro, syntax, notation, axiom, sorry.
-/
import Derived.Test.YtinhoalnkhpdoaaChecked
import GoSem.Claim
import GoSem.ClaimJoined
import GoSem.ClaimMapViews
import Derived.JoinedTies
import Derived.KernelRfl
namespace Go.Proofs.Ytinhoalnkhpdoaa
/- THE CELL 'sum', in the pinned program and in every row, IS THE sha256 OF THE DUMP (.gsa) THAT YtinhoalnkhpdoaaProg.lean LOADS. Nothing in Lean hashes anything: it is a label: what it is worth is what the hold of that sum in a sandbox is worth. -/
noncomputable def Try.pinned : Pinned := { name := "ytinhoalnkhpdoaa", sum := "0866a6782f148ec09d64453f428ce817decb12b74bcc8b3c50decf9e1b30fc77", checked := Try.checked }
namespace Rows
def none {H : Type} : Left H := { results := [], args := [] }

/-- 'penumbralaw15.GgxTells': WHATEVER THE INPUT: true; the input reads as it did. -/
def ggxTellsSpec : ChangeSpec := { name := "ggxTells", fn := fun _ => fun
  | [d1, d2, d3] => { results := [.lit (.bool true)], args := [d1, d2, d3] }
  | _ => none }
def ggxTellsRow : OpenClaim := { program := "ytinhoalnkhpdoaa", sum := "0866a6782f148ec09d64453f428ce817decb12b74bcc8b3c50decf9e1b30fc77", func := "penumbra/penumbralaw15.GgxTells", spec := "ggxTells", inPlace := ["math.sqrt"], unfollowed := true, recurses := true, apart := false }
def GgxTellsSaid : Prop := ggxTellsRow.holds Try.pinned (OpenSpec.ofChange ggxTellsSpec)

/-- ITS FALSE NEIGHBOUR: 'it returns false'. Refute it at one input. -/
def ggxTellsWrong : ChangeSpec := { name := "ggxTells", fn := fun _ => fun
  | [d1, d2, d3] => { results := [.lit (.bool false)], args := [d1, d2, d3] }
  | _ => none }
def GgxTellsWrongFalsely : Prop := ggxTellsRow.holds Try.pinned (OpenSpec.ofChange ggxTellsWrong)

/-- 'penumbralaw15.GgxDraws': WHATEVER THE INPUT: true; the input reads as it did. -/
def ggxDrawsSpec : ChangeSpec := { name := "ggxDraws", fn := fun _ => fun
  | [d] => { results := [.lit (.bool true)], args := [d] }
  | _ => none }
def ggxDrawsRow : OpenClaim := { program := "ytinhoalnkhpdoaa", sum := "0866a6782f148ec09d64453f428ce817decb12b74bcc8b3c50decf9e1b30fc77", func := "penumbra/penumbralaw15.GgxDraws", spec := "ggxDraws", inPlace := ["math.sqrt"], unfollowed := true, recurses := true, apart := false }
def GgxDrawsSaid : Prop := ggxDrawsRow.holds Try.pinned (OpenSpec.ofChange ggxDrawsSpec)

/-- ITS FALSE NEIGHBOUR: 'it returns false'. Refute it at one input. -/
def ggxDrawsWrong : ChangeSpec := { name := "ggxDraws", fn := fun _ => fun
  | [d] => { results := [.lit (.bool false)], args := [d] }
  | _ => none }
def GgxDrawsWrongFalsely : Prop := ggxDrawsRow.holds Try.pinned (OpenSpec.ofChange ggxDrawsWrong)

/-- 'penumbralaw15.GgxEvals': WHATEVER THE INPUT: true; the input reads as it did. -/
def ggxEvalsSpec : ChangeSpec := { name := "ggxEvals", fn := fun _ => fun
  | [d] => { results := [.lit (.bool true)], args := [d] }
  | _ => none }
def ggxEvalsRow : OpenClaim := { program := "ytinhoalnkhpdoaa", sum := "0866a6782f148ec09d64453f428ce817decb12b74bcc8b3c50decf9e1b30fc77", func := "penumbra/penumbralaw15.GgxEvals", spec := "ggxEvals", inPlace := ["math.sqrt"], unfollowed := true, recurses := true, apart := false }
def GgxEvalsSaid : Prop := ggxEvalsRow.holds Try.pinned (OpenSpec.ofChange ggxEvalsSpec)

/-- ITS FALSE NEIGHBOUR: 'it returns false'. Refute it at one input. -/
def ggxEvalsWrong : ChangeSpec := { name := "ggxEvals", fn := fun _ => fun
  | [d] => { results := [.lit (.bool false)], args := [d] }
  | _ => none }
def GgxEvalsWrongFalsely : Prop := ggxEvalsRow.holds Try.pinned (OpenSpec.ofChange ggxEvalsWrong)

/- THE SECOND FORM. 'bulk': how many values and letters a reading holds, each counted each time it is reached (what is shared counts as often as it is met; a slice's spare places count too). A statement '..UptoSaid' is the law's where the arguments, and the package variables that the reading takes, are together of bulk at most 1048576: NARROWER than '..Said'. Prove '..Said' where nothing that the law and all that it calls make is longer than what came in: it says more and counts as full. Else prove '..UptoSaid'. A law counts once. -/
mutual
def uptoBulk {H : Type} : DataW H → Nat
  | .lit (.string bytes) => bytes.length + 1
  | .lit _ => 1
  | .nil => 1
  | .ptr d => uptoBulk d + 1
  | .slice elems spare => uptoBulkAll elems + uptoBulkAll spare + 1
  | .agg parts => uptoBulkAll parts + 1
  | .iface _ d => uptoBulk d + 1
  | .map entries => uptoBulkEntries entries + 1
  | .held _ => 1
def uptoBulkAll {H : Type} : List (DataW H) → Nat
  | [] => 0
  | d :: r => uptoBulk d + uptoBulkAll r
def uptoBulkEntries {H : Type} : List (Lit × DataW H) → Nat
  | [] => 0
  | x :: r => uptoBulkEntry x + uptoBulkEntries r
def uptoBulkEntry {H : Type} : Lit × DataW H → Nat
  | (.string bytes, d) => bytes.length + uptoBulk d + 1
  | (_, d) => uptoBulk d + 1
 end
def uptoSmall : (H : Type) → List (DataW H) → Bool := fun _ ds => decide (uptoBulkAll ds ≤ 1048576)
def OpenSpec.upto (s : _root_.Go.ChangeSpec) : _root_.Go.OpenSpec := { _root_.Go.OpenSpec.ofChange s with cond := some uptoSmall }

/-- 'penumbralaw15.GgxTells', WHERE WHAT IT READS IS OF BULK AT MOST 1048576: true; the input reads as it did. -/
def ggxTellsUptoRow : OpenClaim := { program := "ytinhoalnkhpdoaa", sum := "0866a6782f148ec09d64453f428ce817decb12b74bcc8b3c50decf9e1b30fc77", func := "penumbra/penumbralaw15.GgxTells", spec := "ggxTells", inPlace := ["math.sqrt"], unfollowed := true, recurses := true, apart := false, narrowed := true }
def GgxTellsUptoSaid : Prop := ggxTellsUptoRow.holds Try.pinned (OpenSpec.upto ggxTellsSpec)

/-- 'penumbralaw15.GgxDraws', WHERE WHAT IT READS IS OF BULK AT MOST 1048576: true; the input reads as it did. -/
def ggxDrawsUptoRow : OpenClaim := { program := "ytinhoalnkhpdoaa", sum := "0866a6782f148ec09d64453f428ce817decb12b74bcc8b3c50decf9e1b30fc77", func := "penumbra/penumbralaw15.GgxDraws", spec := "ggxDraws", inPlace := ["math.sqrt"], unfollowed := true, recurses := true, apart := false, narrowed := true }
def GgxDrawsUptoSaid : Prop := ggxDrawsUptoRow.holds Try.pinned (OpenSpec.upto ggxDrawsSpec)

/-- 'penumbralaw15.GgxEvals', WHERE WHAT IT READS IS OF BULK AT MOST 1048576: true; the input reads as it did. -/
def ggxEvalsUptoRow : OpenClaim := { program := "ytinhoalnkhpdoaa", sum := "0866a6782f148ec09d64453f428ce817decb12b74bcc8b3c50decf9e1b30fc77", func := "penumbra/penumbralaw15.GgxEvals", spec := "ggxEvals", inPlace := ["math.sqrt"], unfollowed := true, recurses := true, apart := false, narrowed := true }
def GgxEvalsUptoSaid : Prop := ggxEvalsUptoRow.holds Try.pinned (OpenSpec.upto ggxEvalsSpec)

end Rows
end Go.Proofs.Ytinhoalnkhpdoaa
