/-
  No cell of these rows narrows 'for every input' (looked for: loops, veiled, ifaces, maps, wideKeys, modest, calm, conditions, laid).
  DERIVED. THE GIVEN ROWS OF THIS SEAT. 3 by the template 'for every input the law returns true; each argument reads behind the call as it read before'; 0 by the template 'total and deterministic' (their statements: YtjckbmajacakaaaTotals.lean).
  GIVEN WITH THE SEED: the statements are not yours to turn. If you find one false, say at which input.
  Laid BY PROGRAM, IN A SANDBOX (cutbox-rows.mjs): the forced cells as the released guide's own fill.sh prints them over the translation a1a5a058fff50b9a… (all of the seat's roots in one cut). By AI agents, Wed Nov 11 2026. No macro, syntax, notation, axiom, sorry.
-/
import Derived.Test.YtjckbmajacakaaaChecked
import GoSem.Claim
import GoSem.ClaimJoined
import GoSem.ClaimMapViews
import Derived.JoinedTies
import Derived.KernelRfl
namespace Go.Proofs.Ytjckbmajacakaaa
/- THE CELL 'sum', in the pinned program and in every row, IS THE sha256 OF THE DUMP (.gsa) THAT YtjckbmajacakaaaProg.lean LOADS. Nothing in Lean hashes anything: it is a label: what it is worth is what the hold of that sum in a sandbox is worth. -/
noncomputable def Try.pinned : Pinned := { name := "ytjckbmajacakaaa", sum := "a1a5a058fff50b9a7a004bccddd8ac641b8b2967f24910698a46f1d3f1ab7b29", checked := Try.checked }
namespace Rows
def none {H : Type} : Left H := { results := [], args := [] }

/-- 'penumbralaw20.FiltTells': WHATEVER THE INPUT: true; the input reads as it did. -/
def filtTellsSpec : ChangeSpec := { name := "filtTells", fn := fun _ => fun
  | [d] => { results := [.lit (.bool true)], args := [d] }
  | _ => none }
def filtTellsRow : OpenClaim := { program := "ytjckbmajacakaaa", sum := "a1a5a058fff50b9a7a004bccddd8ac641b8b2967f24910698a46f1d3f1ab7b29", func := "penumbra/penumbralaw20.FiltTells", spec := "filtTells", inPlace := ["math.sqrt"], unfollowed := true, recurses := true, apart := false }
def FiltTellsSaid : Prop := filtTellsRow.holds Try.pinned (OpenSpec.ofChange filtTellsSpec)

/-- ITS FALSE NEIGHBOUR: 'it returns false'. Refute it at one input. -/
def filtTellsWrong : ChangeSpec := { name := "filtTells", fn := fun _ => fun
  | [d] => { results := [.lit (.bool false)], args := [d] }
  | _ => none }
def FiltTellsWrongFalsely : Prop := filtTellsRow.holds Try.pinned (OpenSpec.ofChange filtTellsWrong)

/-- 'penumbralaw20.FiltWithin': WHATEVER THE INPUT: true; the input reads as it did. -/
def filtWithinSpec : ChangeSpec := { name := "filtWithin", fn := fun _ => fun
  | [d] => { results := [.lit (.bool true)], args := [d] }
  | _ => none }
def filtWithinRow : OpenClaim := { program := "ytjckbmajacakaaa", sum := "a1a5a058fff50b9a7a004bccddd8ac641b8b2967f24910698a46f1d3f1ab7b29", func := "penumbra/penumbralaw20.FiltWithin", spec := "filtWithin", inPlace := ["math.sqrt"], unfollowed := true, recurses := true, apart := false }
def FiltWithinSaid : Prop := filtWithinRow.holds Try.pinned (OpenSpec.ofChange filtWithinSpec)

/-- ITS FALSE NEIGHBOUR: 'it returns false'. Refute it at one input. -/
def filtWithinWrong : ChangeSpec := { name := "filtWithin", fn := fun _ => fun
  | [d] => { results := [.lit (.bool false)], args := [d] }
  | _ => none }
def FiltWithinWrongFalsely : Prop := filtWithinRow.holds Try.pinned (OpenSpec.ofChange filtWithinWrong)

/-- 'penumbralaw20.FiltNone': WHATEVER THE INPUT: true; the input reads as it did. -/
def filtNoneSpec : ChangeSpec := { name := "filtNone", fn := fun _ => fun
  | [d] => { results := [.lit (.bool true)], args := [d] }
  | _ => none }
def filtNoneRow : OpenClaim := { program := "ytjckbmajacakaaa", sum := "a1a5a058fff50b9a7a004bccddd8ac641b8b2967f24910698a46f1d3f1ab7b29", func := "penumbra/penumbralaw20.FiltNone", spec := "filtNone", inPlace := ["math.sqrt"], unfollowed := true, recurses := true, apart := false }
def FiltNoneSaid : Prop := filtNoneRow.holds Try.pinned (OpenSpec.ofChange filtNoneSpec)

/-- ITS FALSE NEIGHBOUR: 'it returns false'. Refute it at one input. -/
def filtNoneWrong : ChangeSpec := { name := "filtNone", fn := fun _ => fun
  | [d] => { results := [.lit (.bool false)], args := [d] }
  | _ => none }
def FiltNoneWrongFalsely : Prop := filtNoneRow.holds Try.pinned (OpenSpec.ofChange filtNoneWrong)

/- THE SECOND FORM. 'bulk': how many values and letters a reading holds, each counted each time it is reached (what is shared counts as often as it is met; a slice's spare places count too). A statement '..UptoSaid' is the law's where the arguments, and the package variables that the reading takes, are together of bulk at most 1048576: NARROWER than '..Said'. Prove '..Said' where nothing that the law and all that it calls make is longer than what came in: it says more and counts as full. Else prove '..UptoSaid'. A law counts once. -/
mutual
def uptoBulk {H : Type} : DataW H → Nat
  | .lit (.string bytes) => bytes.length + 1
  | .lit _ => 1
  | .nil => 1
  | .ptr d => uptoBulk d + 1
  | .slice elems spare => uptoBulkAll elems + uptoBulkAll spare + 1
  | .agg parts => uptoBulkAll parts + 1
  | .iface _ d => uptoBulk d + 1
  | .map entries => uptoBulkEntries entries + 1
  | .held _ => 1
def uptoBulkAll {H : Type} : List (DataW H) → Nat
  | [] => 0
  | d :: r => uptoBulk d + uptoBulkAll r
def uptoBulkEntries {H : Type} : List (Lit × DataW H) → Nat
  | [] => 0
  | x :: r => uptoBulkEntry x + uptoBulkEntries r
def uptoBulkEntry {H : Type} : Lit × DataW H → Nat
  | (.string bytes, d) => bytes.length + uptoBulk d + 1
  | (_, d) => uptoBulk d + 1
 end
def uptoSmall : (H : Type) → List (DataW H) → Bool := fun _ ds => decide (uptoBulkAll ds ≤ 1048576)
def OpenSpec.upto (s : _root_.Go.ChangeSpec) : _root_.Go.OpenSpec := { _root_.Go.OpenSpec.ofChange s with cond := some uptoSmall }

/-- 'penumbralaw20.FiltTells', WHERE WHAT IT READS IS OF BULK AT MOST 1048576: true; the input reads as it did. -/
def filtTellsUptoRow : OpenClaim := { program := "ytjckbmajacakaaa", sum := "a1a5a058fff50b9a7a004bccddd8ac641b8b2967f24910698a46f1d3f1ab7b29", func := "penumbra/penumbralaw20.FiltTells", spec := "filtTells", inPlace := ["math.sqrt"], unfollowed := true, recurses := true, apart := false, narrowed := true }
def FiltTellsUptoSaid : Prop := filtTellsUptoRow.holds Try.pinned (OpenSpec.upto filtTellsSpec)

/-- 'penumbralaw20.FiltWithin', WHERE WHAT IT READS IS OF BULK AT MOST 1048576: true; the input reads as it did. -/
def filtWithinUptoRow : OpenClaim := { program := "ytjckbmajacakaaa", sum := "a1a5a058fff50b9a7a004bccddd8ac641b8b2967f24910698a46f1d3f1ab7b29", func := "penumbra/penumbralaw20.FiltWithin", spec := "filtWithin", inPlace := ["math.sqrt"], unfollowed := true, recurses := true, apart := false, narrowed := true }
def FiltWithinUptoSaid : Prop := filtWithinUptoRow.holds Try.pinned (OpenSpec.upto filtWithinSpec)

/-- 'penumbralaw20.FiltNone', WHERE WHAT IT READS IS OF BULK AT MOST 1048576: true; the input reads as it did. -/
def filtNoneUptoRow : OpenClaim := { program := "ytjckbmajacakaaa", sum := "a1a5a058fff50b9a7a004bccddd8ac641b8b2967f24910698a46f1d3f1ab7b29", func := "penumbra/penumbralaw20.FiltNone", spec := "filtNone", inPlace := ["math.sqrt"], unfollowed := true, recurses := true, apart := false, narrowed := true }
def FiltNoneUptoSaid : Prop := filtNoneUptoRow.holds Try.pinned (OpenSpec.upto filtNoneSpec)

end Rows
end Go.Proofs.Ytjckbmajacakaaa
