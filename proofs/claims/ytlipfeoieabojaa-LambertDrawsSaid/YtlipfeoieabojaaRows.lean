/-
  No cell of these rows narrows 'for every input' (looked for: loops, veiled, ifaces, maps, wideKeys, modest, calm, conditions, laid).
  DERIVED. THE GIVEN ROWS OF THIS SEAT. 3 by the template 'for every input the law returns true; each argument reads behind the call as it read before'; 0 by the template 'total and deterministic' (their statements: YtlipfeoieabojaaTotals.lean).
  GIVEN WITH THE SEED: the statements are not yours to turn. If you find one false, say at which input.
  Laid BY PROGRAM, IN A SANDBOX (cutbox-rows.mjs): the forced cells as the released guide's own fill.sh prints them over the translation 22ebcc7e143fd4eb… (all of the seat's roots in one cut). By AI agents, Wed Nov 11 2026. No macro, syntax, notation, axiom, sorry.
-/
import Derived.Test.YtlipfeoieabojaaChecked
import GoSem.Claim
import GoSem.ClaimJoined
import GoSem.ClaimMapViews
import Derived.JoinedTies
import Derived.KernelRfl
namespace Go.Proofs.Ytlipfeoieabojaa
/- THE CELL 'sum', in the pinned program and in every row, IS THE sha256 OF THE DUMP (.gsa) THAT YtlipfeoieabojaaProg.lean LOADS. Nothing in Lean hashes anything: it is a label: what it is worth is what the hold of that sum in a sandbox is worth. -/
noncomputable def Try.pinned : Pinned := { name := "ytlipfeoieabojaa", sum := "22ebcc7e143fd4eb56f857eb0695185f7d03b115498fb9a57520ad93b948da9d", checked := Try.checked }
namespace Rows
def none {H : Type} : Left H := { results := [], args := [] }

/-- 'penumbralaw14.LambertTells': WHATEVER THE INPUT: true; the input reads as it did. -/
def lambertTellsSpec : ChangeSpec := { name := "lambertTells", fn := fun _ => fun
  | [d1, d2, d3] => { results := [.lit (.bool true)], args := [d1, d2, d3] }
  | _ => none }
def lambertTellsRow : OpenClaim := { program := "ytlipfeoieabojaa", sum := "22ebcc7e143fd4eb56f857eb0695185f7d03b115498fb9a57520ad93b948da9d", func := "penumbra/penumbralaw14.LambertTells", spec := "lambertTells", inPlace := ["math.sqrt"], unfollowed := true, recurses := true, apart := false }
def LambertTellsSaid : Prop := lambertTellsRow.holds Try.pinned (OpenSpec.ofChange lambertTellsSpec)

/-- ITS FALSE NEIGHBOUR: 'it returns false'. Refute it at one input. -/
def lambertTellsWrong : ChangeSpec := { name := "lambertTells", fn := fun _ => fun
  | [d1, d2, d3] => { results := [.lit (.bool false)], args := [d1, d2, d3] }
  | _ => none }
def LambertTellsWrongFalsely : Prop := lambertTellsRow.holds Try.pinned (OpenSpec.ofChange lambertTellsWrong)

/-- 'penumbralaw14.LambertDraws': WHATEVER THE INPUT: true; the input reads as it did. -/
def lambertDrawsSpec : ChangeSpec := { name := "lambertDraws", fn := fun _ => fun
  | [d1, d2, d3] => { results := [.lit (.bool true)], args := [d1, d2, d3] }
  | _ => none }
def lambertDrawsRow : OpenClaim := { program := "ytlipfeoieabojaa", sum := "22ebcc7e143fd4eb56f857eb0695185f7d03b115498fb9a57520ad93b948da9d", func := "penumbra/penumbralaw14.LambertDraws", spec := "lambertDraws", inPlace := ["math.sqrt"], unfollowed := true, recurses := true, apart := false }
def LambertDrawsSaid : Prop := lambertDrawsRow.holds Try.pinned (OpenSpec.ofChange lambertDrawsSpec)

/-- ITS FALSE NEIGHBOUR: 'it returns false'. Refute it at one input. -/
def lambertDrawsWrong : ChangeSpec := { name := "lambertDraws", fn := fun _ => fun
  | [d1, d2, d3] => { results := [.lit (.bool false)], args := [d1, d2, d3] }
  | _ => none }
def LambertDrawsWrongFalsely : Prop := lambertDrawsRow.holds Try.pinned (OpenSpec.ofChange lambertDrawsWrong)

/-- 'penumbralaw14.LambertWeighs': WHATEVER THE INPUT: true; the input reads as it did. -/
def lambertWeighsSpec : ChangeSpec := { name := "lambertWeighs", fn := fun _ => fun
  | [d1, d2, d3] => { results := [.lit (.bool true)], args := [d1, d2, d3] }
  | _ => none }
def lambertWeighsRow : OpenClaim := { program := "ytlipfeoieabojaa", sum := "22ebcc7e143fd4eb56f857eb0695185f7d03b115498fb9a57520ad93b948da9d", func := "penumbra/penumbralaw14.LambertWeighs", spec := "lambertWeighs", inPlace := ["math.sqrt"], unfollowed := true, recurses := true, apart := false }
def LambertWeighsSaid : Prop := lambertWeighsRow.holds Try.pinned (OpenSpec.ofChange lambertWeighsSpec)

/-- ITS FALSE NEIGHBOUR: 'it returns false'. Refute it at one input. -/
def lambertWeighsWrong : ChangeSpec := { name := "lambertWeighs", fn := fun _ => fun
  | [d1, d2, d3] => { results := [.lit (.bool false)], args := [d1, d2, d3] }
  | _ => none }
def LambertWeighsWrongFalsely : Prop := lambertWeighsRow.holds Try.pinned (OpenSpec.ofChange lambertWeighsWrong)

/- THE SECOND FORM. 'bulk': how many values and letters a reading holds, each counted each time it is reached (what is shared counts as often as it is met; a slice's spare places count too). A statement '..UptoSaid' is the law's where the arguments, and the package variables that the reading takes, are together of bulk at most 1048576: NARROWER than '..Said'. Prove '..Said' where nothing that the law and all that it calls make is longer than what came in: it says more and counts as full. Else prove '..UptoSaid'. A law counts once. -/
mutual
def uptoBulk {H : Type} : DataW H → Nat
  | .lit (.string bytes) => bytes.length + 1
  | .lit _ => 1
  | .nil => 1
  | .ptr d => uptoBulk d + 1
  | .slice elems spare => uptoBulkAll elems + uptoBulkAll spare + 1
  | .agg parts => uptoBulkAll parts + 1
  | .iface _ d => uptoBulk d + 1
  | .map entries => uptoBulkEntries entries + 1
  | .held _ => 1
def uptoBulkAll {H : Type} : List (DataW H) → Nat
  | [] => 0
  | d :: r => uptoBulk d + uptoBulkAll r
def uptoBulkEntries {H : Type} : List (Lit × DataW H) → Nat
  | [] => 0
  | x :: r => uptoBulkEntry x + uptoBulkEntries r
def uptoBulkEntry {H : Type} : Lit × DataW H → Nat
  | (.string bytes, d) => bytes.length + uptoBulk d + 1
  | (_, d) => uptoBulk d + 1
 end
def uptoSmall : (H : Type) → List (DataW H) → Bool := fun _ ds => decide (uptoBulkAll ds ≤ 1048576)
def OpenSpec.upto (s : _root_.Go.ChangeSpec) : _root_.Go.OpenSpec := { _root_.Go.OpenSpec.ofChange s with cond := some uptoSmall }

/-- 'penumbralaw14.LambertTells', WHERE WHAT IT READS IS OF BULK AT MOST 1048576: true; the input reads as it did. -/
def lambertTellsUptoRow : OpenClaim := { program := "ytlipfeoieabojaa", sum := "22ebcc7e143fd4eb56f857eb0695185f7d03b115498fb9a57520ad93b948da9d", func := "penumbra/penumbralaw14.LambertTells", spec := "lambertTells", inPlace := ["math.sqrt"], unfollowed := true, recurses := true, apart := false, narrowed := true }
def LambertTellsUptoSaid : Prop := lambertTellsUptoRow.holds Try.pinned (OpenSpec.upto lambertTellsSpec)

/-- 'penumbralaw14.LambertDraws', WHERE WHAT IT READS IS OF BULK AT MOST 1048576: true; the input reads as it did. -/
def lambertDrawsUptoRow : OpenClaim := { program := "ytlipfeoieabojaa", sum := "22ebcc7e143fd4eb56f857eb0695185f7d03b115498fb9a57520ad93b948da9d", func := "penumbra/penumbralaw14.LambertDraws", spec := "lambertDraws", inPlace := ["math.sqrt"], unfollowed := true, recurses := true, apart := false, narrowed := true }
def LambertDrawsUptoSaid : Prop := lambertDrawsUptoRow.holds Try.pinned (OpenSpec.upto lambertDrawsSpec)

/-- 'penumbralaw14.LambertWeighs', WHERE WHAT IT READS IS OF BULK AT MOST 1048576: true; the input reads as it did. -/
def lambertWeighsUptoRow : OpenClaim := { program := "ytlipfeoieabojaa", sum := "22ebcc7e143fd4eb56f857eb0695185f7d03b115498fb9a57520ad93b948da9d", func := "penumbra/penumbralaw14.LambertWeighs", spec := "lambertWeighs", inPlace := ["math.sqrt"], unfollowed := true, recurses := true, apart := false, narrowed := true }
def LambertWeighsUptoSaid : Prop := lambertWeighsUptoRow.holds Try.pinned (OpenSpec.upto lambertWeighsSpec)

end Rows
end Go.Proofs.Ytlipfeoieabojaa
