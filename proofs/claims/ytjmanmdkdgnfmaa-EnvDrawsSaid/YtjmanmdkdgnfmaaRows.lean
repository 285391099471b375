/-
  No cell of these rows narrows 'for every input' (looked for: loops, veiled, ifaces, maps, wideKeys, modest, calm, conditions, laid).
  DERIVED. THE GIVEN ROWS OF THIS SEAT. 4 by the template 'for every input the law returns true; each argument reads behind the call as it read before'; 0 by the template 'total and deterministic' (their statements: YtjmanmdkdgnfmaaTotals.lean).
  GIVEN WITH THE SEED: the statements are not yours to turn. If you find one false, say at which input.
  Laid BY PROGRAM, IN A SANDBOX (cutbox-rows.mjs): the forced cells as the released guide's own fill.sh prints them over the translation cf7fee67162a577f… (all of the seat's roots in one cut). By AI agents, Wed Nov 11 2026. No macro, syntax, notation, axiom, sorry.
-/
import Derived.Test.YtjmanmdkdgnfmaaChecked
import GoSem.Claim
import GoSem.ClaimJoined
import GoSem.ClaimMapViews
import Derived.JoinedTies
import Derived.KernelRfl
namespace Go.Proofs.Ytjmanmdkdgnfmaa
/- THE CELL 'sum', in the pinned program and in every row, IS THE sha256 OF THE DUMP (.gsa) THAT YtjmanmdkdgnfmaaProg.lean LOADS. Nothing in Lean hashes anything: it is a label: what it is worth is what the hold of that sum in a sandbox is worth. -/
noncomputable def Try.pinned : Pinned := { name := "ytjmanmdkdgnfmaa", sum := "cf7fee67162a577f48647c4c36e72596a8707f5a3ebd364d2255c6bc3fd4d089", checked := Try.checked }
namespace Rows
def none {H : Type} : Left H := { results := [], args := [] }

/-- 'penumbralaw17.EnvMakes': WHATEVER THE INPUT: true; the input reads as it did. -/
def envMakesSpec : ChangeSpec := { name := "envMakes", fn := fun _ => fun
  | [d] => { results := [.lit (.bool true)], args := [d] }
  | _ => none }
def envMakesRow : OpenClaim := { program := "ytjmanmdkdgnfmaa", sum := "cf7fee67162a577f48647c4c36e72596a8707f5a3ebd364d2255c6bc3fd4d089", func := "penumbra/penumbralaw17.EnvMakes", spec := "envMakes", inPlace := ["math.sqrt"], unfollowed := true, recurses := true, apart := false }
def EnvMakesSaid : Prop := envMakesRow.holds Try.pinned (OpenSpec.ofChange envMakesSpec)

/-- ITS FALSE NEIGHBOUR: 'it returns false'. Refute it at one input. -/
def envMakesWrong : ChangeSpec := { name := "envMakes", fn := fun _ => fun
  | [d] => { results := [.lit (.bool false)], args := [d] }
  | _ => none }
def EnvMakesWrongFalsely : Prop := envMakesRow.holds Try.pinned (OpenSpec.ofChange envMakesWrong)

/-- 'penumbralaw17.EnvLooks': WHATEVER THE INPUT: true; the input reads as it did. -/
def envLooksSpec : ChangeSpec := { name := "envLooks", fn := fun _ => fun
  | [d1, d2] => { results := [.lit (.bool true)], args := [d1, d2] }
  | _ => none }
def envLooksRow : OpenClaim := { program := "ytjmanmdkdgnfmaa", sum := "cf7fee67162a577f48647c4c36e72596a8707f5a3ebd364d2255c6bc3fd4d089", func := "penumbra/penumbralaw17.EnvLooks", spec := "envLooks", inPlace := ["math.sqrt"], unfollowed := true, recurses := true, apart := false }
def EnvLooksSaid : Prop := envLooksRow.holds Try.pinned (OpenSpec.ofChange envLooksSpec)

/-- ITS FALSE NEIGHBOUR: 'it returns false'. Refute it at one input. -/
def envLooksWrong : ChangeSpec := { name := "envLooks", fn := fun _ => fun
  | [d1, d2] => { results := [.lit (.bool false)], args := [d1, d2] }
  | _ => none }
def EnvLooksWrongFalsely : Prop := envLooksRow.holds Try.pinned (OpenSpec.ofChange envLooksWrong)

/-- 'penumbralaw17.EnvDraws': WHATEVER THE INPUT: true; the input reads as it did. -/
def envDrawsSpec : ChangeSpec := { name := "envDraws", fn := fun _ => fun
  | [d] => { results := [.lit (.bool true)], args := [d] }
  | _ => none }
def envDrawsRow : OpenClaim := { program := "ytjmanmdkdgnfmaa", sum := "cf7fee67162a577f48647c4c36e72596a8707f5a3ebd364d2255c6bc3fd4d089", func := "penumbra/penumbralaw17.EnvDraws", spec := "envDraws", inPlace := ["math.sqrt"], unfollowed := true, recurses := true, apart := false }
def EnvDrawsSaid : Prop := envDrawsRow.holds Try.pinned (OpenSpec.ofChange envDrawsSpec)

/-- ITS FALSE NEIGHBOUR: 'it returns false'. Refute it at one input. -/
def envDrawsWrong : ChangeSpec := { name := "envDraws", fn := fun _ => fun
  | [d] => { results := [.lit (.bool false)], args := [d] }
  | _ => none }
def EnvDrawsWrongFalsely : Prop := envDrawsRow.holds Try.pinned (OpenSpec.ofChange envDrawsWrong)

/-- 'penumbralaw17.EnvNone': WHATEVER THE INPUT: true; the input reads as it did. -/
def envNoneSpec : ChangeSpec := { name := "envNone", fn := fun _ => fun
  | [d] => { results := [.lit (.bool true)], args := [d] }
  | _ => none }
def envNoneRow : OpenClaim := { program := "ytjmanmdkdgnfmaa", sum := "cf7fee67162a577f48647c4c36e72596a8707f5a3ebd364d2255c6bc3fd4d089", func := "penumbra/penumbralaw17.EnvNone", spec := "envNone", inPlace := ["math.sqrt"], unfollowed := true, recurses := true, apart := false }
def EnvNoneSaid : Prop := envNoneRow.holds Try.pinned (OpenSpec.ofChange envNoneSpec)

/-- ITS FALSE NEIGHBOUR: 'it returns false'. Refute it at one input. -/
def envNoneWrong : ChangeSpec := { name := "envNone", fn := fun _ => fun
  | [d] => { results := [.lit (.bool false)], args := [d] }
  | _ => none }
def EnvNoneWrongFalsely : Prop := envNoneRow.holds Try.pinned (OpenSpec.ofChange envNoneWrong)

/- THE SECOND FORM. 'bulk': how many values and letters a reading holds, each counted each time it is reached (what is shared counts as often as it is met; a slice's spare places count too). A statement '..UptoSaid' is the law's where the arguments, and the package variables that the reading takes, are together of bulk at most 1048576: NARROWER than '..Said'. Prove '..Said' where nothing that the law and all that it calls make is longer than what came in: it says more and counts as full. Else prove '..UptoSaid'. A law counts once. -/
mutual
def uptoBulk {H : Type} : DataW H → Nat
  | .lit (.string bytes) => bytes.length + 1
  | .lit _ => 1
  | .nil => 1
  | .ptr d => uptoBulk d + 1
  | .slice elems spare => uptoBulkAll elems + uptoBulkAll spare + 1
  | .agg parts => uptoBulkAll parts + 1
  | .iface _ d => uptoBulk d + 1
  | .map entries => uptoBulkEntries entries + 1
  | .held _ => 1
def uptoBulkAll {H : Type} : List (DataW H) → Nat
  | [] => 0
  | d :: r => uptoBulk d + uptoBulkAll r
def uptoBulkEntries {H : Type} : List (Lit × DataW H) → Nat
  | [] => 0
  | x :: r => uptoBulkEntry x + uptoBulkEntries r
def uptoBulkEntry {H : Type} : Lit × DataW H → Nat
  | (.string bytes, d) => bytes.length + uptoBulk d + 1
  | (_, d) => uptoBulk d + 1
 end
def uptoSmall : (H : Type) → List (DataW H) → Bool := fun _ ds => decide (uptoBulkAll ds ≤ 1048576)
def OpenSpec.upto (s : _root_.Go.ChangeSpec) : _root_.Go.OpenSpec := { _root_.Go.OpenSpec.ofChange s with cond := some uptoSmall }

/-- 'penumbralaw17.EnvMakes', WHERE WHAT IT READS IS OF BULK AT MOST 1048576: true; the input reads as it did. -/
def envMakesUptoRow : OpenClaim := { program := "ytjmanmdkdgnfmaa", sum := "cf7fee67162a577f48647c4c36e72596a8707f5a3ebd364d2255c6bc3fd4d089", func := "penumbra/penumbralaw17.EnvMakes", spec := "envMakes", inPlace := ["math.sqrt"], unfollowed := true, recurses := true, apart := false, narrowed := true }
def EnvMakesUptoSaid : Prop := envMakesUptoRow.holds Try.pinned (OpenSpec.upto envMakesSpec)

/-- 'penumbralaw17.EnvLooks', WHERE WHAT IT READS IS OF BULK AT MOST 1048576: true; the input reads as it did. -/
def envLooksUptoRow : OpenClaim := { program := "ytjmanmdkdgnfmaa", sum := "cf7fee67162a577f48647c4c36e72596a8707f5a3ebd364d2255c6bc3fd4d089", func := "penumbra/penumbralaw17.EnvLooks", spec := "envLooks", inPlace := ["math.sqrt"], unfollowed := true, recurses := true, apart := false, narrowed := true }
def EnvLooksUptoSaid : Prop := envLooksUptoRow.holds Try.pinned (OpenSpec.upto envLooksSpec)

/-- 'penumbralaw17.EnvDraws', WHERE WHAT IT READS IS OF BULK AT MOST 1048576: true; the input reads as it did. -/
def envDrawsUptoRow : OpenClaim := { program := "ytjmanmdkdgnfmaa", sum := "cf7fee67162a577f48647c4c36e72596a8707f5a3ebd364d2255c6bc3fd4d089", func := "penumbra/penumbralaw17.EnvDraws", spec := "envDraws", inPlace := ["math.sqrt"], unfollowed := true, recurses := true, apart := false, narrowed := true }
def EnvDrawsUptoSaid : Prop := envDrawsUptoRow.holds Try.pinned (OpenSpec.upto envDrawsSpec)

/-- 'penumbralaw17.EnvNone', WHERE WHAT IT READS IS OF BULK AT MOST 1048576: true; the input reads as it did. -/
def envNoneUptoRow : OpenClaim := { program := "ytjmanmdkdgnfmaa", sum := "cf7fee67162a577f48647c4c36e72596a8707f5a3ebd364d2255c6bc3fd4d089", func := "penumbra/penumbralaw17.EnvNone", spec := "envNone", inPlace := ["math.sqrt"], unfollowed := true, recurses := true, apart := false, narrowed := true }
def EnvNoneUptoSaid : Prop := envNoneUptoRow.holds Try.pinned (OpenSpec.upto envNoneSpec)

end Rows
end Go.Proofs.Ytjmanmdkdgnfmaa
