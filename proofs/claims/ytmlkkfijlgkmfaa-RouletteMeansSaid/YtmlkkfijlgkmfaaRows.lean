/-
  No cell of these rows narrows 'for every input' (looked for: loops, veiled, ifaces, maps, wideKeys, modest, calm, conditions, laid).
  DERIVED. THE GIVEN ROWS OF THIS SEAT. 3 by the template 'for every input the law returns true; each argument reads behind the call as it read before'; 0 by the template 'total and deterministic' (their statements: YtmlkkfijlgkmfaaTotals.lean).
  GIVEN WITH THE SEED: the statements are not yours to turn. If you find one false, say at which input.
  Laid BY PROGRAM, IN A SANDBOX (cutbox-rows.mjs): the forced cells as the released guide's own fill.sh prints them over the translation 101fcfc19929fbde… (all of the seat's roots in one cut). By AI agents, Wed Nov 11 2026. No macro, syntax, notation, axiom, sorry.
-/
import Derived.Test.YtmlkkfijlgkmfaaChecked
import GoSem.Claim
import GoSem.ClaimJoined
import GoSem.ClaimMapViews
import Derived.JoinedTies
import Derived.KernelRfl
namespace Go.Proofs.Ytmlkkfijlgkmfaa
/- THE CELL 'sum', in the pinned program and in every row, IS THE sha256 OF THE DUMP (.gsa) THAT YtmlkkfijlgkmfaaProg.lean LOADS. Nothing in Lean hashes anything: it is a label: what it is worth is what the hold of that sum in a sandbox is worth. -/
noncomputable def Try.pinned : Pinned := { name := "ytmlkkfijlgkmfaa", sum := "101fcfc19929fbde87213ebd42224b73ddd4f54ca9eacceab3b1dd2f827e4802", checked := Try.checked }
namespace Rows
def none {H : Type} : Left H := { results := [], args := [] }

/-- 'penumbralaw26.RoulettePlays': WHATEVER THE INPUT: true; the input reads as it did. -/
def roulettePlaysSpec : ChangeSpec := { name := "roulettePlays", fn := fun _ => fun
  | [d1, d2, d3] => { results := [.lit (.bool true)], args := [d1, d2, d3] }
  | _ => none }
def roulettePlaysRow : OpenClaim := { program := "ytmlkkfijlgkmfaa", sum := "101fcfc19929fbde87213ebd42224b73ddd4f54ca9eacceab3b1dd2f827e4802", func := "penumbra/penumbralaw26.RoulettePlays", spec := "roulettePlays", unfollowed := true, recurses := true, apart := false }
def RoulettePlaysSaid : Prop := roulettePlaysRow.holds Try.pinned (OpenSpec.ofChange roulettePlaysSpec)

/-- ITS FALSE NEIGHBOUR: 'it returns false'. Refute it at one input. -/
def roulettePlaysWrong : ChangeSpec := { name := "roulettePlays", fn := fun _ => fun
  | [d1, d2, d3] => { results := [.lit (.bool false)], args := [d1, d2, d3] }
  | _ => none }
def RoulettePlaysWrongFalsely : Prop := roulettePlaysRow.holds Try.pinned (OpenSpec.ofChange roulettePlaysWrong)

/-- 'penumbralaw26.RouletteMeans': WHATEVER THE INPUT: true; the input reads as it did. -/
def rouletteMeansSpec : ChangeSpec := { name := "rouletteMeans", fn := fun _ => fun
  | [d1, d2, d3] => { results := [.lit (.bool true)], args := [d1, d2, d3] }
  | _ => none }
def rouletteMeansRow : OpenClaim := { program := "ytmlkkfijlgkmfaa", sum := "101fcfc19929fbde87213ebd42224b73ddd4f54ca9eacceab3b1dd2f827e4802", func := "penumbra/penumbralaw26.RouletteMeans", spec := "rouletteMeans", unfollowed := true, recurses := true, apart := false }
def RouletteMeansSaid : Prop := rouletteMeansRow.holds Try.pinned (OpenSpec.ofChange rouletteMeansSpec)

/-- ITS FALSE NEIGHBOUR: 'it returns false'. Refute it at one input. -/
def rouletteMeansWrong : ChangeSpec := { name := "rouletteMeans", fn := fun _ => fun
  | [d1, d2, d3] => { results := [.lit (.bool false)], args := [d1, d2, d3] }
  | _ => none }
def RouletteMeansWrongFalsely : Prop := rouletteMeansRow.holds Try.pinned (OpenSpec.ofChange rouletteMeansWrong)

/-- 'penumbralaw26.RouletteEven': WHATEVER THE INPUT: true; the input reads as it did. -/
def rouletteEvenSpec : ChangeSpec := { name := "rouletteEven", fn := fun _ => fun
  | [d] => { results := [.lit (.bool true)], args := [d] }
  | _ => none }
def rouletteEvenRow : OpenClaim := { program := "ytmlkkfijlgkmfaa", sum := "101fcfc19929fbde87213ebd42224b73ddd4f54ca9eacceab3b1dd2f827e4802", func := "penumbra/penumbralaw26.RouletteEven", spec := "rouletteEven", unfollowed := true, recurses := true, apart := false }
def RouletteEvenSaid : Prop := rouletteEvenRow.holds Try.pinned (OpenSpec.ofChange rouletteEvenSpec)

/-- ITS FALSE NEIGHBOUR: 'it returns false'. Refute it at one input. -/
def rouletteEvenWrong : ChangeSpec := { name := "rouletteEven", fn := fun _ => fun
  | [d] => { results := [.lit (.bool false)], args := [d] }
  | _ => none }
def RouletteEvenWrongFalsely : Prop := rouletteEvenRow.holds Try.pinned (OpenSpec.ofChange rouletteEvenWrong)

/- THE SECOND FORM. 'bulk': how many values and letters a reading holds, each counted each time it is reached (what is shared counts as often as it is met; a slice's spare places count too). A statement '..UptoSaid' is the law's where the arguments, and the package variables that the reading takes, are together of bulk at most 1048576: NARROWER than '..Said'. Prove '..Said' where nothing that the law and all that it calls make is longer than what came in: it says more and counts as full. Else prove '..UptoSaid'. A law counts once. -/
mutual
def uptoBulk {H : Type} : DataW H → Nat
  | .lit (.string bytes) => bytes.length + 1
  | .lit _ => 1
  | .nil => 1
  | .ptr d => uptoBulk d + 1
  | .slice elems spare => uptoBulkAll elems + uptoBulkAll spare + 1
  | .agg parts => uptoBulkAll parts + 1
  | .iface _ d => uptoBulk d + 1
  | .map entries => uptoBulkEntries entries + 1
  | .held _ => 1
def uptoBulkAll {H : Type} : List (DataW H) → Nat
  | [] => 0
  | d :: r => uptoBulk d + uptoBulkAll r
def uptoBulkEntries {H : Type} : List (Lit × DataW H) → Nat
  | [] => 0
  | x :: r => uptoBulkEntry x + uptoBulkEntries r
def uptoBulkEntry {H : Type} : Lit × DataW H → Nat
  | (.string bytes, d) => bytes.length + uptoBulk d + 1
  | (_, d) => uptoBulk d + 1
 end
def uptoSmall : (H : Type) → List (DataW H) → Bool := fun _ ds => decide (uptoBulkAll ds ≤ 1048576)
def OpenSpec.upto (s : _root_.Go.ChangeSpec) : _root_.Go.OpenSpec := { _root_.Go.OpenSpec.ofChange s with cond := some uptoSmall }

/-- 'penumbralaw26.RoulettePlays', WHERE WHAT IT READS IS OF BULK AT MOST 1048576: true; the input reads as it did. -/
def roulettePlaysUptoRow : OpenClaim := { program := "ytmlkkfijlgkmfaa", sum := "101fcfc19929fbde87213ebd42224b73ddd4f54ca9eacceab3b1dd2f827e4802", func := "penumbra/penumbralaw26.RoulettePlays", spec := "roulettePlays", unfollowed := true, recurses := true, apart := false, narrowed := true }
def RoulettePlaysUptoSaid : Prop := roulettePlaysUptoRow.holds Try.pinned (OpenSpec.upto roulettePlaysSpec)

/-- 'penumbralaw26.RouletteMeans', WHERE WHAT IT READS IS OF BULK AT MOST 1048576: true; the input reads as it did. -/
def rouletteMeansUptoRow : OpenClaim := { program := "ytmlkkfijlgkmfaa", sum := "101fcfc19929fbde87213ebd42224b73ddd4f54ca9eacceab3b1dd2f827e4802", func := "penumbra/penumbralaw26.RouletteMeans", spec := "rouletteMeans", unfollowed := true, recurses := true, apart := false, narrowed := true }
def RouletteMeansUptoSaid : Prop := rouletteMeansUptoRow.holds Try.pinned (OpenSpec.upto rouletteMeansSpec)

/-- 'penumbralaw26.RouletteEven', WHERE WHAT IT READS IS OF BULK AT MOST 1048576: true; the input reads as it did. -/
def rouletteEvenUptoRow : OpenClaim := { program := "ytmlkkfijlgkmfaa", sum := "101fcfc19929fbde87213ebd42224b73ddd4f54ca9eacceab3b1dd2f827e4802", func := "penumbra/penumbralaw26.RouletteEven", spec := "rouletteEven", unfollowed := true, recurses := true, apart := false, narrowed := true }
def RouletteEvenUptoSaid : Prop := rouletteEvenUptoRow.holds Try.pinned (OpenSpec.upto rouletteEvenSpec)

end Rows
end Go.Proofs.Ytmlkkfijlgkmfaa
