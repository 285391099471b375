/-
  No cell of these rows narrows 'for every input' (looked for: loops, veiled, ifaces, maps, wideKeys, modest, calm, conditions, laid).
  DERIVED. THE GIVEN ROWS OF THIS SEAT. 3 by the template 'for every input the law returns true; each argument reads behind the call as it read before'; 0 by the template 'total and deterministic' (their statements: YtmenhajgmjnfkaaTotals.lean).
  GIVEN WITH THE SEED: the statements are not yours to turn. If you find one false, say at which input.
  Laid BY PROGRAM, IN A SANDBOX (cutbox-rows.mjs): the forced cells as the released guide's own fill.sh prints them over the translation 154042b38d9ad923… (all of the seat's roots in one cut). By AI agents, Wed Nov 11 2026. No macro, syntax, notation, axiom, sorry.
-/
import Derived.Test.YtmenhajgmjnfkaaChecked
import GoSem.Claim
import GoSem.ClaimJoined
import GoSem.ClaimMapViews
import Derived.JoinedTies
import Derived.KernelRfl
namespace Go.Proofs.Ytmenhajgmjnfkaa
/- THE CELL 'sum', in the pinned program and in every row, IS THE sha256 OF THE DUMP (.gsa) THAT YtmenhajgmjnfkaaProg.lean LOADS. Nothing in Lean hashes anything: it is a label: what it is worth is what the hold of that sum in a sandbox is worth. -/
noncomputable def Try.pinned : Pinned := { name := "ytmenhajgmjnfkaa", sum := "154042b38d9ad923871faceec7b67e8dc00769370980ed8e5e4e9a4a8c8d8ec5", checked := Try.checked }
namespace Rows
def none {H : Type} : Left H := { results := [], args := [] }

/-- 'penumbralaw21.FilmMakes': WHATEVER THE INPUT: true; the input reads as it did. -/
def filmMakesSpec : ChangeSpec := { name := "filmMakes", fn := fun _ => fun
  | [d1, d2] => { results := [.lit (.bool true)], args := [d1, d2] }
  | _ => none }
def filmMakesRow : OpenClaim := { program := "ytmenhajgmjnfkaa", sum := "154042b38d9ad923871faceec7b67e8dc00769370980ed8e5e4e9a4a8c8d8ec5", func := "penumbra/penumbralaw21.FilmMakes", spec := "filmMakes", unfollowed := true, recurses := true, apart := false }
def FilmMakesSaid : Prop := filmMakesRow.holds Try.pinned (OpenSpec.ofChange filmMakesSpec)

/-- ITS FALSE NEIGHBOUR: 'it returns false'. Refute it at one input. -/
def filmMakesWrong : ChangeSpec := { name := "filmMakes", fn := fun _ => fun
  | [d1, d2] => { results := [.lit (.bool false)], args := [d1, d2] }
  | _ => none }
def FilmMakesWrongFalsely : Prop := filmMakesRow.holds Try.pinned (OpenSpec.ofChange filmMakesWrong)

/-- 'penumbralaw21.FilmTakes': WHATEVER THE INPUT: true; the input reads as it did. -/
def filmTakesSpec : ChangeSpec := { name := "filmTakes", fn := fun _ => fun
  | [d1, d2, d3] => { results := [.lit (.bool true)], args := [d1, d2, d3] }
  | _ => none }
def filmTakesRow : OpenClaim := { program := "ytmenhajgmjnfkaa", sum := "154042b38d9ad923871faceec7b67e8dc00769370980ed8e5e4e9a4a8c8d8ec5", func := "penumbra/penumbralaw21.FilmTakes", spec := "filmTakes", unfollowed := true, recurses := true, apart := false }
def FilmTakesSaid : Prop := filmTakesRow.holds Try.pinned (OpenSpec.ofChange filmTakesSpec)

/-- ITS FALSE NEIGHBOUR: 'it returns false'. Refute it at one input. -/
def filmTakesWrong : ChangeSpec := { name := "filmTakes", fn := fun _ => fun
  | [d1, d2, d3] => { results := [.lit (.bool false)], args := [d1, d2, d3] }
  | _ => none }
def FilmTakesWrongFalsely : Prop := filmTakesRow.holds Try.pinned (OpenSpec.ofChange filmTakesWrong)

/-- 'penumbralaw21.FilmNone': WHATEVER THE INPUT: true; the input reads as it did. -/
def filmNoneSpec : ChangeSpec := { name := "filmNone", fn := fun _ => fun
  | [d1, d2, d3] => { results := [.lit (.bool true)], args := [d1, d2, d3] }
  | _ => none }
def filmNoneRow : OpenClaim := { program := "ytmenhajgmjnfkaa", sum := "154042b38d9ad923871faceec7b67e8dc00769370980ed8e5e4e9a4a8c8d8ec5", func := "penumbra/penumbralaw21.FilmNone", spec := "filmNone", unfollowed := true, recurses := true, apart := false }
def FilmNoneSaid : Prop := filmNoneRow.holds Try.pinned (OpenSpec.ofChange filmNoneSpec)

/-- ITS FALSE NEIGHBOUR: 'it returns false'. Refute it at one input. -/
def filmNoneWrong : ChangeSpec := { name := "filmNone", fn := fun _ => fun
  | [d1, d2, d3] => { results := [.lit (.bool false)], args := [d1, d2, d3] }
  | _ => none }
def FilmNoneWrongFalsely : Prop := filmNoneRow.holds Try.pinned (OpenSpec.ofChange filmNoneWrong)

/- THE SECOND FORM. 'bulk': how many values and letters a reading holds, each counted each time it is reached (what is shared counts as often as it is met; a slice's spare places count too). A statement '..UptoSaid' is the law's where the arguments, and the package variables that the reading takes, are together of bulk at most 1048576: NARROWER than '..Said'. Prove '..Said' where nothing that the law and all that it calls make is longer than what came in: it says more and counts as full. Else prove '..UptoSaid'. A law counts once. -/
mutual
def uptoBulk {H : Type} : DataW H → Nat
  | .lit (.string bytes) => bytes.length + 1
  | .lit _ => 1
  | .nil => 1
  | .ptr d => uptoBulk d + 1
  | .slice elems spare => uptoBulkAll elems + uptoBulkAll spare + 1
  | .agg parts => uptoBulkAll parts + 1
  | .iface _ d => uptoBulk d + 1
  | .map entries => uptoBulkEntries entries + 1
  | .held _ => 1
def uptoBulkAll {H : Type} : List (DataW H) → Nat
  | [] => 0
  | d :: r => uptoBulk d + uptoBulkAll r
def uptoBulkEntries {H : Type} : List (Lit × DataW H) → Nat
  | [] => 0
  | x :: r => uptoBulkEntry x + uptoBulkEntries r
def uptoBulkEntry {H : Type} : Lit × DataW H → Nat
  | (.string bytes, d) => bytes.length + uptoBulk d + 1
  | (_, d) => uptoBulk d + 1
 end
def uptoSmall : (H : Type) → List (DataW H) → Bool := fun _ ds => decide (uptoBulkAll ds ≤ 1048576)
def OpenSpec.upto (s : _root_.Go.ChangeSpec) : _root_.Go.OpenSpec := { _root_.Go.OpenSpec.ofChange s with cond := some uptoSmall }

/-- 'penumbralaw21.FilmMakes', WHERE WHAT IT READS IS OF BULK AT MOST 1048576: true; the input reads as it did. -/
def filmMakesUptoRow : OpenClaim := { program := "ytmenhajgmjnfkaa", sum := "154042b38d9ad923871faceec7b67e8dc00769370980ed8e5e4e9a4a8c8d8ec5", func := "penumbra/penumbralaw21.FilmMakes", spec := "filmMakes", unfollowed := true, recurses := true, apart := false, narrowed := true }
def FilmMakesUptoSaid : Prop := filmMakesUptoRow.holds Try.pinned (OpenSpec.upto filmMakesSpec)

/-- 'penumbralaw21.FilmTakes', WHERE WHAT IT READS IS OF BULK AT MOST 1048576: true; the input reads as it did. -/
def filmTakesUptoRow : OpenClaim := { program := "ytmenhajgmjnfkaa", sum := "154042b38d9ad923871faceec7b67e8dc00769370980ed8e5e4e9a4a8c8d8ec5", func := "penumbra/penumbralaw21.FilmTakes", spec := "filmTakes", unfollowed := true, recurses := true, apart := false, narrowed := true }
def FilmTakesUptoSaid : Prop := filmTakesUptoRow.holds Try.pinned (OpenSpec.upto filmTakesSpec)

/-- 'penumbralaw21.FilmNone', WHERE WHAT IT READS IS OF BULK AT MOST 1048576: true; the input reads as it did. -/
def filmNoneUptoRow : OpenClaim := { program := "ytmenhajgmjnfkaa", sum := "154042b38d9ad923871faceec7b67e8dc00769370980ed8e5e4e9a4a8c8d8ec5", func := "penumbra/penumbralaw21.FilmNone", spec := "filmNone", unfollowed := true, recurses := true, apart := false, narrowed := true }
def FilmNoneUptoSaid : Prop := filmNoneUptoRow.holds Try.pinned (OpenSpec.upto filmNoneSpec)

end Rows
end Go.Proofs.Ytmenhajgmjnfkaa
