/-
  No cell of these rows narrows 'for every input' (looked for: loops, veiled, ifaces, maps, wideKeys, modest, calm, conditions, laid).
  DERIVED. THE GIVEN ROWS OF THIS SEAT. 3 by the template 'for every input the law returns true; each argument reads behind the call as it read before'; 0 by the template 'total and deterministic' (their statements: YtgamhkhninogeaaTotals.lean).
  GIVEN WITH THE SEED: the statements are not yours to turn. If you find one false, say at which input.
  Laid BY PROGRAM, IN A SANDBOX (cutbox-rows.mjs): the forced cells as the released guide's own fill.sh prints them over the translation 49fda7c992a39b71… (all of the seat's roots in one cut). By AI agents, Wed Nov 11 2026. No macro, syntax, notation, axiom, sorry.
-/
import Derived.Test.YtgamhkhninogeaaChecked
import GoSem.Claim
import GoSem.ClaimJoined
import GoSem.ClaimMapViews
import Derived.JoinedTies
import Derived.KernelRfl
namespace Go.Proofs.Ytgamhkhninogeaa
/- THE CELL 'sum', in the pinned program and in every row, IS THE sha256 OF THE DUMP (.gsa) THAT YtgamhkhninogeaaProg.lean LOADS. Nothing in Lean hashes anything: it is a label: what it is worth is what the hold of that sum in a sandbox is worth. -/
noncomputable def Try.pinned : Pinned := { name := "ytgamhkhninogeaa", sum := "49fda7c992a39b71d8a118eeeef4b0231e32e00063f296c3f06f21f3c7d3e15c", checked := Try.checked }
namespace Rows
def none {H : Type} : Left H := { results := [], args := [] }

/-- 'tendrillaw19.LinksPlay': WHATEVER THE INPUT: true; the input reads as it did. -/
def linksPlaySpec : ChangeSpec := { name := "linksPlay", fn := fun _ => fun
  | [d1, d2] => { results := [.lit (.bool true)], args := [d1, d2] }
  | _ => none }
def linksPlayRow : OpenClaim := { program := "ytgamhkhninogeaa", sum := "49fda7c992a39b71d8a118eeeef4b0231e32e00063f296c3f06f21f3c7d3e15c", func := "tendril/tendrillaw19.LinksPlay", spec := "linksPlay", apart := false }
def LinksPlaySaid : Prop := linksPlayRow.holds Try.pinned (OpenSpec.ofChange linksPlaySpec)

/-- ITS FALSE NEIGHBOUR: 'it returns false'. Refute it at one input. -/
def linksPlayWrong : ChangeSpec := { name := "linksPlay", fn := fun _ => fun
  | [d1, d2] => { results := [.lit (.bool false)], args := [d1, d2] }
  | _ => none }
def LinksPlayWrongFalsely : Prop := linksPlayRow.holds Try.pinned (OpenSpec.ofChange linksPlayWrong)

/-- 'tendrillaw19.LinksUndo': WHATEVER THE INPUT: true; the input reads as it did. -/
def linksUndoSpec : ChangeSpec := { name := "linksUndo", fn := fun _ => fun
  | [d1, d2, d3] => { results := [.lit (.bool true)], args := [d1, d2, d3] }
  | _ => none }
def linksUndoRow : OpenClaim := { program := "ytgamhkhninogeaa", sum := "49fda7c992a39b71d8a118eeeef4b0231e32e00063f296c3f06f21f3c7d3e15c", func := "tendril/tendrillaw19.LinksUndo", spec := "linksUndo", apart := false }
def LinksUndoSaid : Prop := linksUndoRow.holds Try.pinned (OpenSpec.ofChange linksUndoSpec)

/-- ITS FALSE NEIGHBOUR: 'it returns false'. Refute it at one input. -/
def linksUndoWrong : ChangeSpec := { name := "linksUndo", fn := fun _ => fun
  | [d1, d2, d3] => { results := [.lit (.bool false)], args := [d1, d2, d3] }
  | _ => none }
def LinksUndoWrongFalsely : Prop := linksUndoRow.holds Try.pinned (OpenSpec.ofChange linksUndoWrong)

/-- 'tendrillaw19.LinksItems': WHATEVER THE INPUT: true; the input reads as it did. -/
def linksItemsSpec : ChangeSpec := { name := "linksItems", fn := fun _ => fun
  | [d1, d2] => { results := [.lit (.bool true)], args := [d1, d2] }
  | _ => none }
def linksItemsRow : OpenClaim := { program := "ytgamhkhninogeaa", sum := "49fda7c992a39b71d8a118eeeef4b0231e32e00063f296c3f06f21f3c7d3e15c", func := "tendril/tendrillaw19.LinksItems", spec := "linksItems", apart := false }
def LinksItemsSaid : Prop := linksItemsRow.holds Try.pinned (OpenSpec.ofChange linksItemsSpec)

/-- ITS FALSE NEIGHBOUR: 'it returns false'. Refute it at one input. -/
def linksItemsWrong : ChangeSpec := { name := "linksItems", fn := fun _ => fun
  | [d1, d2] => { results := [.lit (.bool false)], args := [d1, d2] }
  | _ => none }
def LinksItemsWrongFalsely : Prop := linksItemsRow.holds Try.pinned (OpenSpec.ofChange linksItemsWrong)

/- THE SECOND FORM. 'bulk': how many values and letters a reading holds, each counted each time it is reached (what is shared counts as often as it is met; a slice's spare places count too). A statement '..UptoSaid' is the law's where the arguments, and the package variables that the reading takes, are together of bulk at most 1048576: NARROWER than '..Said'. Prove '..Said' where nothing that the law and all that it calls make is longer than what came in: it says more and counts as full. Else prove '..UptoSaid'. A law counts once. -/
mutual
def uptoBulk {H : Type} : DataW H → Nat
  | .lit (.string bytes) => bytes.length + 1
  | .lit _ => 1
  | .nil => 1
  | .ptr d => uptoBulk d + 1
  | .slice elems spare => uptoBulkAll elems + uptoBulkAll spare + 1
  | .agg parts => uptoBulkAll parts + 1
  | .iface _ d => uptoBulk d + 1
  | .map entries => uptoBulkEntries entries + 1
  | .held _ => 1
def uptoBulkAll {H : Type} : List (DataW H) → Nat
  | [] => 0
  | d :: r => uptoBulk d + uptoBulkAll r
def uptoBulkEntries {H : Type} : List (Lit × DataW H) → Nat
  | [] => 0
  | x :: r => uptoBulkEntry x + uptoBulkEntries r
def uptoBulkEntry {H : Type} : Lit × DataW H → Nat
  | (.string bytes, d) => bytes.length + uptoBulk d + 1
  | (_, d) => uptoBulk d + 1
 end
def uptoSmall : (H : Type) → List (DataW H) → Bool := fun _ ds => decide (uptoBulkAll ds ≤ 1048576)
def OpenSpec.upto (s : _root_.Go.ChangeSpec) : _root_.Go.OpenSpec := { _root_.Go.OpenSpec.ofChange s with cond := some uptoSmall }

/-- 'tendrillaw19.LinksPlay', WHERE WHAT IT READS IS OF BULK AT MOST 1048576: true; the input reads as it did. -/
def linksPlayUptoRow : OpenClaim := { program := "ytgamhkhninogeaa", sum := "49fda7c992a39b71d8a118eeeef4b0231e32e00063f296c3f06f21f3c7d3e15c", func := "tendril/tendrillaw19.LinksPlay", spec := "linksPlay", apart := false, narrowed := true }
def LinksPlayUptoSaid : Prop := linksPlayUptoRow.holds Try.pinned (OpenSpec.upto linksPlaySpec)

/-- 'tendrillaw19.LinksUndo', WHERE WHAT IT READS IS OF BULK AT MOST 1048576: true; the input reads as it did. -/
def linksUndoUptoRow : OpenClaim := { program := "ytgamhkhninogeaa", sum := "49fda7c992a39b71d8a118eeeef4b0231e32e00063f296c3f06f21f3c7d3e15c", func := "tendril/tendrillaw19.LinksUndo", spec := "linksUndo", apart := false, narrowed := true }
def LinksUndoUptoSaid : Prop := linksUndoUptoRow.holds Try.pinned (OpenSpec.upto linksUndoSpec)

/-- 'tendrillaw19.LinksItems', WHERE WHAT IT READS IS OF BULK AT MOST 1048576: true; the input reads as it did. -/
def linksItemsUptoRow : OpenClaim := { program := "ytgamhkhninogeaa", sum := "49fda7c992a39b71d8a118eeeef4b0231e32e00063f296c3f06f21f3c7d3e15c", func := "tendril/tendrillaw19.LinksItems", spec := "linksItems", apart := false, narrowed := true }
def LinksItemsUptoSaid : Prop := linksItemsUptoRow.holds Try.pinned (OpenSpec.upto linksItemsSpec)

end Rows
end Go.Proofs.Ytgamhkhninogeaa
