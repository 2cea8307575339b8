/-
  No cell of these rows narrows 'for every input' (looked for: loops, veiled, ifaces, maps, wideKeys, modest, calm, conditions, laid).
  DERIVED. THE GIVEN ROWS OF THIS SEAT. 4 by the template 'for every input the law returns true; each argument reads behind the call as it read before'; 0 by the template 'total and deterministic' (their statements: YtahjlbbliihgpaaTotals.lean).
  GIVEN WITH THE SEED: the statements are not yours to turn. If you find one false, say at which input.
  Laid BY PROGRAM, IN A SANDBOX (cutbox-rows.mjs): the forced cells as the released guide's own fill.sh prints them over the translation 0e4e7edcf2e23c8b… (all of the seat's roots in one cut). By AI agents, Wed Nov 11 2026. No macro, syntax, notation, axiom, sorry.
-/
import Derived.Test.YtahjlbbliihgpaaChecked
import GoSem.Claim
import GoSem.ClaimJoined
import GoSem.ClaimMapViews
import Derived.JoinedTies
import Derived.KernelRfl
namespace Go.Proofs.Ytahjlbbliihgpaa
/- THE CELL 'sum', in the pinned program and in every row, IS THE sha256 OF THE DUMP (.gsa) THAT YtahjlbbliihgpaaProg.lean LOADS. Nothing in Lean hashes anything: it is a label: what it is worth is what the hold of that sum in a sandbox is worth. -/
noncomputable def Try.pinned : Pinned := { name := "ytahjlbbliihgpaa", sum := "0e4e7edcf2e23c8b3d1a16489260d91a7d6670bc011d41da8d5b6811dba56c3a", checked := Try.checked }
namespace Rows
def none {H : Type} : Left H := { results := [], args := [] }

/-- 'tendrillaw06.LisAny': WHATEVER THE INPUT: true; the input reads as it did. -/
def lisAnySpec : ChangeSpec := { name := "lisAny", fn := fun _ => fun
  | [d1, d2] => { results := [.lit (.bool true)], args := [d1, d2] }
  | _ => none }
def lisAnyRow : OpenClaim := { program := "ytahjlbbliihgpaa", sum := "0e4e7edcf2e23c8b3d1a16489260d91a7d6670bc011d41da8d5b6811dba56c3a", func := "tendril/tendrillaw06.LisAny", spec := "lisAny", apart := false }
def LisAnySaid : Prop := lisAnyRow.holds Try.pinned (OpenSpec.ofChange lisAnySpec)

/-- ITS FALSE NEIGHBOUR: 'it returns false'. Refute it at one input. -/
def lisAnyWrong : ChangeSpec := { name := "lisAny", fn := fun _ => fun
  | [d1, d2] => { results := [.lit (.bool false)], args := [d1, d2] }
  | _ => none }
def LisAnyWrongFalsely : Prop := lisAnyRow.holds Try.pinned (OpenSpec.ofChange lisAnyWrong)

/-- 'tendrillaw06.LisSkips': WHATEVER THE INPUT: true; the input reads as it did. -/
def lisSkipsSpec : ChangeSpec := { name := "lisSkips", fn := fun _ => fun
  | [d] => { results := [.lit (.bool true)], args := [d] }
  | _ => none }
def lisSkipsRow : OpenClaim := { program := "ytahjlbbliihgpaa", sum := "0e4e7edcf2e23c8b3d1a16489260d91a7d6670bc011d41da8d5b6811dba56c3a", func := "tendril/tendrillaw06.LisSkips", spec := "lisSkips", apart := false }
def LisSkipsSaid : Prop := lisSkipsRow.holds Try.pinned (OpenSpec.ofChange lisSkipsSpec)

/-- ITS FALSE NEIGHBOUR: 'it returns false'. Refute it at one input. -/
def lisSkipsWrong : ChangeSpec := { name := "lisSkips", fn := fun _ => fun
  | [d] => { results := [.lit (.bool false)], args := [d] }
  | _ => none }
def LisSkipsWrongFalsely : Prop := lisSkipsRow.holds Try.pinned (OpenSpec.ofChange lisSkipsWrong)

/-- 'tendrillaw06.LisChosen': WHATEVER THE INPUT: true; the input reads as it did. -/
def lisChosenSpec : ChangeSpec := { name := "lisChosen", fn := fun _ => fun
  | [d] => { results := [.lit (.bool true)], args := [d] }
  | _ => none }
def lisChosenRow : OpenClaim := { program := "ytahjlbbliihgpaa", sum := "0e4e7edcf2e23c8b3d1a16489260d91a7d6670bc011d41da8d5b6811dba56c3a", func := "tendril/tendrillaw06.LisChosen", spec := "lisChosen", apart := false }
def LisChosenSaid : Prop := lisChosenRow.holds Try.pinned (OpenSpec.ofChange lisChosenSpec)

/-- ITS FALSE NEIGHBOUR: 'it returns false'. Refute it at one input. -/
def lisChosenWrong : ChangeSpec := { name := "lisChosen", fn := fun _ => fun
  | [d] => { results := [.lit (.bool false)], args := [d] }
  | _ => none }
def LisChosenWrongFalsely : Prop := lisChosenRow.holds Try.pinned (OpenSpec.ofChange lisChosenWrong)

/-- 'tendrillaw06.LisPiles': WHATEVER THE INPUT: true; the input reads as it did. -/
def lisPilesSpec : ChangeSpec := { name := "lisPiles", fn := fun _ => fun
  | [d] => { results := [.lit (.bool true)], args := [d] }
  | _ => none }
def lisPilesRow : OpenClaim := { program := "ytahjlbbliihgpaa", sum := "0e4e7edcf2e23c8b3d1a16489260d91a7d6670bc011d41da8d5b6811dba56c3a", func := "tendril/tendrillaw06.LisPiles", spec := "lisPiles", apart := false }
def LisPilesSaid : Prop := lisPilesRow.holds Try.pinned (OpenSpec.ofChange lisPilesSpec)

/-- ITS FALSE NEIGHBOUR: 'it returns false'. Refute it at one input. -/
def lisPilesWrong : ChangeSpec := { name := "lisPiles", fn := fun _ => fun
  | [d] => { results := [.lit (.bool false)], args := [d] }
  | _ => none }
def LisPilesWrongFalsely : Prop := lisPilesRow.holds Try.pinned (OpenSpec.ofChange lisPilesWrong)

/- THE SECOND FORM. 'bulk': how many values and letters a reading holds, each counted each time it is reached (what is shared counts as often as it is met; a slice's spare places count too). A statement '..UptoSaid' is the law's where the arguments, and the package variables that the reading takes, are together of bulk at most 1048576: NARROWER than '..Said'. Prove '..Said' where nothing that the law and all that it calls make is longer than what came in: it says more and counts as full. Else prove '..UptoSaid'. A law counts once. -/
mutual
def uptoBulk {H : Type} : DataW H → Nat
  | .lit (.string bytes) => bytes.length + 1
  | .lit _ => 1
  | .nil => 1
  | .ptr d => uptoBulk d + 1
  | .slice elems spare => uptoBulkAll elems + uptoBulkAll spare + 1
  | .agg parts => uptoBulkAll parts + 1
  | .iface _ d => uptoBulk d + 1
  | .map entries => uptoBulkEntries entries + 1
  | .held _ => 1
def uptoBulkAll {H : Type} : List (DataW H) → Nat
  | [] => 0
  | d :: r => uptoBulk d + uptoBulkAll r
def uptoBulkEntries {H : Type} : List (Lit × DataW H) → Nat
  | [] => 0
  | x :: r => uptoBulkEntry x + uptoBulkEntries r
def uptoBulkEntry {H : Type} : Lit × DataW H → Nat
  | (.string bytes, d) => bytes.length + uptoBulk d + 1
  | (_, d) => uptoBulk d + 1
 end
def uptoSmall : (H : Type) → List (DataW H) → Bool := fun _ ds => decide (uptoBulkAll ds ≤ 1048576)
def OpenSpec.upto (s : _root_.Go.ChangeSpec) : _root_.Go.OpenSpec := { _root_.Go.OpenSpec.ofChange s with cond := some uptoSmall }

/-- 'tendrillaw06.LisAny', WHERE WHAT IT READS IS OF BULK AT MOST 1048576: true; the input reads as it did. -/
def lisAnyUptoRow : OpenClaim := { program := "ytahjlbbliihgpaa", sum := "0e4e7edcf2e23c8b3d1a16489260d91a7d6670bc011d41da8d5b6811dba56c3a", func := "tendril/tendrillaw06.LisAny", spec := "lisAny", apart := false, narrowed := true }
def LisAnyUptoSaid : Prop := lisAnyUptoRow.holds Try.pinned (OpenSpec.upto lisAnySpec)

/-- 'tendrillaw06.LisSkips', WHERE WHAT IT READS IS OF BULK AT MOST 1048576: true; the input reads as it did. -/
def lisSkipsUptoRow : OpenClaim := { program := "ytahjlbbliihgpaa", sum := "0e4e7edcf2e23c8b3d1a16489260d91a7d6670bc011d41da8d5b6811dba56c3a", func := "tendril/tendrillaw06.LisSkips", spec := "lisSkips", apart := false, narrowed := true }
def LisSkipsUptoSaid : Prop := lisSkipsUptoRow.holds Try.pinned (OpenSpec.upto lisSkipsSpec)

/-- 'tendrillaw06.LisChosen', WHERE WHAT IT READS IS OF BULK AT MOST 1048576: true; the input reads as it did. -/
def lisChosenUptoRow : OpenClaim := { program := "ytahjlbbliihgpaa", sum := "0e4e7edcf2e23c8b3d1a16489260d91a7d6670bc011d41da8d5b6811dba56c3a", func := "tendril/tendrillaw06.LisChosen", spec := "lisChosen", apart := false, narrowed := true }
def LisChosenUptoSaid : Prop := lisChosenUptoRow.holds Try.pinned (OpenSpec.upto lisChosenSpec)

/-- 'tendrillaw06.LisPiles', WHERE WHAT IT READS IS OF BULK AT MOST 1048576: true; the input reads as it did. -/
def lisPilesUptoRow : OpenClaim := { program := "ytahjlbbliihgpaa", sum := "0e4e7edcf2e23c8b3d1a16489260d91a7d6670bc011d41da8d5b6811dba56c3a", func := "tendril/tendrillaw06.LisPiles", spec := "lisPiles", apart := false, narrowed := true }
def LisPilesUptoSaid : Prop := lisPilesUptoRow.holds Try.pinned (OpenSpec.upto lisPilesSpec)

end Rows
end Go.Proofs.Ytahjlbbliihgpaa
