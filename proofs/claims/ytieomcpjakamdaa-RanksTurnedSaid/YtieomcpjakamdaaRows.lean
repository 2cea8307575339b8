/-
  No cell of these rows narrows 'for every input' (looked for: loops, veiled, ifaces, maps, wideKeys, modest, calm, conditions, laid).
  DERIVED. THE GIVEN ROWS OF THIS SEAT. 3 by the template 'for every input the law returns true; each argument reads behind the call as it read before'; 0 by the template 'total and deterministic' (their statements: YtieomcpjakamdaaTotals.lean).
  GIVEN WITH THE SEED: the statements are not yours to turn. If you find one false, say at which input.
  Laid BY PROGRAM, IN A SANDBOX (cutbox-rows.mjs): the forced cells as the released guide's own fill.sh prints them over the translation 47f392b20983ece1… (all of the seat's roots in one cut). By AI agents, Wed Nov 11 2026. No macro, syntax, notation, axiom, sorry.
-/
import Derived.Test.YtieomcpjakamdaaChecked
import GoSem.Claim
import GoSem.ClaimJoined
import GoSem.ClaimMapViews
import Derived.JoinedTies
import Derived.KernelRfl
namespace Go.Proofs.Ytieomcpjakamdaa
/- THE CELL 'sum', in the pinned program and in every row, IS THE sha256 OF THE DUMP (.gsa) THAT YtieomcpjakamdaaProg.lean LOADS. Nothing in Lean hashes anything: it is a label: what it is worth is what the hold of that sum in a sandbox is worth. -/
noncomputable def Try.pinned : Pinned := { name := "ytieomcpjakamdaa", sum := "47f392b20983ece129910dcacca7999b4375bdc6826870a6f9d032885a90d8a3", checked := Try.checked }
namespace Rows
def none {H : Type} : Left H := { results := [], args := [] }

/-- 'tendrillaw05.RanksPlaces': WHATEVER THE INPUT: true; the input reads as it did. -/
def ranksPlacesSpec : ChangeSpec := { name := "ranksPlaces", fn := fun _ => fun
  | [d1, d2] => { results := [.lit (.bool true)], args := [d1, d2] }
  | _ => none }
def ranksPlacesRow : OpenClaim := { program := "ytieomcpjakamdaa", sum := "47f392b20983ece129910dcacca7999b4375bdc6826870a6f9d032885a90d8a3", func := "tendril/tendrillaw05.RanksPlaces", spec := "ranksPlaces", unfollowed := true, recurses := true, apart := false }
def RanksPlacesSaid : Prop := ranksPlacesRow.holds Try.pinned (OpenSpec.ofChange ranksPlacesSpec)

/-- ITS FALSE NEIGHBOUR: 'it returns false'. Refute it at one input. -/
def ranksPlacesWrong : ChangeSpec := { name := "ranksPlaces", fn := fun _ => fun
  | [d1, d2] => { results := [.lit (.bool false)], args := [d1, d2] }
  | _ => none }
def RanksPlacesWrongFalsely : Prop := ranksPlacesRow.holds Try.pinned (OpenSpec.ofChange ranksPlacesWrong)

/-- 'tendrillaw05.RanksTurned': WHATEVER THE INPUT: true; the input reads as it did. -/
def ranksTurnedSpec : ChangeSpec := { name := "ranksTurned", fn := fun _ => fun
  | [d] => { results := [.lit (.bool true)], args := [d] }
  | _ => none }
def ranksTurnedRow : OpenClaim := { program := "ytieomcpjakamdaa", sum := "47f392b20983ece129910dcacca7999b4375bdc6826870a6f9d032885a90d8a3", func := "tendril/tendrillaw05.RanksTurned", spec := "ranksTurned", unfollowed := true, recurses := true, apart := false }
def RanksTurnedSaid : Prop := ranksTurnedRow.holds Try.pinned (OpenSpec.ofChange ranksTurnedSpec)

/-- ITS FALSE NEIGHBOUR: 'it returns false'. Refute it at one input. -/
def ranksTurnedWrong : ChangeSpec := { name := "ranksTurned", fn := fun _ => fun
  | [d] => { results := [.lit (.bool false)], args := [d] }
  | _ => none }
def RanksTurnedWrongFalsely : Prop := ranksTurnedRow.holds Try.pinned (OpenSpec.ofChange ranksTurnedWrong)

/-- 'tendrillaw05.RanksDo': WHATEVER THE INPUT: true; the input reads as it did. -/
def ranksDoSpec : ChangeSpec := { name := "ranksDo", fn := fun _ => fun
  | [d1, d2] => { results := [.lit (.bool true)], args := [d1, d2] }
  | _ => none }
def ranksDoRow : OpenClaim := { program := "ytieomcpjakamdaa", sum := "47f392b20983ece129910dcacca7999b4375bdc6826870a6f9d032885a90d8a3", func := "tendril/tendrillaw05.RanksDo", spec := "ranksDo", unfollowed := true, recurses := true, apart := false }
def RanksDoSaid : Prop := ranksDoRow.holds Try.pinned (OpenSpec.ofChange ranksDoSpec)

/-- ITS FALSE NEIGHBOUR: 'it returns false'. Refute it at one input. -/
def ranksDoWrong : ChangeSpec := { name := "ranksDo", fn := fun _ => fun
  | [d1, d2] => { results := [.lit (.bool false)], args := [d1, d2] }
  | _ => none }
def RanksDoWrongFalsely : Prop := ranksDoRow.holds Try.pinned (OpenSpec.ofChange ranksDoWrong)

/- THE SECOND FORM. 'bulk': how many values and letters a reading holds, each counted each time it is reached (what is shared counts as often as it is met; a slice's spare places count too). A statement '..UptoSaid' is the law's where the arguments, and the package variables that the reading takes, are together of bulk at most 1048576: NARROWER than '..Said'. Prove '..Said' where nothing that the law and all that it calls make is longer than what came in: it says more and counts as full. Else prove '..UptoSaid'. A law counts once. -/
mutual
def uptoBulk {H : Type} : DataW H → Nat
  | .lit (.string bytes) => bytes.length + 1
  | .lit _ => 1
  | .nil => 1
  | .ptr d => uptoBulk d + 1
  | .slice elems spare => uptoBulkAll elems + uptoBulkAll spare + 1
  | .agg parts => uptoBulkAll parts + 1
  | .iface _ d => uptoBulk d + 1
  | .map entries => uptoBulkEntries entries + 1
  | .held _ => 1
def uptoBulkAll {H : Type} : List (DataW H) → Nat
  | [] => 0
  | d :: r => uptoBulk d + uptoBulkAll r
def uptoBulkEntries {H : Type} : List (Lit × DataW H) → Nat
  | [] => 0
  | x :: r => uptoBulkEntry x + uptoBulkEntries r
def uptoBulkEntry {H : Type} : Lit × DataW H → Nat
  | (.string bytes, d) => bytes.length + uptoBulk d + 1
  | (_, d) => uptoBulk d + 1
 end
def uptoSmall : (H : Type) → List (DataW H) → Bool := fun _ ds => decide (uptoBulkAll ds ≤ 1048576)
def OpenSpec.upto (s : _root_.Go.ChangeSpec) : _root_.Go.OpenSpec := { _root_.Go.OpenSpec.ofChange s with cond := some uptoSmall }

/-- 'tendrillaw05.RanksPlaces', WHERE WHAT IT READS IS OF BULK AT MOST 1048576: true; the input reads as it did. -/
def ranksPlacesUptoRow : OpenClaim := { program := "ytieomcpjakamdaa", sum := "47f392b20983ece129910dcacca7999b4375bdc6826870a6f9d032885a90d8a3", func := "tendril/tendrillaw05.RanksPlaces", spec := "ranksPlaces", unfollowed := true, recurses := true, apart := false, narrowed := true }
def RanksPlacesUptoSaid : Prop := ranksPlacesUptoRow.holds Try.pinned (OpenSpec.upto ranksPlacesSpec)

/-- 'tendrillaw05.RanksTurned', WHERE WHAT IT READS IS OF BULK AT MOST 1048576: true; the input reads as it did. -/
def ranksTurnedUptoRow : OpenClaim := { program := "ytieomcpjakamdaa", sum := "47f392b20983ece129910dcacca7999b4375bdc6826870a6f9d032885a90d8a3", func := "tendril/tendrillaw05.RanksTurned", spec := "ranksTurned", unfollowed := true, recurses := true, apart := false, narrowed := true }
def RanksTurnedUptoSaid : Prop := ranksTurnedUptoRow.holds Try.pinned (OpenSpec.upto ranksTurnedSpec)

/-- 'tendrillaw05.RanksDo', WHERE WHAT IT READS IS OF BULK AT MOST 1048576: true; the input reads as it did. -/
def ranksDoUptoRow : OpenClaim := { program := "ytieomcpjakamdaa", sum := "47f392b20983ece129910dcacca7999b4375bdc6826870a6f9d032885a90d8a3", func := "tendril/tendrillaw05.RanksDo", spec := "ranksDo", unfollowed := true, recurses := true, apart := false, narrowed := true }
def RanksDoUptoSaid : Prop := ranksDoUptoRow.holds Try.pinned (OpenSpec.upto ranksDoSpec)

end Rows
end Go.Proofs.Ytieomcpjakamdaa
