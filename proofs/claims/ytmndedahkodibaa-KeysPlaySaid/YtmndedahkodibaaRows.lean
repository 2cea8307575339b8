/-
  No cell of these rows narrows 'for every input' (looked for: loops, veiled, ifaces, maps, wideKeys, modest, calm, conditions, laid).
  DERIVED. THE GIVEN ROWS OF THIS SEAT. 4 by the template 'for every input the law returns true; each argument reads behind the call as it read before'; 0 by the template 'total and deterministic' (their statements: YtmndedahkodibaaTotals.lean).
  GIVEN WITH THE SEED: the statements are not yours to turn. If you find one false, say at which input.
  Laid BY PROGRAM, IN A SANDBOX (cutbox-rows.mjs): the forced cells as the released guide's own fill.sh prints them over the translation 0e1c15543b70d19c… (all of the seat's roots in one cut). By AI agents, Wed Nov 11 2026. No macro, syntax, notation, axiom, sorry.
-/
import Derived.Test.YtmndedahkodibaaChecked
import GoSem.Claim
import GoSem.ClaimJoined
import GoSem.ClaimMapViews
import Derived.JoinedTies
import Derived.KernelRfl
namespace Go.Proofs.Ytmndedahkodibaa
/- THE CELL 'sum', in the pinned program and in every row, IS THE sha256 OF THE DUMP (.gsa) THAT YtmndedahkodibaaProg.lean LOADS. Nothing in Lean hashes anything: it is a label: what it is worth is what the hold of that sum in a sandbox is worth. -/
noncomputable def Try.pinned : Pinned := { name := "ytmndedahkodibaa", sum := "0e1c15543b70d19c35dbabe586c3e945260b6dcc26c32062e188765323637721", checked := Try.checked }
namespace Rows
def none {H : Type} : Left H := { results := [], args := [] }

/-- 'tendrillaw07.KeysMany': WHATEVER THE INPUT: true; the input reads as it did. -/
def keysManySpec : ChangeSpec := { name := "keysMany", fn := fun _ => fun
  | [d1, d2] => { results := [.lit (.bool true)], args := [d1, d2] }
  | _ => none }
def keysManyRow : OpenClaim := { program := "ytmndedahkodibaa", sum := "0e1c15543b70d19c35dbabe586c3e945260b6dcc26c32062e188765323637721", func := "tendril/tendrillaw07.KeysMany", spec := "keysMany", unfollowed := true, recurses := true, apart := false }
def KeysManySaid : Prop := keysManyRow.holds Try.pinned (OpenSpec.ofChange keysManySpec)

/-- ITS FALSE NEIGHBOUR: 'it returns false'. Refute it at one input. -/
def keysManyWrong : ChangeSpec := { name := "keysMany", fn := fun _ => fun
  | [d1, d2] => { results := [.lit (.bool false)], args := [d1, d2] }
  | _ => none }
def KeysManyWrongFalsely : Prop := keysManyRow.holds Try.pinned (OpenSpec.ofChange keysManyWrong)

/-- 'tendrillaw07.KeysOf': WHATEVER THE INPUT: true; the input reads as it did. -/
def keysOfSpec : ChangeSpec := { name := "keysOf", fn := fun _ => fun
  | [d] => { results := [.lit (.bool true)], args := [d] }
  | _ => none }
def keysOfRow : OpenClaim := { program := "ytmndedahkodibaa", sum := "0e1c15543b70d19c35dbabe586c3e945260b6dcc26c32062e188765323637721", func := "tendril/tendrillaw07.KeysOf", spec := "keysOf", unfollowed := true, recurses := true, apart := false }
def KeysOfSaid : Prop := keysOfRow.holds Try.pinned (OpenSpec.ofChange keysOfSpec)

/-- ITS FALSE NEIGHBOUR: 'it returns false'. Refute it at one input. -/
def keysOfWrong : ChangeSpec := { name := "keysOf", fn := fun _ => fun
  | [d] => { results := [.lit (.bool false)], args := [d] }
  | _ => none }
def KeysOfWrongFalsely : Prop := keysOfRow.holds Try.pinned (OpenSpec.ofChange keysOfWrong)

/-- 'tendrillaw07.KeysPlay': WHATEVER THE INPUT: true; the input reads as it did. -/
def keysPlaySpec : ChangeSpec := { name := "keysPlay", fn := fun _ => fun
  | [d1, d2] => { results := [.lit (.bool true)], args := [d1, d2] }
  | _ => none }
def keysPlayRow : OpenClaim := { program := "ytmndedahkodibaa", sum := "0e1c15543b70d19c35dbabe586c3e945260b6dcc26c32062e188765323637721", func := "tendril/tendrillaw07.KeysPlay", spec := "keysPlay", unfollowed := true, recurses := true, apart := false }
def KeysPlaySaid : Prop := keysPlayRow.holds Try.pinned (OpenSpec.ofChange keysPlaySpec)

/-- ITS FALSE NEIGHBOUR: 'it returns false'. Refute it at one input. -/
def keysPlayWrong : ChangeSpec := { name := "keysPlay", fn := fun _ => fun
  | [d1, d2] => { results := [.lit (.bool false)], args := [d1, d2] }
  | _ => none }
def KeysPlayWrongFalsely : Prop := keysPlayRow.holds Try.pinned (OpenSpec.ofChange keysPlayWrong)

/-- 'tendrillaw07.KeysLess': WHATEVER THE INPUT: true; the input reads as it did. -/
def keysLessSpec : ChangeSpec := { name := "keysLess", fn := fun _ => fun
  | [d1, d2, d3] => { results := [.lit (.bool true)], args := [d1, d2, d3] }
  | _ => none }
def keysLessRow : OpenClaim := { program := "ytmndedahkodibaa", sum := "0e1c15543b70d19c35dbabe586c3e945260b6dcc26c32062e188765323637721", func := "tendril/tendrillaw07.KeysLess", spec := "keysLess", unfollowed := true, recurses := true, apart := false }
def KeysLessSaid : Prop := keysLessRow.holds Try.pinned (OpenSpec.ofChange keysLessSpec)

/-- ITS FALSE NEIGHBOUR: 'it returns false'. Refute it at one input. -/
def keysLessWrong : ChangeSpec := { name := "keysLess", fn := fun _ => fun
  | [d1, d2, d3] => { results := [.lit (.bool false)], args := [d1, d2, d3] }
  | _ => none }
def KeysLessWrongFalsely : Prop := keysLessRow.holds Try.pinned (OpenSpec.ofChange keysLessWrong)

/- THE SECOND FORM. 'bulk': how many values and letters a reading holds, each counted each time it is reached (what is shared counts as often as it is met; a slice's spare places count too). A statement '..UptoSaid' is the law's where the arguments, and the package variables that the reading takes, are together of bulk at most 1048576: NARROWER than '..Said'. Prove '..Said' where nothing that the law and all that it calls make is longer than what came in: it says more and counts as full. Else prove '..UptoSaid'. A law counts once. -/
mutual
def uptoBulk {H : Type} : DataW H → Nat
  | .lit (.string bytes) => bytes.length + 1
  | .lit _ => 1
  | .nil => 1
  | .ptr d => uptoBulk d + 1
  | .slice elems spare => uptoBulkAll elems + uptoBulkAll spare + 1
  | .agg parts => uptoBulkAll parts + 1
  | .iface _ d => uptoBulk d + 1
  | .map entries => uptoBulkEntries entries + 1
  | .held _ => 1
def uptoBulkAll {H : Type} : List (DataW H) → Nat
  | [] => 0
  | d :: r => uptoBulk d + uptoBulkAll r
def uptoBulkEntries {H : Type} : List (Lit × DataW H) → Nat
  | [] => 0
  | x :: r => uptoBulkEntry x + uptoBulkEntries r
def uptoBulkEntry {H : Type} : Lit × DataW H → Nat
  | (.string bytes, d) => bytes.length + uptoBulk d + 1
  | (_, d) => uptoBulk d + 1
 end
def uptoSmall : (H : Type) → List (DataW H) → Bool := fun _ ds => decide (uptoBulkAll ds ≤ 1048576)
def OpenSpec.upto (s : _root_.Go.ChangeSpec) : _root_.Go.OpenSpec := { _root_.Go.OpenSpec.ofChange s with cond := some uptoSmall }

/-- 'tendrillaw07.KeysMany', WHERE WHAT IT READS IS OF BULK AT MOST 1048576: true; the input reads as it did. -/
def keysManyUptoRow : OpenClaim := { program := "ytmndedahkodibaa", sum := "0e1c15543b70d19c35dbabe586c3e945260b6dcc26c32062e188765323637721", func := "tendril/tendrillaw07.KeysMany", spec := "keysMany", unfollowed := true, recurses := true, apart := false, narrowed := true }
def KeysManyUptoSaid : Prop := keysManyUptoRow.holds Try.pinned (OpenSpec.upto keysManySpec)

/-- 'tendrillaw07.KeysOf', WHERE WHAT IT READS IS OF BULK AT MOST 1048576: true; the input reads as it did. -/
def keysOfUptoRow : OpenClaim := { program := "ytmndedahkodibaa", sum := "0e1c15543b70d19c35dbabe586c3e945260b6dcc26c32062e188765323637721", func := "tendril/tendrillaw07.KeysOf", spec := "keysOf", unfollowed := true, recurses := true, apart := false, narrowed := true }
def KeysOfUptoSaid : Prop := keysOfUptoRow.holds Try.pinned (OpenSpec.upto keysOfSpec)

/-- 'tendrillaw07.KeysPlay', WHERE WHAT IT READS IS OF BULK AT MOST 1048576: true; the input reads as it did. -/
def keysPlayUptoRow : OpenClaim := { program := "ytmndedahkodibaa", sum := "0e1c15543b70d19c35dbabe586c3e945260b6dcc26c32062e188765323637721", func := "tendril/tendrillaw07.KeysPlay", spec := "keysPlay", unfollowed := true, recurses := true, apart := false, narrowed := true }
def KeysPlayUptoSaid : Prop := keysPlayUptoRow.holds Try.pinned (OpenSpec.upto keysPlaySpec)

/-- 'tendrillaw07.KeysLess', WHERE WHAT IT READS IS OF BULK AT MOST 1048576: true; the input reads as it did. -/
def keysLessUptoRow : OpenClaim := { program := "ytmndedahkodibaa", sum := "0e1c15543b70d19c35dbabe586c3e945260b6dcc26c32062e188765323637721", func := "tendril/tendrillaw07.KeysLess", spec := "keysLess", unfollowed := true, recurses := true, apart := false, narrowed := true }
def KeysLessUptoSaid : Prop := keysLessUptoRow.holds Try.pinned (OpenSpec.upto keysLessSpec)

end Rows
end Go.Proofs.Ytmndedahkodibaa
