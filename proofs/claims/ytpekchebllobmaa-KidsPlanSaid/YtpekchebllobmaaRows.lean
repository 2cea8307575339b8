/-
  No cell of these rows narrows 'for every input' (looked for: loops, veiled, ifaces, maps, wideKeys, modest, calm, conditions, laid).
  DERIVED. THE GIVEN ROWS OF THIS SEAT. 4 by the template 'for every input the law returns true; each argument reads behind the call as it read before'; 0 by the template 'total and deterministic' (their statements: YtpekchebllobmaaTotals.lean).
  GIVEN WITH THE SEED: the statements are not yours to turn. If you find one false, say at which input.
  Laid BY PROGRAM, IN A SANDBOX (cutbox-rows.mjs): the forced cells as the released guide's own fill.sh prints them over the translation 29ca9f9f7800446b… (all of the seat's roots in one cut). By AI agents, Wed Nov 11 2026. No macro, syntax, notation, axiom, sorry.
-/
import Derived.Test.YtpekchebllobmaaChecked
import GoSem.Claim
import GoSem.ClaimJoined
import GoSem.ClaimMapViews
import Derived.JoinedTies
import Derived.KernelRfl
namespace Go.Proofs.Ytpekchebllobmaa
/- THE CELL 'sum', in the pinned program and in every row, IS THE sha256 OF THE DUMP (.gsa) THAT YtpekchebllobmaaProg.lean LOADS. Nothing in Lean hashes anything: it is a label: what it is worth is what the hold of that sum in a sandbox is worth. -/
noncomputable def Try.pinned : Pinned := { name := "ytpekchebllobmaa", sum := "29ca9f9f7800446bc0d124acddefa8bef63cb7c91945714708f08ae7f16c741f", checked := Try.checked }
namespace Rows
def none {H : Type} : Left H := { results := [], args := [] }

/-- 'tendrillaw32.KidsPlan': WHATEVER THE INPUT: true; the input reads as it did. -/
def kidsPlanSpec : ChangeSpec := { name := "kidsPlan", fn := fun _ => fun
  | [d1, d2] => { results := [.lit (.bool true)], args := [d1, d2] }
  | _ => none }
def kidsPlanRow : OpenClaim := { program := "ytpekchebllobmaa", sum := "29ca9f9f7800446bc0d124acddefa8bef63cb7c91945714708f08ae7f16c741f", func := "tendril/tendrillaw32.KidsPlan", spec := "kidsPlan", unfollowed := true, recurses := true, apart := false }
def KidsPlanSaid : Prop := kidsPlanRow.holds Try.pinned (OpenSpec.ofChange kidsPlanSpec)

/-- ITS FALSE NEIGHBOUR: 'it returns false'. Refute it at one input. -/
def kidsPlanWrong : ChangeSpec := { name := "kidsPlan", fn := fun _ => fun
  | [d1, d2] => { results := [.lit (.bool false)], args := [d1, d2] }
  | _ => none }
def KidsPlanWrongFalsely : Prop := kidsPlanRow.holds Try.pinned (OpenSpec.ofChange kidsPlanWrong)

/-- 'tendrillaw32.KidsMakes': WHATEVER THE INPUT: true; the input reads as it did. -/
def kidsMakesSpec : ChangeSpec := { name := "kidsMakes", fn := fun _ => fun
  | [d1, d2] => { results := [.lit (.bool true)], args := [d1, d2] }
  | _ => none }
def kidsMakesRow : OpenClaim := { program := "ytpekchebllobmaa", sum := "29ca9f9f7800446bc0d124acddefa8bef63cb7c91945714708f08ae7f16c741f", func := "tendril/tendrillaw32.KidsMakes", spec := "kidsMakes", unfollowed := true, recurses := true, apart := false }
def KidsMakesSaid : Prop := kidsMakesRow.holds Try.pinned (OpenSpec.ofChange kidsMakesSpec)

/-- ITS FALSE NEIGHBOUR: 'it returns false'. Refute it at one input. -/
def kidsMakesWrong : ChangeSpec := { name := "kidsMakes", fn := fun _ => fun
  | [d1, d2] => { results := [.lit (.bool false)], args := [d1, d2] }
  | _ => none }
def KidsMakesWrongFalsely : Prop := kidsMakesRow.holds Try.pinned (OpenSpec.ofChange kidsMakesWrong)

/-- 'tendrillaw32.KidsLeast': WHATEVER THE INPUT: true; the input reads as it did. -/
def kidsLeastSpec : ChangeSpec := { name := "kidsLeast", fn := fun _ => fun
  | [d1, d2, d3] => { results := [.lit (.bool true)], args := [d1, d2, d3] }
  | _ => none }
def kidsLeastRow : OpenClaim := { program := "ytpekchebllobmaa", sum := "29ca9f9f7800446bc0d124acddefa8bef63cb7c91945714708f08ae7f16c741f", func := "tendril/tendrillaw32.KidsLeast", spec := "kidsLeast", unfollowed := true, recurses := true, apart := false }
def KidsLeastSaid : Prop := kidsLeastRow.holds Try.pinned (OpenSpec.ofChange kidsLeastSpec)

/-- ITS FALSE NEIGHBOUR: 'it returns false'. Refute it at one input. -/
def kidsLeastWrong : ChangeSpec := { name := "kidsLeast", fn := fun _ => fun
  | [d1, d2, d3] => { results := [.lit (.bool false)], args := [d1, d2, d3] }
  | _ => none }
def KidsLeastWrongFalsely : Prop := kidsLeastRow.holds Try.pinned (OpenSpec.ofChange kidsLeastWrong)

/-- 'tendrillaw32.KidsCounts': WHATEVER THE INPUT: true; the input reads as it did. -/
def kidsCountsSpec : ChangeSpec := { name := "kidsCounts", fn := fun _ => fun
  | [d] => { results := [.lit (.bool true)], args := [d] }
  | _ => none }
def kidsCountsRow : OpenClaim := { program := "ytpekchebllobmaa", sum := "29ca9f9f7800446bc0d124acddefa8bef63cb7c91945714708f08ae7f16c741f", func := "tendril/tendrillaw32.KidsCounts", spec := "kidsCounts", unfollowed := true, recurses := true, apart := false }
def KidsCountsSaid : Prop := kidsCountsRow.holds Try.pinned (OpenSpec.ofChange kidsCountsSpec)

/-- ITS FALSE NEIGHBOUR: 'it returns false'. Refute it at one input. -/
def kidsCountsWrong : ChangeSpec := { name := "kidsCounts", fn := fun _ => fun
  | [d] => { results := [.lit (.bool false)], args := [d] }
  | _ => none }
def KidsCountsWrongFalsely : Prop := kidsCountsRow.holds Try.pinned (OpenSpec.ofChange kidsCountsWrong)

/- THE SECOND FORM. 'bulk': how many values and letters a reading holds, each counted each time it is reached (what is shared counts as often as it is met; a slice's spare places count too). A statement '..UptoSaid' is the law's where the arguments, and the package variables that the reading takes, are together of bulk at most 1048576: NARROWER than '..Said'. Prove '..Said' where nothing that the law and all that it calls make is longer than what came in: it says more and counts as full. Else prove '..UptoSaid'. A law counts once. -/
mutual
def uptoBulk {H : Type} : DataW H → Nat
  | .lit (.string bytes) => bytes.length + 1
  | .lit _ => 1
  | .nil => 1
  | .ptr d => uptoBulk d + 1
  | .slice elems spare => uptoBulkAll elems + uptoBulkAll spare + 1
  | .agg parts => uptoBulkAll parts + 1
  | .iface _ d => uptoBulk d + 1
  | .map entries => uptoBulkEntries entries + 1
  | .held _ => 1
def uptoBulkAll {H : Type} : List (DataW H) → Nat
  | [] => 0
  | d :: r => uptoBulk d + uptoBulkAll r
def uptoBulkEntries {H : Type} : List (Lit × DataW H) → Nat
  | [] => 0
  | x :: r => uptoBulkEntry x + uptoBulkEntries r
def uptoBulkEntry {H : Type} : Lit × DataW H → Nat
  | (.string bytes, d) => bytes.length + uptoBulk d + 1
  | (_, d) => uptoBulk d + 1
 end
def uptoSmall : (H : Type) → List (DataW H) → Bool := fun _ ds => decide (uptoBulkAll ds ≤ 1048576)
def OpenSpec.upto (s : _root_.Go.ChangeSpec) : _root_.Go.OpenSpec := { _root_.Go.OpenSpec.ofChange s with cond := some uptoSmall }

/-- 'tendrillaw32.KidsPlan', WHERE WHAT IT READS IS OF BULK AT MOST 1048576: true; the input reads as it did. -/
def kidsPlanUptoRow : OpenClaim := { program := "ytpekchebllobmaa", sum := "29ca9f9f7800446bc0d124acddefa8bef63cb7c91945714708f08ae7f16c741f", func := "tendril/tendrillaw32.KidsPlan", spec := "kidsPlan", unfollowed := true, recurses := true, apart := false, narrowed := true }
def KidsPlanUptoSaid : Prop := kidsPlanUptoRow.holds Try.pinned (OpenSpec.upto kidsPlanSpec)

/-- 'tendrillaw32.KidsMakes', WHERE WHAT IT READS IS OF BULK AT MOST 1048576: true; the input reads as it did. -/
def kidsMakesUptoRow : OpenClaim := { program := "ytpekchebllobmaa", sum := "29ca9f9f7800446bc0d124acddefa8bef63cb7c91945714708f08ae7f16c741f", func := "tendril/tendrillaw32.KidsMakes", spec := "kidsMakes", unfollowed := true, recurses := true, apart := false, narrowed := true }
def KidsMakesUptoSaid : Prop := kidsMakesUptoRow.holds Try.pinned (OpenSpec.upto kidsMakesSpec)

/-- 'tendrillaw32.KidsLeast', WHERE WHAT IT READS IS OF BULK AT MOST 1048576: true; the input reads as it did. -/
def kidsLeastUptoRow : OpenClaim := { program := "ytpekchebllobmaa", sum := "29ca9f9f7800446bc0d124acddefa8bef63cb7c91945714708f08ae7f16c741f", func := "tendril/tendrillaw32.KidsLeast", spec := "kidsLeast", unfollowed := true, recurses := true, apart := false, narrowed := true }
def KidsLeastUptoSaid : Prop := kidsLeastUptoRow.holds Try.pinned (OpenSpec.upto kidsLeastSpec)

/-- 'tendrillaw32.KidsCounts', WHERE WHAT IT READS IS OF BULK AT MOST 1048576: true; the input reads as it did. -/
def kidsCountsUptoRow : OpenClaim := { program := "ytpekchebllobmaa", sum := "29ca9f9f7800446bc0d124acddefa8bef63cb7c91945714708f08ae7f16c741f", func := "tendril/tendrillaw32.KidsCounts", spec := "kidsCounts", unfollowed := true, recurses := true, apart := false, narrowed := true }
def KidsCountsUptoSaid : Prop := kidsCountsUptoRow.holds Try.pinned (OpenSpec.upto kidsCountsSpec)

end Rows
end Go.Proofs.Ytpekchebllobmaa
