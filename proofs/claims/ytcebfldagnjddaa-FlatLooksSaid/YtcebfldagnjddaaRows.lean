/-
  NARROWER THAN 'FOR EVERY INPUT', by the rows' own cells (each row's printed sentence says how): FlatRows: loops.
  DERIVED. THE GIVEN ROWS OF THIS SEAT. 4 by the template 'for every input the law returns true; each argument reads behind the call as it read before'; 0 by the template 'total and deterministic' (their statements: YtcebfldagnjddaaTotals.lean).
  GIVEN WITH THE SEED: the statements are not yours to turn. If you find one false, say at which input.
  Laid BY PROGRAM, IN A SANDBOX (cutbox-rows.mjs): the forced cells as the released guide's own fill.sh prints them over the translation fa2f0bd9f025deba… (all of the seat's roots in one cut). By AI agents, Wed Nov 11 2026. No macro, syntax, notation, axiom, sorry.
-/
import Derived.Test.YtcebfldagnjddaaChecked
import GoSem.Claim
import GoSem.ClaimJoined
import GoSem.ClaimMapViews
import Derived.JoinedTies
import Derived.KernelRfl
namespace Go.Proofs.Ytcebfldagnjddaa
/- THE CELL 'sum', in the pinned program and in every row, IS THE sha256 OF THE DUMP (.gsa) THAT YtcebfldagnjddaaProg.lean LOADS. Nothing in Lean hashes anything: it is a label: what it is worth is what the hold of that sum in a sandbox is worth. -/
noncomputable def Try.pinned : Pinned := { name := "ytcebfldagnjddaa", sum := "fa2f0bd9f025debac7bc6fce2ba0fc8386c7821678d42b77dc60a63f13e008dd", checked := Try.checked }
namespace Rows
def none {H : Type} : Left H := { results := [], args := [] }

/-- 'tendrillaw13.FlatRows': WHATEVER THE INPUT: true; the input reads as it did. -/
def flatRowsSpec : ChangeSpec := { name := "flatRows", fn := fun _ => fun
  | [d] => { results := [.lit (.bool true)], args := [d] }
  | _ => none }
def flatRowsRow : OpenClaim := { program := "ytcebfldagnjddaa", sum := "fa2f0bd9f025debac7bc6fce2ba0fc8386c7821678d42b77dc60a63f13e008dd", func := "tendril/tendrillaw13.FlatRows", spec := "flatRows", inPlace := ["internal/bytealg.IndexByteString"], unfollowed := true, recurses := true, loops := true, apart := false }
def FlatRowsSaid : Prop := flatRowsRow.holds Try.pinned (OpenSpec.ofChange flatRowsSpec)

/-- ITS FALSE NEIGHBOUR: 'it returns false'. Refute it at one input. -/
def flatRowsWrong : ChangeSpec := { name := "flatRows", fn := fun _ => fun
  | [d] => { results := [.lit (.bool false)], args := [d] }
  | _ => none }
def FlatRowsWrongFalsely : Prop := flatRowsRow.holds Try.pinned (OpenSpec.ofChange flatRowsWrong)

/-- 'tendrillaw13.FlatLooks': WHATEVER THE INPUT: true; the input reads as it did. -/
def flatLooksSpec : ChangeSpec := { name := "flatLooks", fn := fun _ => fun
  | [d1, d2] => { results := [.lit (.bool true)], args := [d1, d2] }
  | _ => none }
def flatLooksRow : OpenClaim := { program := "ytcebfldagnjddaa", sum := "fa2f0bd9f025debac7bc6fce2ba0fc8386c7821678d42b77dc60a63f13e008dd", func := "tendril/tendrillaw13.FlatLooks", spec := "flatLooks", inPlace := ["internal/bytealg.IndexByteString"], unfollowed := true, recurses := true, apart := false }
def FlatLooksSaid : Prop := flatLooksRow.holds Try.pinned (OpenSpec.ofChange flatLooksSpec)

/-- ITS FALSE NEIGHBOUR: 'it returns false'. Refute it at one input. -/
def flatLooksWrong : ChangeSpec := { name := "flatLooks", fn := fun _ => fun
  | [d1, d2] => { results := [.lit (.bool false)], args := [d1, d2] }
  | _ => none }
def FlatLooksWrongFalsely : Prop := flatLooksRow.holds Try.pinned (OpenSpec.ofChange flatLooksWrong)

/-- 'tendrillaw13.FlatTrees': WHATEVER THE INPUT: true; the input reads as it did. -/
def flatTreesSpec : ChangeSpec := { name := "flatTrees", fn := fun _ => fun
  | [d] => { results := [.lit (.bool true)], args := [d] }
  | _ => none }
def flatTreesRow : OpenClaim := { program := "ytcebfldagnjddaa", sum := "fa2f0bd9f025debac7bc6fce2ba0fc8386c7821678d42b77dc60a63f13e008dd", func := "tendril/tendrillaw13.FlatTrees", spec := "flatTrees", inPlace := ["internal/bytealg.IndexByteString"], unfollowed := true, recurses := true, apart := false }
def FlatTreesSaid : Prop := flatTreesRow.holds Try.pinned (OpenSpec.ofChange flatTreesSpec)

/-- ITS FALSE NEIGHBOUR: 'it returns false'. Refute it at one input. -/
def flatTreesWrong : ChangeSpec := { name := "flatTrees", fn := fun _ => fun
  | [d] => { results := [.lit (.bool false)], args := [d] }
  | _ => none }
def FlatTreesWrongFalsely : Prop := flatTreesRow.holds Try.pinned (OpenSpec.ofChange flatTreesWrong)

/-- 'tendrillaw13.FlatSame': WHATEVER THE INPUT: true; the input reads as it did. -/
def flatSameSpec : ChangeSpec := { name := "flatSame", fn := fun _ => fun
  | [d1, d2] => { results := [.lit (.bool true)], args := [d1, d2] }
  | _ => none }
def flatSameRow : OpenClaim := { program := "ytcebfldagnjddaa", sum := "fa2f0bd9f025debac7bc6fce2ba0fc8386c7821678d42b77dc60a63f13e008dd", func := "tendril/tendrillaw13.FlatSame", spec := "flatSame", inPlace := ["internal/bytealg.IndexByteString"], unfollowed := true, recurses := true, apart := false }
def FlatSameSaid : Prop := flatSameRow.holds Try.pinned (OpenSpec.ofChange flatSameSpec)

/-- ITS FALSE NEIGHBOUR: 'it returns false'. Refute it at one input. -/
def flatSameWrong : ChangeSpec := { name := "flatSame", fn := fun _ => fun
  | [d1, d2] => { results := [.lit (.bool false)], args := [d1, d2] }
  | _ => none }
def FlatSameWrongFalsely : Prop := flatSameRow.holds Try.pinned (OpenSpec.ofChange flatSameWrong)

/- THE SECOND FORM. 'bulk': how many values and letters a reading holds, each counted each time it is reached (what is shared counts as often as it is met; a slice's spare places count too). A statement '..UptoSaid' is the law's where the arguments, and the package variables that the reading takes, are together of bulk at most 1048576: NARROWER than '..Said'. Prove '..Said' where nothing that the law and all that it calls make is longer than what came in: it says more and counts as full. Else prove '..UptoSaid'. A law counts once. -/
mutual
def uptoBulk {H : Type} : DataW H → Nat
  | .lit (.string bytes) => bytes.length + 1
  | .lit _ => 1
  | .nil => 1
  | .ptr d => uptoBulk d + 1
  | .slice elems spare => uptoBulkAll elems + uptoBulkAll spare + 1
  | .agg parts => uptoBulkAll parts + 1
  | .iface _ d => uptoBulk d + 1
  | .map entries => uptoBulkEntries entries + 1
  | .held _ => 1
def uptoBulkAll {H : Type} : List (DataW H) → Nat
  | [] => 0
  | d :: r => uptoBulk d + uptoBulkAll r
def uptoBulkEntries {H : Type} : List (Lit × DataW H) → Nat
  | [] => 0
  | x :: r => uptoBulkEntry x + uptoBulkEntries r
def uptoBulkEntry {H : Type} : Lit × DataW H → Nat
  | (.string bytes, d) => bytes.length + uptoBulk d + 1
  | (_, d) => uptoBulk d + 1
 end
def uptoSmall : (H : Type) → List (DataW H) → Bool := fun _ ds => decide (uptoBulkAll ds ≤ 1048576)
def OpenSpec.upto (s : _root_.Go.ChangeSpec) : _root_.Go.OpenSpec := { _root_.Go.OpenSpec.ofChange s with cond := some uptoSmall }

/-- 'tendrillaw13.FlatRows', WHERE WHAT IT READS IS OF BULK AT MOST 1048576: true; the input reads as it did. -/
def flatRowsUptoRow : OpenClaim := { program := "ytcebfldagnjddaa", sum := "fa2f0bd9f025debac7bc6fce2ba0fc8386c7821678d42b77dc60a63f13e008dd", func := "tendril/tendrillaw13.FlatRows", spec := "flatRows", inPlace := ["internal/bytealg.IndexByteString"], unfollowed := true, recurses := true, loops := true, apart := false, narrowed := true }
def FlatRowsUptoSaid : Prop := flatRowsUptoRow.holds Try.pinned (OpenSpec.upto flatRowsSpec)

/-- 'tendrillaw13.FlatLooks', WHERE WHAT IT READS IS OF BULK AT MOST 1048576: true; the input reads as it did. -/
def flatLooksUptoRow : OpenClaim := { program := "ytcebfldagnjddaa", sum := "fa2f0bd9f025debac7bc6fce2ba0fc8386c7821678d42b77dc60a63f13e008dd", func := "tendril/tendrillaw13.FlatLooks", spec := "flatLooks", inPlace := ["internal/bytealg.IndexByteString"], unfollowed := true, recurses := true, apart := false, narrowed := true }
def FlatLooksUptoSaid : Prop := flatLooksUptoRow.holds Try.pinned (OpenSpec.upto flatLooksSpec)

/-- 'tendrillaw13.FlatTrees', WHERE WHAT IT READS IS OF BULK AT MOST 1048576: true; the input reads as it did. -/
def flatTreesUptoRow : OpenClaim := { program := "ytcebfldagnjddaa", sum := "fa2f0bd9f025debac7bc6fce2ba0fc8386c7821678d42b77dc60a63f13e008dd", func := "tendril/tendrillaw13.FlatTrees", spec := "flatTrees", inPlace := ["internal/bytealg.IndexByteString"], unfollowed := true, recurses := true, apart := false, narrowed := true }
def FlatTreesUptoSaid : Prop := flatTreesUptoRow.holds Try.pinned (OpenSpec.upto flatTreesSpec)

/-- 'tendrillaw13.FlatSame', WHERE WHAT IT READS IS OF BULK AT MOST 1048576: true; the input reads as it did. -/
def flatSameUptoRow : OpenClaim := { program := "ytcebfldagnjddaa", sum := "fa2f0bd9f025debac7bc6fce2ba0fc8386c7821678d42b77dc60a63f13e008dd", func := "tendril/tendrillaw13.FlatSame", spec := "flatSame", inPlace := ["internal/bytealg.IndexByteString"], unfollowed := true, recurses := true, apart := false, narrowed := true }
def FlatSameUptoSaid : Prop := flatSameUptoRow.holds Try.pinned (OpenSpec.upto flatSameSpec)

end Rows
end Go.Proofs.Ytcebfldagnjddaa
