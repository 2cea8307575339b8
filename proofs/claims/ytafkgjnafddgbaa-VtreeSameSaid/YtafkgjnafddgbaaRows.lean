/-
  NARROWER THAN 'FOR EVERY INPUT', by the rows' own cells (each row's printed sentence says how): VtreeChecks: loops · VtreeParts: loops · VtreeSame: loops.
  DERIVED. THE GIVEN ROWS OF THIS SEAT. 3 by the template 'for every input the law returns true; each argument reads behind the call as it read before'; 0 by the template 'total and deterministic' (their statements: YtafkgjnafddgbaaTotals.lean).
  GIVEN WITH THE SEED: the statements are not yours to turn. If you find one false, say at which input.
  Laid BY PROGRAM, IN A SANDBOX (cutbox-rows.mjs): the forced cells as the released guide's own fill.sh prints them over the translation 9da79457655d270c… (all of the seat's roots in one cut). By AI agents, Wed Nov 11 2026. No macro, syntax, notation, axiom, sorry.
-/
import Derived.Test.YtafkgjnafddgbaaChecked
import GoSem.Claim
import GoSem.ClaimJoined
import GoSem.ClaimMapViews
import Derived.JoinedTies
import Derived.KernelRfl
namespace Go.Proofs.Ytafkgjnafddgbaa
/- THE CELL 'sum', in the pinned program and in every row, IS THE sha256 OF THE DUMP (.gsa) THAT YtafkgjnafddgbaaProg.lean LOADS. Nothing in Lean hashes anything: it is a label: what it is worth is what the hold of that sum in a sandbox is worth. -/
noncomputable def Try.pinned : Pinned := { name := "ytafkgjnafddgbaa", sum := "9da79457655d270c7f009a13772d9f3c988ed56b6ce1356ded6a6005a2c3dad1", checked := Try.checked }
namespace Rows
def none {H : Type} : Left H := { results := [], args := [] }

/-- 'tendrillaw11.VtreeChecks': WHATEVER THE INPUT: true; the input reads as it did. -/
def vtreeChecksSpec : ChangeSpec := { name := "vtreeChecks", fn := fun _ => fun
  | [d] => { results := [.lit (.bool true)], args := [d] }
  | _ => none }
def vtreeChecksRow : OpenClaim := { program := "ytafkgjnafddgbaa", sum := "9da79457655d270c7f009a13772d9f3c988ed56b6ce1356ded6a6005a2c3dad1", func := "tendril/tendrillaw11.VtreeChecks", spec := "vtreeChecks", inPlace := ["internal/bytealg.IndexByteString"], unfollowed := true, recurses := true, loops := true, apart := false }
def VtreeChecksSaid : Prop := vtreeChecksRow.holds Try.pinned (OpenSpec.ofChange vtreeChecksSpec)

/-- ITS FALSE NEIGHBOUR: 'it returns false'. Refute it at one input. -/
def vtreeChecksWrong : ChangeSpec := { name := "vtreeChecks", fn := fun _ => fun
  | [d] => { results := [.lit (.bool false)], args := [d] }
  | _ => none }
def VtreeChecksWrongFalsely : Prop := vtreeChecksRow.holds Try.pinned (OpenSpec.ofChange vtreeChecksWrong)

/-- 'tendrillaw11.VtreeParts': WHATEVER THE INPUT: true; the input reads as it did. -/
def vtreePartsSpec : ChangeSpec := { name := "vtreeParts", fn := fun _ => fun
  | [d] => { results := [.lit (.bool true)], args := [d] }
  | _ => none }
def vtreePartsRow : OpenClaim := { program := "ytafkgjnafddgbaa", sum := "9da79457655d270c7f009a13772d9f3c988ed56b6ce1356ded6a6005a2c3dad1", func := "tendril/tendrillaw11.VtreeParts", spec := "vtreeParts", inPlace := ["internal/bytealg.IndexByteString"], unfollowed := true, recurses := true, loops := true, apart := false }
def VtreePartsSaid : Prop := vtreePartsRow.holds Try.pinned (OpenSpec.ofChange vtreePartsSpec)

/-- ITS FALSE NEIGHBOUR: 'it returns false'. Refute it at one input. -/
def vtreePartsWrong : ChangeSpec := { name := "vtreeParts", fn := fun _ => fun
  | [d] => { results := [.lit (.bool false)], args := [d] }
  | _ => none }
def VtreePartsWrongFalsely : Prop := vtreePartsRow.holds Try.pinned (OpenSpec.ofChange vtreePartsWrong)

/-- 'tendrillaw11.VtreeSame': WHATEVER THE INPUT: true; the input reads as it did. -/
def vtreeSameSpec : ChangeSpec := { name := "vtreeSame", fn := fun _ => fun
  | [d1, d2] => { results := [.lit (.bool true)], args := [d1, d2] }
  | _ => none }
def vtreeSameRow : OpenClaim := { program := "ytafkgjnafddgbaa", sum := "9da79457655d270c7f009a13772d9f3c988ed56b6ce1356ded6a6005a2c3dad1", func := "tendril/tendrillaw11.VtreeSame", spec := "vtreeSame", inPlace := ["internal/bytealg.IndexByteString"], unfollowed := true, recurses := true, loops := true, apart := false }
def VtreeSameSaid : Prop := vtreeSameRow.holds Try.pinned (OpenSpec.ofChange vtreeSameSpec)

/-- ITS FALSE NEIGHBOUR: 'it returns false'. Refute it at one input. -/
def vtreeSameWrong : ChangeSpec := { name := "vtreeSame", fn := fun _ => fun
  | [d1, d2] => { results := [.lit (.bool false)], args := [d1, d2] }
  | _ => none }
def VtreeSameWrongFalsely : Prop := vtreeSameRow.holds Try.pinned (OpenSpec.ofChange vtreeSameWrong)

/- THE SECOND FORM. 'bulk': how many values and letters a reading holds, each counted each time it is reached (what is shared counts as often as it is met; a slice's spare places count too). A statement '..UptoSaid' is the law's where the arguments, and the package variables that the reading takes, are together of bulk at most 1048576: NARROWER than '..Said'. Prove '..Said' where nothing that the law and all that it calls make is longer than what came in: it says more and counts as full. Else prove '..UptoSaid'. A law counts once. -/
mutual
def uptoBulk {H : Type} : DataW H → Nat
  | .lit (.string bytes) => bytes.length + 1
  | .lit _ => 1
  | .nil => 1
  | .ptr d => uptoBulk d + 1
  | .slice elems spare => uptoBulkAll elems + uptoBulkAll spare + 1
  | .agg parts => uptoBulkAll parts + 1
  | .iface _ d => uptoBulk d + 1
  | .map entries => uptoBulkEntries entries + 1
  | .held _ => 1
def uptoBulkAll {H : Type} : List (DataW H) → Nat
  | [] => 0
  | d :: r => uptoBulk d + uptoBulkAll r
def uptoBulkEntries {H : Type} : List (Lit × DataW H) → Nat
  | [] => 0
  | x :: r => uptoBulkEntry x + uptoBulkEntries r
def uptoBulkEntry {H : Type} : Lit × DataW H → Nat
  | (.string bytes, d) => bytes.length + uptoBulk d + 1
  | (_, d) => uptoBulk d + 1
 end
def uptoSmall : (H : Type) → List (DataW H) → Bool := fun _ ds => decide (uptoBulkAll ds ≤ 1048576)
def OpenSpec.upto (s : _root_.Go.ChangeSpec) : _root_.Go.OpenSpec := { _root_.Go.OpenSpec.ofChange s with cond := some uptoSmall }

/-- 'tendrillaw11.VtreeChecks', WHERE WHAT IT READS IS OF BULK AT MOST 1048576: true; the input reads as it did. -/
def vtreeChecksUptoRow : OpenClaim := { program := "ytafkgjnafddgbaa", sum := "9da79457655d270c7f009a13772d9f3c988ed56b6ce1356ded6a6005a2c3dad1", func := "tendril/tendrillaw11.VtreeChecks", spec := "vtreeChecks", inPlace := ["internal/bytealg.IndexByteString"], unfollowed := true, recurses := true, loops := true, apart := false, narrowed := true }
def VtreeChecksUptoSaid : Prop := vtreeChecksUptoRow.holds Try.pinned (OpenSpec.upto vtreeChecksSpec)

/-- 'tendrillaw11.VtreeParts', WHERE WHAT IT READS IS OF BULK AT MOST 1048576: true; the input reads as it did. -/
def vtreePartsUptoRow : OpenClaim := { program := "ytafkgjnafddgbaa", sum := "9da79457655d270c7f009a13772d9f3c988ed56b6ce1356ded6a6005a2c3dad1", func := "tendril/tendrillaw11.VtreeParts", spec := "vtreeParts", inPlace := ["internal/bytealg.IndexByteString"], unfollowed := true, recurses := true, loops := true, apart := false, narrowed := true }
def VtreePartsUptoSaid : Prop := vtreePartsUptoRow.holds Try.pinned (OpenSpec.upto vtreePartsSpec)

/-- 'tendrillaw11.VtreeSame', WHERE WHAT IT READS IS OF BULK AT MOST 1048576: true; the input reads as it did. -/
def vtreeSameUptoRow : OpenClaim := { program := "ytafkgjnafddgbaa", sum := "9da79457655d270c7f009a13772d9f3c988ed56b6ce1356ded6a6005a2c3dad1", func := "tendril/tendrillaw11.VtreeSame", spec := "vtreeSame", inPlace := ["internal/bytealg.IndexByteString"], unfollowed := true, recurses := true, loops := true, apart := false, narrowed := true }
def VtreeSameUptoSaid : Prop := vtreeSameUptoRow.holds Try.pinned (OpenSpec.upto vtreeSameSpec)

end Rows
end Go.Proofs.Ytafkgjnafddgbaa
