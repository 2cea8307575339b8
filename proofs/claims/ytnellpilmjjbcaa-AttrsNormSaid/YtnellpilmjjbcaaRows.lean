/-
  No cell of these rows narrows 'for every input' (looked for: loops, veiled, ifaces, maps, wideKeys, modest, calm, conditions, laid).
  DERIVED. THE GIVEN ROWS OF THIS SEAT. 4 by the template 'for every input the law returns true; each argument reads behind the call as it read before'; 0 by the template 'total and deterministic' (their statements: YtnellpilmjjbcaaTotals.lean).
  GIVEN WITH THE SEED: the statements are not yours to turn. If you find one false, say at which input.
  Laid BY PROGRAM, IN A SANDBOX (cutbox-rows.mjs): the forced cells as the released guide's own fill.sh prints them over the translation a85171f7675e93b1… (all of the seat's roots in one cut). By AI agents, Wed Nov 11 2026. No macro, syntax, notation, axiom, sorry.
-/
import Derived.Test.YtnellpilmjjbcaaChecked
import GoSem.Claim
import GoSem.ClaimJoined
import GoSem.ClaimMapViews
import Derived.JoinedTies
import Derived.KernelRfl
namespace Go.Proofs.Ytnellpilmjjbcaa
/- THE CELL 'sum', in the pinned program and in every row, IS THE sha256 OF THE DUMP (.gsa) THAT YtnellpilmjjbcaaProg.lean LOADS. Nothing in Lean hashes anything: it is a label: what it is worth is what the hold of that sum in a sandbox is worth. -/
noncomputable def Try.pinned : Pinned := { name := "ytnellpilmjjbcaa", sum := "a85171f7675e93b16720c20cdddd8ca5bfa78926c2abb0d65f525aa23f85e2da", checked := Try.checked }
namespace Rows
def none {H : Type} : Left H := { results := [], args := [] }

/-- 'tendrillaw09.AttrsChecks': WHATEVER THE INPUT: true; the input reads as it did. -/
def attrsChecksSpec : ChangeSpec := { name := "attrsChecks", fn := fun _ => fun
  | [d] => { results := [.lit (.bool true)], args := [d] }
  | _ => none }
def attrsChecksRow : OpenClaim := { program := "ytnellpilmjjbcaa", sum := "a85171f7675e93b16720c20cdddd8ca5bfa78926c2abb0d65f525aa23f85e2da", func := "tendril/tendrillaw09.AttrsChecks", spec := "attrsChecks", inPlace := ["slices.overlaps[tendril/api.Attr]", "internal/bytealg.IndexByteString"], apart := false }
def AttrsChecksSaid : Prop := attrsChecksRow.holds Try.pinned (OpenSpec.ofChange attrsChecksSpec)

/-- ITS FALSE NEIGHBOUR: 'it returns false'. Refute it at one input. -/
def attrsChecksWrong : ChangeSpec := { name := "attrsChecks", fn := fun _ => fun
  | [d] => { results := [.lit (.bool false)], args := [d] }
  | _ => none }
def AttrsChecksWrongFalsely : Prop := attrsChecksRow.holds Try.pinned (OpenSpec.ofChange attrsChecksWrong)

/-- 'tendrillaw09.AttrsLooks': WHATEVER THE INPUT: true; the input reads as it did. -/
def attrsLooksSpec : ChangeSpec := { name := "attrsLooks", fn := fun _ => fun
  | [d1, d2, d3] => { results := [.lit (.bool true)], args := [d1, d2, d3] }
  | _ => none }
def attrsLooksRow : OpenClaim := { program := "ytnellpilmjjbcaa", sum := "a85171f7675e93b16720c20cdddd8ca5bfa78926c2abb0d65f525aa23f85e2da", func := "tendril/tendrillaw09.AttrsLooks", spec := "attrsLooks", inPlace := ["slices.overlaps[tendril/api.Attr]", "internal/bytealg.IndexByteString"], unfollowed := true, recurses := true, apart := false }
def AttrsLooksSaid : Prop := attrsLooksRow.holds Try.pinned (OpenSpec.ofChange attrsLooksSpec)

/-- ITS FALSE NEIGHBOUR: 'it returns false'. Refute it at one input. -/
def attrsLooksWrong : ChangeSpec := { name := "attrsLooks", fn := fun _ => fun
  | [d1, d2, d3] => { results := [.lit (.bool false)], args := [d1, d2, d3] }
  | _ => none }
def AttrsLooksWrongFalsely : Prop := attrsLooksRow.holds Try.pinned (OpenSpec.ofChange attrsLooksWrong)

/-- 'tendrillaw09.AttrsStay': WHATEVER THE INPUT: true; the input reads as it did. -/
def attrsStaySpec : ChangeSpec := { name := "attrsStay", fn := fun _ => fun
  | [d1, d2, d3] => { results := [.lit (.bool true)], args := [d1, d2, d3] }
  | _ => none }
def attrsStayRow : OpenClaim := { program := "ytnellpilmjjbcaa", sum := "a85171f7675e93b16720c20cdddd8ca5bfa78926c2abb0d65f525aa23f85e2da", func := "tendril/tendrillaw09.AttrsStay", spec := "attrsStay", inPlace := ["slices.overlaps[tendril/api.Attr]", "internal/bytealg.IndexByteString"], unfollowed := true, recurses := true, apart := false }
def AttrsStaySaid : Prop := attrsStayRow.holds Try.pinned (OpenSpec.ofChange attrsStaySpec)

/-- ITS FALSE NEIGHBOUR: 'it returns false'. Refute it at one input. -/
def attrsStayWrong : ChangeSpec := { name := "attrsStay", fn := fun _ => fun
  | [d1, d2, d3] => { results := [.lit (.bool false)], args := [d1, d2, d3] }
  | _ => none }
def AttrsStayWrongFalsely : Prop := attrsStayRow.holds Try.pinned (OpenSpec.ofChange attrsStayWrong)

/-- 'tendrillaw09.AttrsNorm': WHATEVER THE INPUT: true; the input reads as it did. -/
def attrsNormSpec : ChangeSpec := { name := "attrsNorm", fn := fun _ => fun
  | [d1, d2] => { results := [.lit (.bool true)], args := [d1, d2] }
  | _ => none }
def attrsNormRow : OpenClaim := { program := "ytnellpilmjjbcaa", sum := "a85171f7675e93b16720c20cdddd8ca5bfa78926c2abb0d65f525aa23f85e2da", func := "tendril/tendrillaw09.AttrsNorm", spec := "attrsNorm", inPlace := ["slices.overlaps[tendril/api.Attr]", "internal/bytealg.IndexByteString"], unfollowed := true, recurses := true, apart := false }
def AttrsNormSaid : Prop := attrsNormRow.holds Try.pinned (OpenSpec.ofChange attrsNormSpec)

/-- ITS FALSE NEIGHBOUR: 'it returns false'. Refute it at one input. -/
def attrsNormWrong : ChangeSpec := { name := "attrsNorm", fn := fun _ => fun
  | [d1, d2] => { results := [.lit (.bool false)], args := [d1, d2] }
  | _ => none }
def AttrsNormWrongFalsely : Prop := attrsNormRow.holds Try.pinned (OpenSpec.ofChange attrsNormWrong)

/- THE SECOND FORM. 'bulk': how many values and letters a reading holds, each counted each time it is reached (what is shared counts as often as it is met; a slice's spare places count too). A statement '..UptoSaid' is the law's where the arguments, and the package variables that the reading takes, are together of bulk at most 1048576: NARROWER than '..Said'. Prove '..Said' where nothing that the law and all that it calls make is longer than what came in: it says more and counts as full. Else prove '..UptoSaid'. A law counts once. -/
mutual
def uptoBulk {H : Type} : DataW H → Nat
  | .lit (.string bytes) => bytes.length + 1
  | .lit _ => 1
  | .nil => 1
  | .ptr d => uptoBulk d + 1
  | .slice elems spare => uptoBulkAll elems + uptoBulkAll spare + 1
  | .agg parts => uptoBulkAll parts + 1
  | .iface _ d => uptoBulk d + 1
  | .map entries => uptoBulkEntries entries + 1
  | .held _ => 1
def uptoBulkAll {H : Type} : List (DataW H) → Nat
  | [] => 0
  | d :: r => uptoBulk d + uptoBulkAll r
def uptoBulkEntries {H : Type} : List (Lit × DataW H) → Nat
  | [] => 0
  | x :: r => uptoBulkEntry x + uptoBulkEntries r
def uptoBulkEntry {H : Type} : Lit × DataW H → Nat
  | (.string bytes, d) => bytes.length + uptoBulk d + 1
  | (_, d) => uptoBulk d + 1
 end
def uptoSmall : (H : Type) → List (DataW H) → Bool := fun _ ds => decide (uptoBulkAll ds ≤ 1048576)
def OpenSpec.upto (s : _root_.Go.ChangeSpec) : _root_.Go.OpenSpec := { _root_.Go.OpenSpec.ofChange s with cond := some uptoSmall }

/-- 'tendrillaw09.AttrsChecks', WHERE WHAT IT READS IS OF BULK AT MOST 1048576: true; the input reads as it did. -/
def attrsChecksUptoRow : OpenClaim := { program := "ytnellpilmjjbcaa", sum := "a85171f7675e93b16720c20cdddd8ca5bfa78926c2abb0d65f525aa23f85e2da", func := "tendril/tendrillaw09.AttrsChecks", spec := "attrsChecks", inPlace := ["slices.overlaps[tendril/api.Attr]", "internal/bytealg.IndexByteString"], apart := false, narrowed := true }
def AttrsChecksUptoSaid : Prop := attrsChecksUptoRow.holds Try.pinned (OpenSpec.upto attrsChecksSpec)

/-- 'tendrillaw09.AttrsLooks', WHERE WHAT IT READS IS OF BULK AT MOST 1048576: true; the input reads as it did. -/
def attrsLooksUptoRow : OpenClaim := { program := "ytnellpilmjjbcaa", sum := "a85171f7675e93b16720c20cdddd8ca5bfa78926c2abb0d65f525aa23f85e2da", func := "tendril/tendrillaw09.AttrsLooks", spec := "attrsLooks", inPlace := ["slices.overlaps[tendril/api.Attr]", "internal/bytealg.IndexByteString"], unfollowed := true, recurses := true, apart := false, narrowed := true }
def AttrsLooksUptoSaid : Prop := attrsLooksUptoRow.holds Try.pinned (OpenSpec.upto attrsLooksSpec)

/-- 'tendrillaw09.AttrsStay', WHERE WHAT IT READS IS OF BULK AT MOST 1048576: true; the input reads as it did. -/
def attrsStayUptoRow : OpenClaim := { program := "ytnellpilmjjbcaa", sum := "a85171f7675e93b16720c20cdddd8ca5bfa78926c2abb0d65f525aa23f85e2da", func := "tendril/tendrillaw09.AttrsStay", spec := "attrsStay", inPlace := ["slices.overlaps[tendril/api.Attr]", "internal/bytealg.IndexByteString"], unfollowed := true, recurses := true, apart := false, narrowed := true }
def AttrsStayUptoSaid : Prop := attrsStayUptoRow.holds Try.pinned (OpenSpec.upto attrsStaySpec)

/-- 'tendrillaw09.AttrsNorm', WHERE WHAT IT READS IS OF BULK AT MOST 1048576: true; the input reads as it did. -/
def attrsNormUptoRow : OpenClaim := { program := "ytnellpilmjjbcaa", sum := "a85171f7675e93b16720c20cdddd8ca5bfa78926c2abb0d65f525aa23f85e2da", func := "tendril/tendrillaw09.AttrsNorm", spec := "attrsNorm", inPlace := ["slices.overlaps[tendril/api.Attr]", "internal/bytealg.IndexByteString"], unfollowed := true, recurses := true, apart := false, narrowed := true }
def AttrsNormUptoSaid : Prop := attrsNormUptoRow.holds Try.pinned (OpenSpec.upto attrsNormSpec)

end Rows
end Go.Proofs.Ytnellpilmjjbcaa
