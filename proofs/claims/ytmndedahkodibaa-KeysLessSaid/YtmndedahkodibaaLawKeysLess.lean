-- Written by gp.py (wip/gen) for this claim: pure functions and contracts, out of the translation; not trusted: Lean checks it.
import Derived.Test.YtmndedahkodibaaRows
import Derived.Test.YtmndedahkodibaaH14
import Derived.Test.YtmndedahkodibaaOpk
import Derived.Test.YtmndedahkodibaaPureKeysLess
import Derived.WalkKit
import Derived.ProofKit
import Derived.OpenShut
import Derived.ShutString
import Derived.ChangeOld
import Derived.Below
import Derived.SizedLaws
namespace Go.Proofs.Ytmndedahkodibaa.keysLess
open Go.ChangeShapes Go.WideShapes Go.ChangeAt Go.RowKit Go.Proofs.Ytmndedahkodibaa.Opn Go.Proofs.YtmndedahkodibaaW.PrintWords Go.Proofs.Ytmndedahkodibaa.G
open Go.ChangeMaps (open_string shut_string)
set_option linter.unusedVariables false
theorem own : ownKnob Try.prog.godebug = none := by kernel_rfl
theorem laidOut : laidOutB Try.prog = true := by kernel_rfl
set_option maxRecDepth 100000 in
theorem lifted (os : Os) (started : os.Started) (H : Type) (enc : TypeId × Value → H) :
    ReturnsInHanded {} Try.checked os 6 .any (Rows.keysLessSpec.pre6 enc Try.prog Try.f6 Rows.keysLessRow.domain false) (Rows.keysLessSpec.post enc Try.prog Try.f6 false true false false) := by
  refine returnsInHanded_of_change_sized (C := Try.checked) own started (by kernel_rfl) Try.func6
    (ChangeSpec.witness6 (enc := enc) (C := Try.checked) false ⟨#[], #[(.agg #[(.string ⟨#[]⟩), (.string ⟨#[]⟩), (.int .i64 0)]), (.agg #[(.string ⟨#[]⟩), (.string ⟨#[]⟩), (.int .i64 0)]), (.agg #[(.string ⟨#[]⟩), (.string ⟨#[]⟩), (.int .i64 0)])], []⟩ 8 (by kernel_rfl) (by kernel_rfl) (by kernel_rfl) (by kernel_rfl)) ?_
  intro W base args ds gs before hval0 hW hcnd hsz0 _
  have hsz : (DataW.weightsEach Try.prog (Try.f6.params.toList ++ Rows.keysLessSpec.plain.varTypes Try.prog) (ds ++ gs)).all (· ≤ reachBytes) = true := hsz0
  have hval : ∀ (j : Nat) t v, Try.f6.params[j]? = some t → args[j]? = some v → Value.okWide Try.prog W .any base t v := hval0
  have hW' := hW
  obtain ⟨p, q, hA0, hV, rfl, hfz, hnd⟩ := hW
  have hA : DataW.TrodAll enc Try.prog W 0 (fun _ => true) true Try.f6.params.toList args.toList ds p := hA0
  rw [Try.params6] at hA hval hsz
  obtain ⟨v0, vs0, d0, ds0, p0, q0, hargs, rfl, rfl, h0, r0⟩ := trodAll_cons hA
  obtain ⟨v1, vs1, d1, ds1, p1, q1, rfl, rfl, rfl, h1, r1⟩ := trodAll_cons r0
  obtain ⟨v2, vs2, d2, ds2, p2, q2, rfl, rfl, rfl, h2, r2⟩ := trodAll_cons r1
  obtain ⟨rfl, rfl, rfl⟩ := trodAll_nil r2
  obtain rfl : args = #[v0, v1, v2] := by cases args; simp_all
  obtain ⟨rfl, rfl⟩ := trodVars_none hV
  obtain ⟨w0, hsz⟩ := weightsEach_head hsz
  obtain ⟨w1, hsz⟩ := weightsEach_head hsz
  obtain ⟨w2, hsz⟩ := weightsEach_head hsz
  obtain ⟨cs0, rfl⟩ := okWide_agg Try.underlying28 (hval 0 28 v0 rfl rfl)
  have k0 := h0
  have lt0 : ∀ x ∈ p0, x.block < W.heap.size := by obtain ⟨m, hm⟩ := k0; exact DataW.trod_lt m _ _ _ hm
  obtain ⟨x0, K0, s0⟩ : ∃ x, k28.K W x cs0.toList ∧ Sm28 x := by
    obtain ⟨m, hm⟩ := h0
    exact ((at_S28 m) : At Try.prog m 28 k28 (fun x => Sm28 x)) enc W 0 _ true _ _ hm w0
  have e0 := k28_open K0
  obtain rfl : cs0 = (#[.string x0.f0, .string x0.f1, .int .i64 x0.f2] : Array Value) := (Array.toList_inj (ys := (#[.string x0.f0, .string x0.f1, .int .i64 x0.f2] : Array Value))).1 e0
  obtain ⟨cs1, rfl⟩ := okWide_agg Try.underlying28 (hval 1 28 v1 rfl rfl)
  have k1 := h1
  have lt1 : ∀ x ∈ p1, x.block < W.heap.size := by obtain ⟨m, hm⟩ := k1; exact DataW.trod_lt m _ _ _ hm
  obtain ⟨x1, K1, s1⟩ : ∃ x, k28.K W x cs1.toList ∧ Sm28 x := by
    obtain ⟨m, hm⟩ := h1
    exact ((at_S28 m) : At Try.prog m 28 k28 (fun x => Sm28 x)) enc W 0 _ true _ _ hm w1
  have e1 := k28_open K1
  obtain rfl : cs1 = (#[.string x1.f0, .string x1.f1, .int .i64 x1.f2] : Array Value) := (Array.toList_inj (ys := (#[.string x1.f0, .string x1.f1, .int .i64 x1.f2] : Array Value))).1 e1
  obtain ⟨cs2, rfl⟩ := okWide_agg Try.underlying28 (hval 2 28 v2 rfl rfl)
  have k2 := h2
  have lt2 : ∀ x ∈ p2, x.block < W.heap.size := by obtain ⟨m, hm⟩ := k2; exact DataW.trod_lt m _ _ _ hm
  obtain ⟨x2, K2, s2⟩ : ∃ x, k28.K W x cs2.toList ∧ Sm28 x := by
    obtain ⟨m, hm⟩ := h2
    exact ((at_S28 m) : At Try.prog m 28 k28 (fun x => Sm28 x)) enc W 0 _ true _ _ hm w2
  have e2 := k28_open K2
  obtain rfl : cs2 = (#[.string x2.f0, .string x2.f1, .int .i64 x2.f2] : Array Value) := (Array.toList_inj (ys := (#[.string x2.f0, .string x2.f1, .int .i64 x2.f2] : Array Value))).1 e2
  clear hA0 hval0 hsz0 hsz
  have h := Pure.KeysLess x0 x1 x2 s0 s1 s2
  refine (tendrillaw07_KeysLess.calls x0.f0 x0.f1 x0.f2 x1.f0 x1.f1 x1.f2 x2.f0 x2.f1 x2.f2 true W  h).mono fun e W' ⟨he, hd⟩ => ?_
  have bel : Below W.heap.size W W' := hd
  subst he
  exact ⟨_, rfl, _, _, _, [], _, [], hW', trodAll_mk1 (shut_bool Try.underlying4 _), (trodAll_cons_mk (Below.trod laidOut (by kernel_rfl) (of_decide_eq_true (by kernel_rfl)) k0 bel lt0) (trodAll_cons_mk (Below.trod laidOut (by kernel_rfl) (of_decide_eq_true (by kernel_rfl)) k1 bel lt1) (trodAll_cons_mk (Below.trod laidOut (by kernel_rfl) (of_decide_eq_true (by kernel_rfl)) k2 bel lt2) trodAll_mk0))), rfl, bel.frame _, fun h => by cases h⟩
theorem over : Rows.keysLessRow.holds Try.pinned (OpenSpec.ofChange Rows.keysLessSpec) :=
  OpenClaim.holds_of_wide 6 Try.f6 rfl rfl rfl rfl rfl rfl rfl ⟨rfl, rfl, rfl, rfl, rfl⟩ rfl rfl rfl rfl rfl (by kernel_rfl) Try.func6 (by kernel_rfl)
    (of_decide_eq_true (by kernel_rfl)) (by unfold Func.isWrapper; first | (rw [if_pos (by decide +kernel)]; kernel_rfl) | (rw [if_neg (by decide +kernel)]; exact ⟨rfl, rfl⟩))
    (fun os started H enc _ => lifted os started H enc)
theorem proved : Rows.KeysLessSaid := over
#print axioms proved
end Go.Proofs.Ytmndedahkodibaa.keysLess
namespace Go.Proofs.Ytmndedahkodibaa
/-- The row, under a short name, for the claim. -/
theorem keysLess_holds : Rows.KeysLessSaid := keysLess.proved
end Go.Proofs.Ytmndedahkodibaa
