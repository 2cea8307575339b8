/- What the claim LawMatchTwice rests on, part 6 of 7: the kit's words, the printed walks, the walks by hand, the plain laws. -/
import Derived.Test.YtelacebdmmanhaaB2
import Derived.Test.YtelacebdmmanhaaB4
import Derived.Test.YtelacebdmmanhaaB5
import Derived.Test.YtelacebdmmanhaaRows
import Derived.WalkKit
import Derived.ProofKit
import Derived.OpenShut
import Derived.ShutString
import Derived.ChangeOld
import Derived.Below
import Derived.SizedLaws
namespace Go.Proofs.Ytelacebdmmanhaa.matchTwice
open Go.ChangeShapes Go.WideShapes Go.ChangeAt Go.RowKit Go.Proofs.Ytelacebdmmanhaa.Opn Go.Proofs.YtelacebdmmanhaaW.PrintWords Go.Proofs.Ytelacebdmmanhaa.G
open Go.ChangeMaps (open_string shut_string)
set_option linter.unusedVariables false
theorem own : ownKnob Try.prog.godebug = none := by kernel_rfl
theorem laidOut : laidOutB Try.prog = true := by kernel_rfl
set_option maxRecDepth 100000 in
theorem lifted (os : Os) (started : os.Started) (H : Type) (enc : TypeId × Value → H) :
    ReturnsInHanded {} Try.checked os 4 .any (Rows.matchTwiceSpec.pre6 enc Try.prog Try.f4 Rows.matchTwiceRow.domain false) (Rows.matchTwiceSpec.post enc Try.prog Try.f4 false true false false) := by
  refine returnsInHanded_of_change_sized (C := Try.checked) own started (by kernel_rfl) Try.func4
    (ChangeSpec.witness6 (enc := enc) (C := Try.checked) false ⟨#[], #[(.slice none 0 0), (.slice none 0 0)], []⟩ 8 (by kernel_rfl) (by kernel_rfl) (by kernel_rfl) (by kernel_rfl)) ?_
  intro W base args ds gs before hval0 hW hcnd hsz0 _; have hsz : (DataW.weightsEach Try.prog (Try.f4.params.toList ++ Rows.matchTwiceSpec.plain.varTypes Try.prog) (ds ++ gs)).all (· ≤ reachBytes) = true := hsz0; have hval : ∀ (j : Nat) t v, Try.f4.params[j]? = some t → args[j]? = some v → Value.okWide Try.prog W .any base t v := hval0; have hW' := hW; obtain ⟨p, q, hA0, hV, rfl, hfz, hnd⟩ := hW; have hA : DataW.TrodAll enc Try.prog W 0 (fun _ => true) true Try.f4.params.toList args.toList ds p := hA0; rw [Try.params4] at hA hval hsz; obtain ⟨v0, vs0, d0, ds0, p0, q0, hargs, rfl, rfl, h0, r0⟩ := trodAll_cons hA; obtain ⟨v1, vs1, d1, ds1, p1, q1, rfl, rfl, rfl, h1, r1⟩ := trodAll_cons r0; obtain ⟨rfl, rfl, rfl⟩ := trodAll_nil r1
  obtain rfl : args = #[v0, v1] := by cases args; simp_all
  obtain ⟨rfl, rfl⟩ := trodVars_none hV; obtain ⟨w0, hsz⟩ := weightsEach_head hsz; obtain ⟨w1, hsz⟩ := weightsEach_head hsz; obtain ⟨a0, len0, cap0, rfl⟩ := okWide_slice Try.underlying22 (hval 0 22 v0 rfl rfl); have k0 := h0
  have lt0 : ∀ x ∈ p0, x.block < W.heap.size := by obtain ⟨m, hm⟩ := k0; exact DataW.trod_lt m _ _ _ hm
  obtain ⟨x0, K0, s0⟩ : ∃ x, (Kd.slice 32 k32).K W x [.slice a0 len0 cap0] ∧ (x.length * 88 ≤ 140737488351232 ∧ ∀ y ∈ x, Sm32 y) := by
    obtain ⟨m, hm⟩ := h0; exact ((at_slice2 Try.underlying22 (by kernel_rfl) (by kernel_rfl) (fun m' hm' => (at_S32 m'))) : At Try.prog m 22 (Kd.slice 32 k32) (fun x => (x.length * 88 ≤ 140737488351232 ∧ ∀ y ∈ x, Sm32 y))) enc W 0 _ true _ _ hm w0
  obtain ⟨A0, c0, e0, l0, g0⟩ := K0; simp only [List.cons.injEq, Value.slice.injEq, and_true] at e0; obtain ⟨rfl, rfl, rfl⟩ := e0; obtain ⟨a1, len1, cap1, rfl⟩ := okWide_slice Try.underlying22 (hval 1 22 v1 rfl rfl); have k1 := h1
  have lt1 : ∀ x ∈ p1, x.block < W.heap.size := by obtain ⟨m, hm⟩ := k1; exact DataW.trod_lt m _ _ _ hm
  obtain ⟨x1, K1, s1⟩ : ∃ x, (Kd.slice 32 k32).K W x [.slice a1 len1 cap1] ∧ (x.length * 88 ≤ 140737488351232 ∧ ∀ y ∈ x, Sm32 y) := by
    obtain ⟨m, hm⟩ := h1; exact ((at_slice2 Try.underlying22 (by kernel_rfl) (by kernel_rfl) (fun m' hm' => (at_S32 m'))) : At Try.prog m 22 (Kd.slice 32 k32) (fun x => (x.length * 88 ≤ 140737488351232 ∧ ∀ y ∈ x, Sm32 y))) enc W 0 _ true _ _ hm w1
  obtain ⟨A1, c1, e1, l1, g1⟩ := K1; simp only [List.cons.injEq, Value.slice.injEq, and_true] at e1; obtain ⟨rfl, rfl, rfl⟩ := e1; clear hA0 hval0 hsz0 hsz; obtain ⟨k, h⟩ := Pure.MatchTwice x0 x1 s0 s1
  refine (twice_walk k _ _ x0 _ _ x1 W g0 l0 g1 l1 h).mono fun e W' ⟨he, hd⟩ => ?_
  have bel : Below W.heap.size W W' := hd; subst he; exact ⟨_, rfl, _, _, _, [], _, [], hW', trodAll_mk1 (shut_bool Try.underlying4 _), (trodAll_cons_mk (Below.trod laidOut (by kernel_rfl) (of_decide_eq_true (by kernel_rfl)) k0 bel lt0) (trodAll_cons_mk (Below.trod laidOut (by kernel_rfl) (of_decide_eq_true (by kernel_rfl)) k1 bel lt1) trodAll_mk0)), rfl, bel.frame _, fun h => by cases h⟩
theorem over : Rows.matchTwiceRow.holds Try.pinned (OpenSpec.ofChange Rows.matchTwiceSpec) :=
  OpenClaim.holds_of_wide 4 Try.f4 rfl rfl rfl rfl rfl rfl rfl ⟨rfl, rfl, rfl, rfl, rfl⟩ rfl rfl rfl rfl rfl (by kernel_rfl) Try.func4 (by kernel_rfl)
    (of_decide_eq_true (by kernel_rfl)) (by unfold Func.isWrapper; first | (rw [if_pos (by decide +kernel)]; kernel_rfl) | (rw [if_neg (by decide +kernel)]; exact ⟨rfl, rfl⟩))
    (fun os started H enc _ => lifted os started H enc)
theorem proved : Rows.MatchTwiceSaid := over
#print axioms proved
end Go.Proofs.Ytelacebdmmanhaa.matchTwice
namespace Go.Proofs.Ytelacebdmmanhaa
/-- The row, under a short name, for the claim. -/
theorem matchTwice_holds : Rows.MatchTwiceSaid := matchTwice.proved
end Go.Proofs.Ytelacebdmmanhaa
