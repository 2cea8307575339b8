/- What the claim LawMatchLabels rests on, part 6 of 7: the kit's words, the printed walks, the walks by hand, the plain laws. -/
import Derived.Test.YtelacebdmmanhaaB2
import Derived.Test.YtelacebdmmanhaaB4
import Derived.Test.YtelacebdmmanhaaB5
import Derived.Test.YtelacebdmmanhaaRows
import Derived.WalkKit
import Derived.ProofKit
import Derived.OpenShut
import Derived.ShutString
import Derived.ChangeOld
import Derived.Below
import Derived.SizedLaws
namespace Go.Proofs.Ytelacebdmmanhaa.matchLabels
open Go.ChangeShapes Go.WideShapes Go.ChangeAt Go.RowKit Go.Proofs.Ytelacebdmmanhaa.Opn Go.Proofs.YtelacebdmmanhaaW.PrintWords Go.Proofs.Ytelacebdmmanhaa.G
open Go.ChangeMaps (open_string shut_string)
set_option linter.unusedVariables false
theorem own : ownKnob Try.prog.godebug = none := by kernel_rfl
theorem laidOut : laidOutB Try.prog = true := by kernel_rfl
set_option maxRecDepth 100000 in
theorem lifted (os : Os) (started : os.Started) (H : Type) (enc : TypeId × Value → H) :
    ReturnsInHanded {} Try.checked os 5 .any (Rows.matchLabelsSpec.pre6 enc Try.prog Try.f5 Rows.matchLabelsRow.domain false) (Rows.matchLabelsSpec.post enc Try.prog Try.f5 false true false false) := by
  refine returnsInHanded_of_change_sized (C := Try.checked) own started (by kernel_rfl) Try.func5
    (ChangeSpec.witness6 (enc := enc) (C := Try.checked) false ⟨#[], #[(.slice none 0 0)], []⟩ 8 (by kernel_rfl) (by kernel_rfl) (by kernel_rfl) (by kernel_rfl)) ?_
  intro W base args ds gs before hval0 hW hcnd hsz0 _; have hsz : (DataW.weightsEach Try.prog (Try.f5.params.toList ++ Rows.matchLabelsSpec.plain.varTypes Try.prog) (ds ++ gs)).all (· ≤ reachBytes) = true := hsz0; have hval : ∀ (j : Nat) t v, Try.f5.params[j]? = some t → args[j]? = some v → Value.okWide Try.prog W .any base t v := hval0; have hW' := hW; obtain ⟨p, q, hA0, hV, rfl, hfz, hnd⟩ := hW; have hA : DataW.TrodAll enc Try.prog W 0 (fun _ => true) true Try.f5.params.toList args.toList ds p := hA0; rw [Try.params5] at hA hval hsz; obtain ⟨v0, vs0, d0, ds0, p0, q0, hargs, rfl, rfl, h0, r0⟩ := trodAll_cons hA; obtain ⟨rfl, rfl, rfl⟩ := trodAll_nil r0
  obtain rfl : args = #[v0] := by cases args; simp_all
  obtain ⟨rfl, rfl⟩ := trodVars_none hV; obtain ⟨w0, hsz⟩ := weightsEach_head hsz; obtain ⟨a0, len0, cap0, rfl⟩ := okWide_slice Try.underlying22 (hval 0 22 v0 rfl rfl); have k0 := h0
  have lt0 : ∀ x ∈ p0, x.block < W.heap.size := by obtain ⟨m, hm⟩ := k0; exact DataW.trod_lt m _ _ _ hm
  obtain ⟨x0, K0, s0⟩ : ∃ x, (Kd.slice 32 k32).K W x [.slice a0 len0 cap0] ∧ (x.length * 88 ≤ 140737488351232 ∧ ∀ y ∈ x, Sm32 y) := by
    obtain ⟨m, hm⟩ := h0; exact ((at_slice2 Try.underlying22 (by kernel_rfl) (by kernel_rfl) (fun m' hm' => (at_S32 m'))) : At Try.prog m 22 (Kd.slice 32 k32) (fun x => (x.length * 88 ≤ 140737488351232 ∧ ∀ y ∈ x, Sm32 y))) enc W 0 _ true _ _ hm w0
  obtain ⟨A0, c0, e0, l0, g0⟩ := K0; simp only [List.cons.injEq, Value.slice.injEq, and_true] at e0; obtain ⟨rfl, rfl, rfl⟩ := e0; clear hA0 hval0 hsz0 hsz; obtain ⟨k, h⟩ := Pure.MatchLabels x0 s0
  refine (lw_MatchLabels.calls k _ _ x0 true W g0 l0 h).mono fun e W' ⟨he, hd⟩ => ?_
  have bel : Below W.heap.size W W' := hd; subst he; exact ⟨_, rfl, _, _, _, [], _, [], hW', trodAll_mk1 (shut_bool Try.underlying4 _), (trodAll_cons_mk (Below.trod laidOut (by kernel_rfl) (zo (by kernel_rfl)) k0 bel lt0) trodAll_mk0), rfl, bel.frame _, fun h => by cases h⟩
theorem over : Rows.matchLabelsRow.holds Try.pinned (OpenSpec.ofChange Rows.matchLabelsSpec) :=
  OpenClaim.holds_of_wide 5 Try.f5 rfl rfl rfl rfl rfl rfl rfl ⟨rfl, rfl, rfl, rfl, rfl⟩ rfl rfl rfl rfl rfl (by kernel_rfl) Try.func5 (by kernel_rfl)
    (zo (by kernel_rfl)) (by unfold Func.isWrapper; first | (rw [if_pos (by decide +kernel)]; kernel_rfl) | (rw [if_neg (by decide +kernel)]; exact ⟨rfl, rfl⟩))
    (fun os started H enc _ => lifted os started H enc)
theorem proved : Rows.MatchLabelsSaid := over
#print axioms proved
end Go.Proofs.Ytelacebdmmanhaa.matchLabels
namespace Go.Proofs.Ytelacebdmmanhaa
/-- The row, under a short name, for the claim. -/
theorem matchLabels_holds : Rows.MatchLabelsSaid := matchLabels.proved
end Go.Proofs.Ytelacebdmmanhaa
