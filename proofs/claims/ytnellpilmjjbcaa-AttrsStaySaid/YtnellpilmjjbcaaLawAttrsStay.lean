-- Written by gp.py (wip/gen) for this claim: pure functions and contracts, out of the translation; not trusted: Lean checks it.
import Derived.Test.YtnellpilmjjbcaaRows
import Derived.Test.YtnellpilmjjbcaaGx8
import Derived.Test.YtnellpilmjjbcaaOpk
import Derived.Test.YtnellpilmjjbcaaPureAttrsStay
import Derived.WalkKit
import Derived.ProofKit
import Derived.OpenShut
import Derived.ShutString
import Derived.ChangeOld
import Derived.Below
import Derived.SizedLaws
namespace Go.Proofs.Ytnellpilmjjbcaa.attrsStay
open Go.ChangeShapes Go.WideShapes Go.ChangeAt Go.RowKit Go.Proofs.Ytnellpilmjjbcaa.Opn Go.Proofs.YtnellpilmjjbcaaW.PrintWords Go.Proofs.Ytnellpilmjjbcaa.G
open Go.ChangeMaps (open_string shut_string)
set_option linter.unusedVariables false
theorem own : ownKnob Try.prog.godebug = none := by kernel_rfl
theorem laidOut : laidOutB Try.prog = true := by kernel_rfl
set_option maxRecDepth 100000 in
theorem lifted (os : Os) (started : os.Started) (H : Type) (enc : TypeId × Value → H) :
    ReturnsInHanded {} Try.checked os 5 .any (Rows.attrsStaySpec.pre6 enc Try.prog Try.f5 Rows.attrsStayRow.domain false) (Rows.attrsStaySpec.post enc Try.prog Try.f5 false true false false) := by
  refine returnsInHanded_of_change_sized (C := Try.checked) own started (by kernel_rfl) Try.func5
    (ChangeSpec.witness6 (enc := enc) (C := Try.checked) false ⟨#[], #[(.slice none 0 0), (.string ⟨#[]⟩), (.string ⟨#[]⟩)], []⟩ 8 (by kernel_rfl) (by kernel_rfl) (by kernel_rfl) (by kernel_rfl)) ?_
  intro W base args ds gs before hval0 hW hcnd hsz0 _
  have hsz : (DataW.weightsEach Try.prog (Try.f5.params.toList ++ Rows.attrsStaySpec.plain.varTypes Try.prog) (ds ++ gs)).all (· ≤ reachBytes) = true := hsz0
  have hval : ∀ (j : Nat) t v, Try.f5.params[j]? = some t → args[j]? = some v → Value.okWide Try.prog W .any base t v := hval0
  have hW' := hW
  obtain ⟨p, q, hA0, hV, rfl, hfz, hnd⟩ := hW
  have hA : DataW.TrodAll enc Try.prog W 0 (fun _ => true) true Try.f5.params.toList args.toList ds p := hA0
  rw [Try.params5] at hA hval hsz
  obtain ⟨v0, vs0, d0, ds0, p0, q0, hargs, rfl, rfl, h0, r0⟩ := trodAll_cons hA
  obtain ⟨v1, vs1, d1, ds1, p1, q1, rfl, rfl, rfl, h1, r1⟩ := trodAll_cons r0
  obtain ⟨v2, vs2, d2, ds2, p2, q2, rfl, rfl, rfl, h2, r2⟩ := trodAll_cons r1
  obtain ⟨rfl, rfl, rfl⟩ := trodAll_nil r2
  obtain rfl : args = #[v0, v1, v2] := by cases args; simp_all
  obtain ⟨rfl, rfl⟩ := trodVars_none hV
  obtain ⟨w0, hsz⟩ := weightsEach_head hsz
  obtain ⟨w1, hsz⟩ := weightsEach_head hsz
  obtain ⟨w2, hsz⟩ := weightsEach_head hsz
  obtain ⟨a0, len0, cap0, rfl⟩ := okWide_slice Try.underlying22 (hval 0 22 v0 rfl rfl)
  have k0 := h0
  have lt0 : ∀ x ∈ p0, x.block < W.heap.size := by obtain ⟨m, hm⟩ := k0; exact DataW.trod_lt m _ _ _ hm
  obtain ⟨x0, K0, s0⟩ : ∃ x, (Kd.slice 45 k45).K W x [.slice a0 len0 cap0] ∧ (x.length * 32 ≤ 140737488351232 ∧ ∀ y ∈ x, Sm45 y) := by
    obtain ⟨m, hm⟩ := h0
    exact ((at_slice2 Try.underlying22 (by kernel_rfl) (by kernel_rfl) (fun m' hm' => (at_S45 m'))) : At Try.prog m 22 (Kd.slice 45 k45) (fun x => (x.length * 32 ≤ 140737488351232 ∧ ∀ y ∈ x, Sm45 y))) enc W 0 _ true _ _ hm w0
  obtain ⟨A0, c0, e0, l0, g0⟩ := K0
  simp only [List.cons.injEq, Value.slice.injEq, and_true] at e0
  obtain ⟨rfl, rfl, rfl⟩ := e0
  obtain ⟨x1, rfl, rfl, rfl, y1⟩ := open_string Try.underlying9 (hval 1 9 v1 rfl rfl) h1
  have s1 : x1.size ≤ 140737488351232 := by
    first | (simpa [DataW.weights, reachBytes, Array.length_toList] using w1) | exact of_decide_eq_true (by have h_ := w1; simp [DataW.weights, reachBytes, Array.length_toList] at h_; exact h_)
  obtain ⟨x2, rfl, rfl, rfl, y2⟩ := open_string Try.underlying9 (hval 2 9 v2 rfl rfl) h2
  have s2 : x2.size ≤ 140737488351232 := by
    first | (simpa [DataW.weights, reachBytes, Array.length_toList] using w2) | exact of_decide_eq_true (by have h_ := w2; simp [DataW.weights, reachBytes, Array.length_toList] at h_; exact h_)
  clear hA0 hval0 hsz0 hsz
  obtain ⟨k, h⟩ := Pure.AttrsStay x0 x1 x2 s0 s1 s2
  refine (tendrillaw09_AttrsStay.calls k _ _ x0 x1 x2 true W g0 l0 h).mono fun e W' ⟨he, hd⟩ => ?_
  have bel : Below W.heap.size W W' := hd
  subst he
  exact ⟨_, rfl, _, _, _, [], _, [], hW', trodAll_mk1 (shut_bool Try.underlying4 _), (trodAll_cons_mk (Below.trod laidOut (by kernel_rfl) (of_decide_eq_true (by kernel_rfl)) k0 bel lt0) (trodAll_cons_mk (shut_string Try.underlying9 y1) (trodAll_cons_mk (shut_string Try.underlying9 y2) trodAll_mk0))), rfl, bel.frame _, fun h => by cases h⟩
theorem over : Rows.attrsStayRow.holds Try.pinned (OpenSpec.ofChange Rows.attrsStaySpec) :=
  OpenClaim.holds_of_wide 5 Try.f5 rfl rfl rfl rfl rfl rfl rfl ⟨rfl, rfl, rfl, rfl, rfl⟩ rfl rfl rfl rfl rfl (by kernel_rfl) Try.func5 (by kernel_rfl)
    (of_decide_eq_true (by kernel_rfl)) (by unfold Func.isWrapper; first | (rw [if_pos (by decide +kernel)]; kernel_rfl) | (rw [if_neg (by decide +kernel)]; exact ⟨rfl, rfl⟩))
    (fun os started H enc _ => lifted os started H enc)
theorem proved : Rows.AttrsStaySaid := over
#print axioms proved
end Go.Proofs.Ytnellpilmjjbcaa.attrsStay
namespace Go.Proofs.Ytnellpilmjjbcaa
/-- The row, under a short name, for the claim. -/
theorem attrsStay_holds : Rows.AttrsStaySaid := attrsStay.proved
end Go.Proofs.Ytnellpilmjjbcaa
