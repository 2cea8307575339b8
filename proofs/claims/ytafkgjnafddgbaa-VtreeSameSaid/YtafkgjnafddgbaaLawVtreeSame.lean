-- Written by gp.py (wip/gen) for this claim: pure functions and contracts, out of the translation; not trusted: Lean checks it.
import Derived.Test.YtafkgjnafddgbaaRows
import Derived.Test.YtafkgjnafddgbaaGx10
import Derived.Test.YtafkgjnafddgbaaOpk
import Derived.Test.YtafkgjnafddgbaaPureVtreeSame
import Derived.WalkKit
import Derived.ProofKit
import Derived.OpenShut
import Derived.ShutString
import Derived.ChangeOld
import Derived.Below
import Derived.SizedLaws
namespace Go.Proofs.Ytafkgjnafddgbaa.vtreeSame
open Go.ChangeShapes Go.WideShapes Go.ChangeAt Go.RowKit Go.Proofs.Ytafkgjnafddgbaa.Opn Go.Proofs.YtafkgjnafddgbaaW.PrintWords Go.Proofs.Ytafkgjnafddgbaa.G
open Go.ChangeMaps (open_string shut_string)
set_option linter.unusedVariables false
theorem own : ownKnob Try.prog.godebug = none := by kernel_rfl
theorem laidOut : laidOutB Try.prog = true := by kernel_rfl
set_option maxRecDepth 100000 in
theorem lifted (os : Os) (started : os.Started) (H : Type) (enc : TypeId × Value → H) :
    ReturnsInHanded {} Try.checked os 5 .any (Rows.vtreeSameSpec.pre6 enc Try.prog Try.f5 Rows.vtreeSameRow.domain false) (Rows.vtreeSameSpec.post enc Try.prog Try.f5 false true false false) := by
  refine returnsInHanded_of_change_sized (C := Try.checked) own started (by kernel_rfl) Try.func5
    (ChangeSpec.witness6 (enc := enc) (C := Try.checked) false ⟨#[], #[(.agg #[(.string ⟨#[]⟩), (.string ⟨#[]⟩), (.string ⟨#[]⟩), (.slice none 0 0), (.slice none 0 0)]), (.agg #[(.string ⟨#[]⟩), (.string ⟨#[]⟩), (.string ⟨#[]⟩), (.slice none 0 0), (.slice none 0 0)])], []⟩ 8 (by kernel_rfl) (by kernel_rfl) (by kernel_rfl) (by kernel_rfl)) ?_
  intro W base args ds gs before hval0 hW hcnd hsz0 _
  have hsz : (DataW.weightsEach Try.prog (Try.f5.params.toList ++ Rows.vtreeSameSpec.plain.varTypes Try.prog) (ds ++ gs)).all (· ≤ reachBytes) = true := hsz0
  have hval : ∀ (j : Nat) t v, Try.f5.params[j]? = some t → args[j]? = some v → Value.okWide Try.prog W .any base t v := hval0
  have hW' := hW
  obtain ⟨p, q, hA0, hV, rfl, hfz, hnd⟩ := hW
  have hA : DataW.TrodAll enc Try.prog W 0 (fun _ => true) true Try.f5.params.toList args.toList ds p := hA0
  rw [Try.params5] at hA hval hsz
  obtain ⟨v0, vs0, d0, ds0, p0, q0, hargs, rfl, rfl, h0, r0⟩ := trodAll_cons hA
  obtain ⟨v1, vs1, d1, ds1, p1, q1, rfl, rfl, rfl, h1, r1⟩ := trodAll_cons r0
  obtain ⟨rfl, rfl, rfl⟩ := trodAll_nil r1
  obtain rfl : args = #[v0, v1] := by cases args; simp_all
  obtain ⟨rfl, rfl⟩ := trodVars_none hV
  obtain ⟨w0, hsz⟩ := weightsEach_head hsz
  obtain ⟨w1, hsz⟩ := weightsEach_head hsz
  obtain ⟨cs0, rfl⟩ := okWide_agg Try.underlying25 (hval 0 25 v0 rfl rfl)
  have k0 := h0
  have lt0 : ∀ x ∈ p0, x.block < W.heap.size := by obtain ⟨m, hm⟩ := k0; exact DataW.trod_lt m _ _ _ hm
  obtain ⟨x0, K0, s0⟩ : ∃ x, k25.K W x cs0.toList ∧ Sm25 x := by
    obtain ⟨m, hm⟩ := h0
    exact ((at_S25 m) : At Try.prog m 25 k25 (fun x => Sm25 x)) enc W 0 _ true _ _ hm w0
  obtain ⟨A0_3, c0_3, A0_4, c0_4, e0, l0_3, g0_3, l0_4, g0_4⟩ := k25_open K0
  obtain rfl : cs0 = (#[.string x0.f0, .string x0.f1, .string x0.f2, .slice A0_3 x0.f3.length c0_3, .slice A0_4 x0.f4.length c0_4] : Array Value) := (Array.toList_inj (ys := (#[.string x0.f0, .string x0.f1, .string x0.f2, .slice A0_3 x0.f3.length c0_3, .slice A0_4 x0.f4.length c0_4] : Array Value))).1 e0
  obtain ⟨cs1, rfl⟩ := okWide_agg Try.underlying25 (hval 1 25 v1 rfl rfl)
  have k1 := h1
  have lt1 : ∀ x ∈ p1, x.block < W.heap.size := by obtain ⟨m, hm⟩ := k1; exact DataW.trod_lt m _ _ _ hm
  obtain ⟨x1, K1, s1⟩ : ∃ x, k25.K W x cs1.toList ∧ Sm25 x := by
    obtain ⟨m, hm⟩ := h1
    exact ((at_S25 m) : At Try.prog m 25 k25 (fun x => Sm25 x)) enc W 0 _ true _ _ hm w1
  obtain ⟨A1_3, c1_3, A1_4, c1_4, e1, l1_3, g1_3, l1_4, g1_4⟩ := k25_open K1
  obtain rfl : cs1 = (#[.string x1.f0, .string x1.f1, .string x1.f2, .slice A1_3 x1.f3.length c1_3, .slice A1_4 x1.f4.length c1_4] : Array Value) := (Array.toList_inj (ys := (#[.string x1.f0, .string x1.f1, .string x1.f2, .slice A1_3 x1.f3.length c1_3, .slice A1_4 x1.f4.length c1_4] : Array Value))).1 e1
  clear hA0 hval0 hsz0 hsz
  obtain ⟨k, h⟩ := Pure.VtreeSame x0 x1 s0 s1
  refine (tendrillaw11_VtreeSame.calls k x0.f0 x0.f1 x0.f2 _ _ x0.f3 _ _ x0.f4 x1.f0 x1.f1 x1.f2 _ _ x1.f3 _ _ x1.f4 true W g0_3 l0_3 g0_4 l0_4 g1_3 l1_3 g1_4 l1_4 h).mono fun e W' ⟨he, hd⟩ => ?_
  have bel : Below W.heap.size W W' := hd
  subst he
  exact ⟨_, rfl, _, _, _, [], _, [], hW', trodAll_mk1 (shut_bool Try.underlying4 _), (trodAll_cons_mk (Below.trod laidOut (by kernel_rfl) (of_decide_eq_true (by kernel_rfl)) k0 bel lt0) (trodAll_cons_mk (Below.trod laidOut (by kernel_rfl) (of_decide_eq_true (by kernel_rfl)) k1 bel lt1) trodAll_mk0)), rfl, bel.frame _, fun h => by cases h⟩
theorem over : Rows.vtreeSameRow.holds Try.pinned (OpenSpec.ofChange Rows.vtreeSameSpec) :=
  OpenClaim.holds_of_wide 5 Try.f5 rfl rfl rfl rfl rfl rfl rfl ⟨rfl, rfl, rfl, rfl, rfl⟩ rfl rfl rfl rfl rfl (by kernel_rfl) Try.func5 (by kernel_rfl)
    (of_decide_eq_true (by kernel_rfl)) (by unfold Func.isWrapper; first | (rw [if_pos (by decide +kernel)]; kernel_rfl) | (rw [if_neg (by decide +kernel)]; exact ⟨rfl, rfl⟩))
    (fun os started H enc _ => lifted os started H enc)
theorem proved : Rows.VtreeSameSaid := over
#print axioms proved
end Go.Proofs.Ytafkgjnafddgbaa.vtreeSame
namespace Go.Proofs.Ytafkgjnafddgbaa
/-- The row, under a short name, for the claim. -/
theorem vtreeSame_holds : Rows.VtreeSameSaid := vtreeSame.proved
end Go.Proofs.Ytafkgjnafddgbaa
