-- Written by gp.py (wip/gen) for this claim: pure functions and contracts, out of the translation; not trusted: Lean checks it.
import Derived.Test.YtcebfldagnjddaaRows
import Derived.Test.YtcebfldagnjddaaGx13
import Derived.Test.YtcebfldagnjddaaOpk
import Derived.Test.YtcebfldagnjddaaPureFlatRows
import Derived.WalkKit
import Derived.ProofKit
import Derived.OpenShut
import Derived.ShutString
import Derived.ChangeOld
import Derived.Below
import Derived.SizedLaws
namespace Go.Proofs.Ytcebfldagnjddaa.flatRows
open Go.ChangeShapes Go.WideShapes Go.ChangeAt Go.RowKit Go.Proofs.Ytcebfldagnjddaa.Opn Go.Proofs.YtcebfldagnjddaaW.PrintWords Go.Proofs.Ytcebfldagnjddaa.G
open Go.ChangeMaps (open_string shut_string)
set_option linter.unusedVariables false
theorem own : ownKnob Try.prog.godebug = none := by kernel_rfl
theorem laidOut : laidOutB Try.prog = true := by kernel_rfl
set_option maxRecDepth 100000 in
theorem lifted (os : Os) (started : os.Started) (H : Type) (enc : TypeId × Value → H) :
    ReturnsInHanded {} Try.checked os 3 .any (Rows.flatRowsSpec.pre6 enc Try.prog Try.f3 Rows.flatRowsRow.domain false) (Rows.flatRowsSpec.post enc Try.prog Try.f3 false true false false) := by
  refine returnsInHanded_of_change_sized (C := Try.checked) own started (by kernel_rfl) Try.func3
    (ChangeSpec.witness6 (enc := enc) (C := Try.checked) false ⟨#[], #[(.agg #[(.string ⟨#[]⟩), (.string ⟨#[]⟩), (.string ⟨#[]⟩), (.slice none 0 0), (.slice none 0 0)])], []⟩ 8 (by kernel_rfl) (by kernel_rfl) (by kernel_rfl) (by kernel_rfl)) ?_
  intro W base args ds gs before hval0 hW hcnd hsz0 _
  have hsz : (DataW.weightsEach Try.prog (Try.f3.params.toList ++ Rows.flatRowsSpec.plain.varTypes Try.prog) (ds ++ gs)).all (· ≤ reachBytes) = true := hsz0
  have hval : ∀ (j : Nat) t v, Try.f3.params[j]? = some t → args[j]? = some v → Value.okWide Try.prog W .any base t v := hval0
  have hW' := hW
  obtain ⟨p, q, hA0, hV, rfl, hfz, hnd⟩ := hW
  have hA : DataW.TrodAll enc Try.prog W 0 (fun _ => true) true Try.f3.params.toList args.toList ds p := hA0
  rw [Try.params3] at hA hval hsz
  obtain ⟨v0, vs0, d0, ds0, p0, q0, hargs, rfl, rfl, h0, r0⟩ := trodAll_cons hA
  obtain ⟨rfl, rfl, rfl⟩ := trodAll_nil r0
  obtain rfl : args = #[v0] := by cases args; simp_all
  obtain ⟨rfl, rfl⟩ := trodVars_none hV
  obtain ⟨w0, hsz⟩ := weightsEach_head hsz
  obtain ⟨cs0, rfl⟩ := okWide_agg Try.underlying25 (hval 0 25 v0 rfl rfl)
  have k0 := h0
  have lt0 : ∀ x ∈ p0, x.block < W.heap.size := by obtain ⟨m, hm⟩ := k0; exact DataW.trod_lt m _ _ _ hm
  obtain ⟨x0, K0, s0⟩ : ∃ x, k25.K W x cs0.toList ∧ Sm25 x := by
    obtain ⟨m, hm⟩ := h0; exact ((at_S25 m) : At Try.prog m 25 k25 (fun x => Sm25 x)) enc W 0 _ true _ _ hm w0
  obtain ⟨A0_3, c0_3, A0_4, c0_4, e0, l0_3, g0_3, l0_4, g0_4⟩ := k25_open K0
  obtain rfl : cs0 = (#[.string x0.f0, .string x0.f1, .string x0.f2, .slice A0_3 x0.f3.length c0_3, .slice A0_4 x0.f4.length c0_4] : Array Value) := (Array.toList_inj (ys := (#[.string x0.f0, .string x0.f1, .string x0.f2, .slice A0_3 x0.f3.length c0_3, .slice A0_4 x0.f4.length c0_4] : Array Value))).1 e0
  clear hA0 hval0 hsz0 hsz
  obtain ⟨k, h⟩ := Pure.FlatRows x0 s0
  refine (tendrillaw13_FlatRows.calls k x0.f0 x0.f1 x0.f2 _ _ x0.f3 _ _ x0.f4 true W g0_3 l0_3 g0_4 l0_4 h).mono fun e W' ⟨he, hd⟩ => ?_
  have bel : Below W.heap.size W W' := hd
  subst he
  exact ⟨_, rfl, _, _, _, [], _, [], hW', trodAll_mk1 (shut_bool Try.underlying4 _), (trodAll_cons_mk (Below.trod laidOut (by kernel_rfl) (of_decide_eq_true (by kernel_rfl)) k0 bel lt0) trodAll_mk0), rfl, bel.frame _, fun h => by cases h⟩
theorem over : Rows.flatRowsRow.holds Try.pinned (OpenSpec.ofChange Rows.flatRowsSpec) :=
  OpenClaim.holds_of_wide 3 Try.f3 rfl rfl rfl rfl rfl rfl rfl ⟨rfl, rfl, rfl, rfl, rfl⟩ rfl rfl rfl rfl rfl (by kernel_rfl) Try.func3 (by kernel_rfl)
    (of_decide_eq_true (by kernel_rfl)) (by unfold Func.isWrapper; first | (rw [if_pos (by decide +kernel)]; kernel_rfl) | (rw [if_neg (by decide +kernel)]; exact ⟨rfl, rfl⟩))
    (fun os started H enc _ => lifted os started H enc)
theorem proved : Rows.FlatRowsSaid := over
#print axioms proved
end Go.Proofs.Ytcebfldagnjddaa.flatRows
namespace Go.Proofs.Ytcebfldagnjddaa
/-- The row, under a short name, for the claim. -/
theorem flatRows_holds : Rows.FlatRowsSaid := flatRows.proved
end Go.Proofs.Ytcebfldagnjddaa
