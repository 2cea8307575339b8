/- What is wrong first with any attributes, and where: the program and the document's answer say the same. -/
import Derived.Test.YtnellpilmjjbcaaGx5
import Derived.Test.YtnellpilmjjbcaaOpk
import Derived.Test.YtnellpilmjjbcaaPb
namespace Go.Proofs.Ytnellpilmjjbcaa.Pure
open Go.RowKit Go.Proofs.Ytnellpilmjjbcaa.G Go.Proofs.YtnellpilmjjbcaaW.PrintWords Go.Proofs.YtnellpilmjjbcaaW.PrintLast
set_option linter.unusedVariables false

theorem same : ∃ k, tendrillaw09_same.f k = some true := ⟨40, by decide +kernel⟩
theorem few_l1 (x : S42) (hl : x.f5.length ≤ 140737488351232) (d : Nat) : ∀ (i x5 : Int), 0 ≤ i → (x.f5.length : Int) - i = d → ∃ b, Ev (fun k => tendrilplain_FewRows.l1 k [x] x5 0 1 0 x.f5.length i) b := by
  induction d with
  | zero =>
    intro i x5 h0 hd
    refine ⟨_, ((Ev.pure (decide (x5 ≥ 0))).step (f := fun k => tendrilplain_FewRows.l0 k [x] x5 1 1) (fun k => by rw [tendrilplain_FewRows.l0, if_neg (by omega)])).step (fun k => ?_)⟩
    rw [tendrilplain_FewRows.l1, if_neg (by omega), show wrap64 ((0 : Int) + 1) = 1 by rw [w1 (by omega) (by omega)]; rfl]
  | succ d ih =>
    intro i x5 h0 hd
    obtain ⟨b, hb⟩ := ih (i + 1) (wrap64 (x5 - (wrap64 (Int.tdiv (wrap64 (((rd_T45 x.f5 i).f1.size : Int) + ((rd_T45 x.f5 i).f0.size : Int))) 4096)))) (by omega) (by omega)
    refine ⟨b, hb.step (fun k => ?_)⟩
    have hr : rd_T42 [x] 0 = x := rfl
    rw [tendrilplain_FewRows.l1, if_pos (by omega), if_pos (by omega), if_pos (by simp), if_pos h0, hr, if_pos (by omega), w1 (by omega) (by omega)]
theorem few_ev (x : S42) (hl : x.f5.length ≤ 140737488351232) (n : Int) : ∃ b, Ev (fun k => tendrilplain_FewRows.f k [x] n) b := by
  have hr : rd_T42 [x] 0 = x := rfl
  obtain ⟨c, hc⟩ : ∃ c, (wrap64 ((wrap64 ((wrap64 (n - 1)) - (x.f5.length : Int))) - (wrap64 (Int.tdiv (wrap64 ((wrap64 ((x.f4.size : Int) + (x.f3.size : Int))) + (x.f2.size : Int))) 4096)))) = c := ⟨_, rfl⟩
  by_cases h : c < 0
  · refine ⟨false, (Ev.pure false).step (f := fun k => tendrilplain_FewRows.l0 k [x] n 1 0) (fun k => ?_) |>.eq (fun k => rfl)⟩
    rw [tendrilplain_FewRows.l0, if_pos (by omega), if_pos (by omega), if_pos (by simp), hr, hc, if_pos h]
  · obtain ⟨b, hb⟩ := few_l1 x hl x.f5.length 0 c (by omega) (by omega)
    refine ⟨b, hb.step (f := fun k => tendrilplain_FewRows.l0 k [x] n 1 0) (fun k => ?_) |>.eq (fun k => rfl)⟩
    rw [tendrilplain_FewRows.l0, if_pos (by omega), if_pos (by omega), if_pos (by simp), hr, hc, if_neg h]
theorem heavy_ev (l : List S45) (hl : l.length ≤ 140737488351232) : ∃ b, Ev (fun k => tendrillaw09_heavy.f k l) b := by
  obtain ⟨b, hb⟩ := few_ev ⟨0, 0, ⟨#[]⟩, ⟨#[]⟩, ⟨#[]⟩, l⟩ hl 300
  exact ⟨!b, hb.via0 (Ev.pure _) (fun k hk => by rw [tendrillaw09_heavy.f, hk]; rfl)⟩

theorem AttrsChecks : ∀ (x0 : List (S45)), (x0.length * 32 ≤ 140737488351232 ∧ ∀ y ∈ x0, Sm45 y) → ∃ k, tendrillaw09_AttrsChecks.f k x0 = some true := by
  intro l ⟨hl, hs⟩
  obtain ⟨b, k1, g1⟩ := heavy_ev l (by omega)
  obtain ⟨r, ⟨k2, g2⟩, ⟨k3, g3⟩⟩ := attrs l (by omega) hs
  obtain ⟨k4, g4⟩ : Ev (fun k => tendrillaw09_same.f k) true := by
    obtain ⟨k, hk⟩ := same
    exact Ev.of (fun k => tendrillaw09_same.mono k) hk
  refine ⟨k1 + k2 + k3 + k4, ?_⟩
  have a1 := g1 (k1 + k2 + k3 + k4) (by omega)
  have a2 := g2 (k1 + k2 + k3 + k4) (by omega)
  have a3 := g3 (k1 + k2 + k3 + k4) (by omega)
  have a4 := g4 (k1 + k2 + k3 + k4) (by omega)
  dsimp only at a1 a2 a3 a4
  rw [tendrillaw09_AttrsChecks.f, a1, Option.bind_some]
  cases b with
  | true => rw [if_pos rfl, a4]; rfl
  | false => rw [if_neg (by decide), a2, Option.bind_some, a3, Option.bind_some, if_pos rfl, if_pos rfl, a4]; rfl

end Go.Proofs.Ytnellpilmjjbcaa.Pure
