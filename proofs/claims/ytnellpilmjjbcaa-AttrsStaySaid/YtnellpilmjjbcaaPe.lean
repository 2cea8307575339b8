/- Which lists are gone through; the closed test. -/
import Derived.Test.YtnellpilmjjbcaaPaE
import Derived.Test.YtnellpilmjjbcaaGx4
namespace Go.Proofs.Ytnellpilmjjbcaa.Pure
open Go.RowKit Go.Proofs.Ytnellpilmjjbcaa.G Go.Proofs.YtnellpilmjjbcaaW.PrintWords Go.Proofs.YtnellpilmjjbcaaW.PrintLast
set_option linter.unusedVariables false

theorem same : ∃ k, tendrillaw09_same.f k = some true := ⟨40, by decide +kernel⟩
theorem same_ev : Ev (fun k => tendrillaw09_same.f k) true := by
  obtain ⟨k, hk⟩ := same
  exact Ev.of (fun k => tendrillaw09_same.mono k) hk
theorem few_l1 (x : S42) (hl : x.f5.length ≤ 140737488351232) (d : Nat) : ∀ (i x5 : Int), 0 ≤ i → (x.f5.length : Int) - i = d → ∃ b, Ev (fun k => tendrilplain_FewRows.l1 k [x] x5 0 1 0 x.f5.length i) b := by
  induction d with
  | zero =>
    intro i x5 h0 hd
    refine ⟨_, ((Ev.pure (decide (x5 ≥ 0))).step (f := fun k => tendrilplain_FewRows.l0 k [x] x5 1 1) (fun k => by rw [tendrilplain_FewRows.l0, if_neg (by omega)])).step (fun k => ?_)⟩
    rw [tendrilplain_FewRows.l1, if_neg (by omega), show wrap64 ((0 : Int) + 1) = 1 by rw [w1 (by omega) (by omega)]; rfl]
  | succ d ih =>
    intro i x5 h0 hd
    obtain ⟨b, hb⟩ := ih (i + 1) (wrap64 (x5 - (wrap64 (Int.tdiv (wrap64 (((rd_T45 x.f5 i).f1.size : Int) + ((rd_T45 x.f5 i).f0.size : Int))) 4096)))) (by omega) (by omega)
    refine ⟨b, hb.step (fun k => ?_)⟩
    have hr : rd_T42 [x] 0 = x := rfl
    rw [tendrilplain_FewRows.l1, if_pos (by omega), if_pos (by omega), if_pos (by simp), if_pos h0, hr, if_pos (by omega), w1 (by omega) (by omega)]
theorem heavy_ev (l : List S45) (hl : l.length ≤ 140737488351232) : ∃ b, Ev (fun k => tendrillaw09_heavy.f k l) b ∧ (b = false → l.length ≤ 299) := by
  have hr : rd_T42 [(⟨0, 0, ⟨#[]⟩, ⟨#[]⟩, ⟨#[]⟩, l⟩ : S42)] 0 = ⟨0, 0, ⟨#[]⟩, ⟨#[]⟩, ⟨#[]⟩, l⟩ := rfl
  have hz : wrap64 (Int.tdiv (wrap64 ((wrap64 (((⟨#[]⟩ : ByteArray).size : Int) + ((⟨#[]⟩ : ByteArray).size : Int))) + ((⟨#[]⟩ : ByteArray).size : Int))) 4096) = 0 := by decide +kernel
  have hc : (wrap64 ((wrap64 ((wrap64 (300 - 1)) - (l.length : Int))) - (0 : Int))) = 299 - l.length := by
    rw [wm (by omega) (by omega), ww (i := 300 - 1 - (l.length : Int)) (by omega) (by omega), ww (by omega) (by omega)]
    omega
  by_cases h : (299 : Int) - l.length < 0
  · refine ⟨true, ?_, by simp⟩
    have e : Ev (fun k => tendrilplain_FewRows.f k [(⟨0, 0, ⟨#[]⟩, ⟨#[]⟩, ⟨#[]⟩, l⟩ : S42)] 300) false := by
      refine (Ev.pure false).step (f := fun k => tendrilplain_FewRows.l0 k [(⟨0, 0, ⟨#[]⟩, ⟨#[]⟩, ⟨#[]⟩, l⟩ : S42)] 300 1 0) (fun k => ?_) |>.eq (fun k => rfl)
      rw [tendrilplain_FewRows.l0, if_pos (by omega), if_pos (by omega), if_pos (by simp), hr]
      dsimp only
      rw [hz, hc, if_pos h]
    exact e.via0 (Ev.pure _) (fun k hk => by rw [tendrillaw09_heavy.f, hk]; rfl)
  · obtain ⟨b, hb⟩ := few_l1 ⟨0, 0, ⟨#[]⟩, ⟨#[]⟩, ⟨#[]⟩, l⟩ hl l.length 0 (299 - l.length) (by omega) (by simp)
    have e : Ev (fun k => tendrilplain_FewRows.f k [(⟨0, 0, ⟨#[]⟩, ⟨#[]⟩, ⟨#[]⟩, l⟩ : S42)] 300) b := by
      refine hb.step (f := fun k => tendrilplain_FewRows.l0 k [(⟨0, 0, ⟨#[]⟩, ⟨#[]⟩, ⟨#[]⟩, l⟩ : S42)] 300 1 0) (fun k => ?_) |>.eq (fun k => rfl)
      rw [tendrilplain_FewRows.l0, if_pos (by omega), if_pos (by omega), if_pos (by simp), hr]
      dsimp only
      rw [hz, hc, if_neg h]
    exact ⟨!b, e.via0 (Ev.pure _) (fun k hk => by rw [tendrillaw09_heavy.f, hk]; rfl), fun _ => by omega⟩
end Go.Proofs.Ytnellpilmjjbcaa.Pure
