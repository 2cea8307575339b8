/- The weighing (tendrilplain.Few): it comes to an end, and tells no tree of more nodes few. -/
import Derived.Test.YtafkgjnafddgbaaPc
namespace Go.Proofs.Ytafkgjnafddgbaa.Pure
open Go.RowKit Go.Proofs.Ytafkgjnafddgbaa.G Go.Proofs.YtafkgjnafddgbaaW.PrintWords Go.Proofs.YtafkgjnafddgbaaW.PrintLast
set_option linter.unusedVariables false

theorem rd25_drop (l : List S25) (i : Int) (h0 : 0 ≤ i) (h : i < l.length) : l.drop i.toNat = rd_T25 l i :: l.drop (i + 1).toNat := drop_T25 l i h0 h
theorem rd25_mem (l : List S25) (i : Int) (h0 : 0 ≤ i) (h : i < l.length) : rd_T25 l i ∈ l := by
  unfold rd_T25
  rw [List.getD_eq_getElem?_getD, List.getElem?_eq_getElem (by omega)]
  exact List.getElem_mem _

def WT (x : S25) : Prop := ∀ (a1 a2 : Int), 0 ≤ a1 → a1 ≤ 5000 → 0 ≤ a2 → a2 ≤ 81 →
  ∃ r, Ev (fun k => tendrilplain_weigh.f k x.f0 x.f1 x.f2 x.f3 x.f4 a1 a2) r ∧ (0 ≤ r → szT x + r ≤ a1)

theorem weigh_l1 (x : S25) (hl : x.f4.length * 96 ≤ 140737488351232) (hs : ∀ y ∈ x.f4, Sm25 y) (hw : ∀ y ∈ x.f4, WT y) (d : Nat) : ∀ (i x1 x2 : Int), 0 ≤ i → (x.f4.length : Int) - i = d → x1 ≤ 5000 → 0 ≤ x2 → x2 ≤ 80 →
    ∃ r, Ev (fun k => tendrilplain_weigh.l1 k x1 x2 x.f4.length i x.f0 x.f1 x.f2 x.f3 x.f4) r ∧ (0 ≤ r → szL (x.f4.drop i.toNat) + r ≤ x1) := by
  induction d with
  | zero =>
    intro i x1 x2 h0 hd h1 h2 h3
    refine ⟨x1, (Ev.pure _).step (fun k => by rw [tendrilplain_weigh.l1, if_neg (by omega)]), ?_⟩
    rw [List.drop_eq_nil_of_le (by omega), szL]
    omega
  | succ d ih =>
    intro i x1 x2 h0 hd h1 h2 h3
    have hi : i < (x.f4.length : Int) := by omega
    by_cases c : x1 < 0
    · exact ⟨-1, (Ev.pure _).step (fun k => by rw [tendrilplain_weigh.l1, if_pos hi, if_pos c]), by omega⟩
    · have hm := rd25_mem x.f4 i h0 hi
      obtain ⟨t, ht, hti⟩ := hw _ hm x1 (x2 + 1) (by omega) h1 (by omega) (by omega)
      have hp := pos_of _ (hs _ hm)
      by_cases ct : t ≤ 5000
      · obtain ⟨r, hr, hri⟩ := ih (i + 1) t x2 (by omega) (by omega) ct h2 h3
        refine ⟨r, ht.via hr (fun k hk => by rw [tendrilplain_weigh.l1, if_pos hi, if_neg c, if_pos h0, if_pos hi, w1 (i := x2) (by omega) (by omega), hk, w1 (by omega) (by omega)]; rfl), ?_⟩
        intro hr0
        rw [rd25_drop x.f4 i h0 hi, szL]
        have := posL (x.f4.drop (i + 1).toNat) (fun y hy => hs y (List.mem_of_mem_drop hy))
        have := hri hr0
        have := hti (by omega)
        omega
      · have := hti (by omega)
        omega

theorem tdiv_small {n : Int} (h : 0 ≤ n) : Int.tdiv n 4096 = n / 4096 := Int.tdiv_eq_ediv_of_nonneg h

theorem weigh_l0 (x : S25) (hs : ∀ y ∈ x.f3, Sm42 y) (hl : x.f3.length ≤ 5000) (x2 : Int) (r1 : Int → Int → Prop)
    (hk : ∀ x1 : Int, x1 ≤ 5000 → ∃ r, Ev (fun k => tendrilplain_weigh.l1 k x1 x2 x.f4.length 0 x.f0 x.f1 x.f2 x.f3 x.f4) r ∧ (0 ≤ r → szL x.f4 + r ≤ x1)) (d : Nat) : ∀ (i x1 : Int), 0 ≤ i → (x.f3.length : Int) - i = d → x1 ≤ 5000 → -(i * 137438953472) ≤ x1 →
    ∃ r, Ev (fun k => tendrilplain_weigh.l0 k x1 x2 x.f3.length i x.f0 x.f1 x.f2 x.f3 x.f4) r ∧ (0 ≤ r → szL x.f4 + r ≤ x1) := by
  induction d with
  | zero =>
    intro i x1 h0 hd h1 h2
    obtain ⟨r, hr, hri⟩ := hk x1 h1
    exact ⟨r, hr.step (fun k => by rw [tendrilplain_weigh.l0, if_neg (by omega)]), hri⟩
  | succ d ih =>
    intro i x1 h0 hd h1 h2
    have hi : i < (x.f3.length : Int) := by omega
    have hm := hs _ (rd42_mem x.f3 i h0 hi)
    have m0 := hm.h0
    have m1 := hm.h1
    have e1 : wrap64 (((rd_T42 x.f3 i).f1.size : Int) / 4096) = ((rd_T42 x.f3 i).f1.size : Int) / 4096 := ww (by omega) (by omega)
    have e0 : wrap64 (((rd_T42 x.f3 i).f0.size : Int) / 4096) = ((rd_T42 x.f3 i).f0.size : Int) / 4096 := ww (by omega) (by omega)
    obtain ⟨r, hr, hri⟩ := ih (i + 1) (x1 - ((rd_T42 x.f3 i).f1.size : Int) / 4096 - ((rd_T42 x.f3 i).f0.size : Int) / 4096) (by omega) (by omega) (by omega) (by omega)
    refine ⟨r, hr.step (fun k => ?_), by omega⟩
    rw [tendrilplain_weigh.l0, if_pos hi, if_pos h0, if_pos hi, e1, e0, w1 (by omega) (by omega)]
    rw [ww (i := x1 - ((rd_T42 x.f3 i).f1.size : Int) / 4096) (by omega) (by omega), ww (by omega) (by omega)]

theorem weigh_T (x : S25) (h : Sm25 x) : WT x := by
  induction h with
  | @mk x s0 s1 s2 s3 s4 s5 ih =>
    intro a1 a2 h0 h1 h2 h3
    have e1 : wrap64 ((x.f2.size : Int) + (x.f1.size : Int)) = (x.f2.size : Int) + (x.f1.size : Int) := ww (by omega) (by omega)
    have e2 : wrap64 (Int.tdiv (wrap64 ((x.f2.size : Int) + (x.f1.size : Int))) 4096) = ((x.f2.size : Int) + (x.f1.size : Int)) / 4096 := by
      rw [e1, tdiv_small (by omega)]
      exact ww (by omega) (by omega)
    have e3 : wrap64 ((wrap64 ((wrap64 (a1 - 1)) - (x.f3.length : Int))) - (wrap64 (Int.tdiv (wrap64 ((x.f2.size : Int) + (x.f1.size : Int))) 4096))) = a1 - 1 - x.f3.length - ((x.f2.size : Int) + (x.f1.size : Int)) / 4096 := by
      have := s3.1
      rw [e2, wm (by omega) (by omega), ww (i := a1 - 1 - (x.f3.length : Int)) (by omega) (by omega), ww (by omega) (by omega)]
    obtain ⟨c, hc⟩ : ∃ c, a1 - 1 - (x.f3.length : Int) - ((x.f2.size : Int) + (x.f1.size : Int)) / 4096 = c := ⟨_, rfl⟩
    rw [hc] at e3
    by_cases c0 : c < 0
    · refine ⟨-1, ((Ev.pure (-1)).step (f := fun k => tendrilplain_weigh.j0 k c a2 true x.f0 x.f1 x.f2 x.f3 x.f4) (fun k => by rw [tendrilplain_weigh.j0, if_pos rfl])).step (fun k => by rw [tendrilplain_weigh.f, e3, if_pos c0]), by omega⟩
    by_cases ca : a2 > 80
    · refine ⟨-1, ((Ev.pure (-1)).step (f := fun k => tendrilplain_weigh.j0 k c a2 true x.f0 x.f1 x.f2 x.f3 x.f4) (fun k => by rw [tendrilplain_weigh.j0, if_pos rfl])).step (fun k => by rw [tendrilplain_weigh.f, e3, if_neg c0, decide_eq_true ca]), by omega⟩
    · obtain ⟨r, hr, hri⟩ := weigh_l0 x s3.2 (by omega) a2 (fun _ _ => True) (fun x1 hx1 => by
        obtain ⟨r, hr, hri⟩ := weigh_l1 x s4 s5 ih x.f4.length 0 x1 a2 (by omega) (by omega) hx1 h2 (by omega)
        exact ⟨r, hr, by simpa using hri⟩) x.f3.length 0 c (by omega) (by omega) (by omega) (by omega)
      refine ⟨r, (hr.step (f := fun k => tendrilplain_weigh.j0 k c a2 false x.f0 x.f1 x.f2 x.f3 x.f4) (fun k => by rw [tendrilplain_weigh.j0, if_neg (by decide)])).step (fun k => by rw [tendrilplain_weigh.f, e3, if_neg c0, decide_eq_false ca]), ?_⟩
      intro hr0
      have := hri hr0
      rw [szT_eq]
      omega
theorem few (x : S25) (h : Sm25 x) (n : Int) (h0 : 0 ≤ n) (h1 : n ≤ 5000) : ∃ b, Ev (fun k => tendrilplain_Few.f k x.f0 x.f1 x.f2 x.f3 x.f4 n) b ∧ (b = true → szT x ≤ n) := by
  obtain ⟨r, hr, hri⟩ := weigh_T x h n 0 h0 h1 (by omega) (by omega)
  refine ⟨decide (r ≥ 0), hr.via0 (Ev.pure _) (fun k hk => by rw [tendrilplain_Few.f, hk]; rfl), ?_⟩
  intro hb
  have := hri (of_decide_eq_true hb)
  have := of_decide_eq_true hb
  omega
theorem same : ∃ k, tendrillaw11_same.f k = some true := ⟨40, by decide +kernel⟩
end Go.Proofs.Ytafkgjnafddgbaa.Pure
