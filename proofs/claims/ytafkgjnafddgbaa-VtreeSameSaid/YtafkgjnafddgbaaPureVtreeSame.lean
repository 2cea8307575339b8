/- Same compares right trees; a copy of a right tree is the same tree, whatever is done to the copy. -/
import Derived.Test.YtafkgjnafddgbaaGx10
import Derived.Test.YtafkgjnafddgbaaOpk
import Derived.Test.YtafkgjnafddgbaaPh
namespace Go.Proofs.Ytafkgjnafddgbaa.Pure
open Go.RowKit Go.Proofs.Ytafkgjnafddgbaa.G Go.Proofs.YtafkgjnafddgbaaW.PrintWords Go.Proofs.YtafkgjnafddgbaaW.PrintLast
set_option linter.unusedVariables false

theorem sameT_ev {x y : S25} (hx : Sm25 x) {n1 d1 e1 n2 d2 e2 : Int} (h1 : Ev (fun k => vtree_check.f k x.f0 x.f1 x.f2 x.f3 x.f4) (n1, d1, e1)) (h2 : Ev (fun k => vtree_check.f k y.f0 y.f1 y.f2 y.f3 y.f4) (n2, d2, e2)) :
    ∃ s, Ev (fun k => vtree_Same.f k x.f0 x.f1 x.f2 x.f3 x.f4 y.f0 y.f1 y.f2 y.f3 y.f4) s ∧ (s = true ↔ e1 = 0 ∧ e2 = 0 ∧ x = y) := by
  have hxe : (⟨x.f0, x.f1, x.f2, x.f3, x.f4⟩ : S25) = x := by cases x; rfl
  have hye : (⟨y.f0, y.f1, y.f2, y.f3, y.f4⟩ : S25) = y := by cases y; rfl
  obtain ⟨b, ha, _, hb⟩ := alk_T x hx y
  obtain ⟨k1, g1⟩ := h1
  obtain ⟨k2, g2⟩ := h2
  obtain ⟨k3, g3⟩ := ha
  by_cases c1 : e1 = 0
  · by_cases c2 : e2 = 0
    · refine ⟨b, ⟨k1 + k2 + k3, fun k hk => ?_⟩, by rw [hb]; simp [c1, c2]⟩
      have a1 := g1 k (by omega)
      have a2 := g2 k (by omega)
      have a3 := g3 k (by omega)
      dsimp only at a1 a2 a3 ⊢
      rw [vtree_Same.f, a1, Option.bind_some, if_pos c1, a2, Option.bind_some, if_pos c2, vtree_alike.f, hxe, hye, a3]
      rfl
    · refine ⟨false, ⟨k1 + k2, fun k hk => ?_⟩, by simp [c2]⟩
      have a1 := g1 k (by omega)
      have a2 := g2 k (by omega)
      dsimp only at a1 a2 ⊢
      rw [vtree_Same.f, a1, Option.bind_some, if_pos c1, a2, Option.bind_some, if_neg c2]
  · refine ⟨false, ⟨k1, fun k hk => ?_⟩, by simp [c1]⟩
    have a1 := g1 k (by omega)
    dsimp only at a1 ⊢
    rw [vtree_Same.f, a1, Option.bind_some, if_neg c1]
theorem copy_ev {x : S25} (hx : Sm25 x) {n1 d1 e1 : Int} (h1 : Ev (fun k => vtree_check.f k x.f0 x.f1 x.f2 x.f3 x.f4) (n1, d1, e1)) :
    (e1 = 0 → Ev (fun k => vtree_Copy.f k x.f0 x.f1 x.f2 x.f3 x.f4) (x.f0, x.f1, x.f2, x.f3, x.f4, true)) ∧ (e1 ≠ 0 → Ev (fun k => vtree_Copy.f k x.f0 x.f1 x.f2 x.f3 x.f4) (⟨#[]⟩, ⟨#[]⟩, ⟨#[]⟩, [], [], false)) := by
  obtain ⟨k1, g1⟩ := h1
  obtain ⟨k2, g2⟩ := double_T x hx
  constructor
  · intro c
    refine ⟨k1 + k2, fun k hk => ?_⟩
    have a1 := g1 k (by omega)
    have a2 := g2 k (by omega)
    dsimp only at a1 a2 ⊢
    rw [vtree_Copy.f, a1, Option.bind_some, if_pos c, a2]
    rfl
  · intro c
    refine ⟨k1, fun k hk => ?_⟩
    have a1 := g1 k (by omega)
    dsimp only at a1 ⊢
    rw [vtree_Copy.f, a1, Option.bind_some, if_neg c]

theorem sameC : Ev (fun k => tendrillaw11_same.f k) true := by
  obtain ⟨k, hk⟩ := same
  exact Ev.of (fun k => tendrillaw11_same.mono k) hk
theorem l1_ev {x : S25} (hN : Ev (fun k => tendrilplain_Nodes.f k x.f0 x.f1 x.f2 x.f3 x.f4 x.f0 x.f1 x.f2 x.f3 x.f4) true) (hS : Ev (fun k => vtree_Same.f k x.f0 x.f1 x.f2 x.f3 x.f4 x.f0 x.f1 x.f2 x.f3 x.f4) true) (n : Nat) (hn : n ≤ 140737488351232) (c0 c1 c2 : ByteArray) (c4 : List S25) (d : Nat) :
    ∀ (i : Int) (c3 : List S42), c3.length = n → 0 ≤ i → (n : Int) - i = d → Ev (fun k => tendrillaw11_VtreeSame.l1 k n i x.f0 x.f1 x.f2 x.f3 x.f4 c0 c1 c2 c3 c4 x.f0 x.f1 x.f2 x.f3 x.f4) true := by
  induction d with
  | zero =>
    intro i c3 hc h0 hd
    obtain ⟨k1, g1⟩ := hN
    obtain ⟨k2, g2⟩ := hS
    obtain ⟨k3, g3⟩ := sameC
    refine ⟨k1 + k2 + k3 + 1, fun k hk => ?_⟩
    obtain ⟨k, rfl⟩ : ∃ j, k = j + 1 := ⟨k - 1, by omega⟩
    have a1 := g1 k (by omega)
    have a2 := g2 k (by omega)
    have a3 := g3 k (by omega)
    dsimp only at a1 a2 a3
    show tendrillaw11_VtreeSame.l1 (k + 1) _ _ _ _ _ _ _ _ _ _ _ _ _ _ _ _ _ = _
    rw [tendrillaw11_VtreeSame.l1, if_neg (by omega), a1, Option.bind_some, if_pos rfl, a2, Option.bind_some, if_pos rfl, a3]
    rfl
  | succ d ih =>
    intro i c3 hc h0 hd
    have hw : wrap64 (i + 1) = i + 1 := w1 (by omega) (by omega)
    refine (ih (i + 1) (c3.set i.toNat ⟨⟨#[]⟩, (rd_T42 c3 i).f1⟩) (by simpa using hc) (by omega) (by omega)).step (fun k => ?_)
    rw [tendrillaw11_VtreeSame.l1, if_pos (by omega), if_pos h0, if_pos (by omega), hw]
theorem l0_ev {x : S25} (hx : Sm25 x) (hN : Ev (fun k => tendrilplain_Nodes.f k x.f0 x.f1 x.f2 x.f3 x.f4 x.f0 x.f1 x.f2 x.f3 x.f4) true) (hS : Ev (fun k => vtree_Same.f k x.f0 x.f1 x.f2 x.f3 x.f4 x.f0 x.f1 x.f2 x.f3 x.f4) true) (n : Nat) (hn : n ≤ 140737488351232) (c0 c1 c2 : ByteArray) (c3 : List S42) (hc3 : c3.length ≤ 140737488351232) (d : Nat) :
    ∀ (i : Int) (c4 : List S25), c4.length = n → 0 ≤ i → (n : Int) - i = d → Ev (fun k => tendrillaw11_VtreeSame.l0 k x.f0 n i x.f0 x.f1 x.f2 x.f3 x.f4 c0 c1 c2 c3 c4 x.f0 x.f1 x.f2 x.f3 x.f4) true := by
  induction d with
  | zero =>
    intro i c4 hc h0 hd
    exact (l1_ev hN hS c3.length hc3 c0 c1 c2 c4 c3.length 0 c3 rfl (by omega) (by omega)).step (fun k => by rw [tendrillaw11_VtreeSame.l0, if_neg (by omega)])
  | succ d ih =>
    intro i c4 hc h0 hd
    have hw : wrap64 (i + 1) = i + 1 := w1 (by omega) (by omega)
    obtain ⟨s0, _⟩ := sm_h hx
    refine (ih (i + 1) (c4.set i.toNat ⟨x.f0 ++ ⟨#[45]⟩, (rd_T25 c4 i).f1, (rd_T25 c4 i).f2, (rd_T25 c4 i).f3, (rd_T25 c4 i).f4⟩) (by simpa using hc) (by omega) (by omega)).step (fun k => ?_)
    rw [tendrillaw11_VtreeSame.l0, if_pos (by omega), if_pos (by omega), if_pos h0, if_pos (by omega), hw]

theorem sm_zero : Sm25 ⟨⟨#[]⟩, ⟨#[]⟩, ⟨#[]⟩, [], []⟩ := .mk (by decide) (by decide) (by decide) ⟨by simp, by simp⟩ (by simp) (by simp)
theorem VtreeSame : ∀ (x0 : S25) (x1 : S25), Sm25 x0 → Sm25 x1 → ∃ k, tendrillaw11_VtreeSame.f k x0.f0 x0.f1 x0.f2 x0.f3 x0.f4 x1.f0 x1.f1 x1.f2 x1.f3 x1.f4 = some true := by
  intro x y hx hy
  obtain ⟨s0, s1, s2, s3, s3', s4, s4'⟩ := sm_h hx
  obtain ⟨b1, hb1, _⟩ := few x hx 800 (by omega) (by omega)
  obtain ⟨b2, hb2, _⟩ := few y hy 800 (by omega) (by omega)
  obtain ⟨k1, g1⟩ := hb1
  obtain ⟨k2, g2⟩ := hb2
  obtain ⟨k3, g3⟩ := sameC
  cases b1 with
  | false =>
    refine ⟨k1 + k3 + 1, ?_⟩
    have a1 := g1 (k1 + k3 + 1) (by omega)
    have a3 := g3 (k1 + k3) (by omega)
    dsimp only at a1 a3
    rw [tendrillaw11_VtreeSame.f, a1, Option.bind_some, if_neg (by decide), tendrillaw11_VtreeSame.j0, if_pos rfl, a3]
    rfl
  | true =>
  cases b2 with
  | false =>
    refine ⟨k1 + k2 + k3 + 1, ?_⟩
    have a1 := g1 (k1 + k2 + k3 + 1) (by omega)
    have a2 := g2 (k1 + k2 + k3 + 1) (by omega)
    have a3 := g3 (k1 + k2 + k3) (by omega)
    dsimp only at a1 a2 a3
    rw [tendrillaw11_VtreeSame.f, a1, Option.bind_some, if_pos rfl, a2, Option.bind_some, tendrillaw11_VtreeSame.j0, if_pos (by decide), a3]
    rfl
  | true =>
  obtain ⟨n1, d1, e1, r1, c1, q1, i1⟩ := right x hx
  obtain ⟨n2, d2, e2, r2, c2, q2, i2⟩ := right y hy
  obtain ⟨sxy, hsxy, isxy⟩ := sameT_ev hx c1 c2
  obtain ⟨sxx, hsxx, isxx⟩ := sameT_ev hx c1 c1
  obtain ⟨nxy, _, hnxy, inxy⟩ := alk_T x hx y
  obtain ⟨nxx, _, hnxx, inxx⟩ := alk_T x hx x
  obtain rfl : nxx = true := inxx.2 rfl
  obtain ⟨cp1, cp2⟩ := copy_ev hx c1
  obtain ⟨k4, g4⟩ := q1
  obtain ⟨k5, g5⟩ := q2
  obtain ⟨k6, g6⟩ := hsxy
  obtain ⟨k7, g7⟩ := hnxy
  have main (c : ByteArray × ByteArray × ByteArray × List S42 × List S25 × Bool) (hc : Ev (fun k => vtree_Copy.f k x.f0 x.f1 x.f2 x.f3 x.f4) c) (hcr : c.2.2.2.2.2 = r1)
      (hj : Ev (fun k => tendrillaw11_VtreeSame.j1 k r1 false x.f0 x.f1 x.f2 x.f3 x.f4 c.1 c.2.1 c.2.2.1 c.2.2.2.1 c.2.2.2.2.1) true) : ∃ k, tendrillaw11_VtreeSame.f k x.f0 x.f1 x.f2 x.f3 x.f4 y.f0 y.f1 y.f2 y.f3 y.f4 = some true := by
    obtain ⟨k8, g8⟩ := hc
    obtain ⟨k9, g9⟩ := hj
    obtain ⟨K, hK⟩ : ∃ K, K = k1 + k2 + k3 + k4 + k5 + k6 + k7 + k8 + k9 := ⟨_, rfl⟩
    refine ⟨K + 1, ?_⟩
    have a1 := g1 (K + 1) (by omega)
    have a2 := g2 (K + 1) (by omega)
    have a4 := g4 K (by omega)
    have a5 := g5 K (by omega)
    have a6 := g6 K (by omega)
    have a7 := g7 K (by omega)
    have a8 := g8 K (by omega)
    have a9 := g9 K (by omega)
    dsimp only at a1 a2 a4 a5 a6 a7 a8 a9
    have hne : (c.2.2.2.2.2 != r1) = false := by rw [hcr]; simp
    rw [tendrillaw11_VtreeSame.f, a1, Option.bind_some, if_pos rfl, a2, Option.bind_some, tendrillaw11_VtreeSame.j0, if_neg (by decide), a4, Option.bind_some, a8, Option.bind_some, a6, Option.bind_some]
    by_cases z1 : r1 = true
    · rw [if_pos z1, a5, Option.bind_some]
      by_cases z2 : r2 = true
      · rw [if_pos z2, a7, Option.bind_some]
        have : sxy = nxy := by
          have : sxy = true ↔ nxy = true := by rw [isxy, inxy]; simp [i1.1 z1, i2.1 z2]
          cases sxy <;> cases nxy <;> simp_all
        rw [if_neg (by rw [this]; simp), hne]
        exact a9
      · have : sxy = false := by
          cases hs : sxy with
          | false => rfl
          | true => exact absurd (i2.2 (isxy.1 hs).2.1) z2
        rw [if_neg z2, if_neg (by rw [this]; simp), hne]
        exact a9
    · have : sxy = false := by
        cases hs : sxy with
        | false => rfl
        | true => exact absurd (i1.2 (isxy.1 hs).1) z1
      rw [if_neg z1, if_neg (by rw [this]; simp), hne]
      exact a9
  by_cases ce : e1 = 0
  · obtain rfl : r1 = true := i1.2 ce
    obtain rfl : sxx = true := isxx.2 ⟨ce, ce, rfl⟩
    refine main _ (cp1 ce) rfl ?_
    obtain ⟨k8, g8⟩ := hnxx
    obtain ⟨k9, g9⟩ := twin_ev x hx
    obtain ⟨k10, g10⟩ := l0_ev hx ⟨k8, g8⟩ hsxx x.f4.length (by omega) x.f0 x.f1 x.f2 x.f3 (by omega) x.f4.length 0 x.f4 rfl (by omega) (by omega)
    refine ⟨k8 + k9 + k10 + 1, fun k hk => ?_⟩
    obtain ⟨k, rfl⟩ : ∃ j, k = j + 1 := ⟨k - 1, by omega⟩
    have a8 := g8 k (by omega)
    have a9 := g9 k (by omega)
    have a10 := g10 k (by omega)
    dsimp only at a8 a9 a10
    show tendrillaw11_VtreeSame.j1 (k + 1) _ _ _ _ _ _ _ _ _ _ _ _ = _
    rw [tendrillaw11_VtreeSame.j1, if_neg (by decide), if_pos rfl, a8, Option.bind_some, if_pos rfl, a9, Option.bind_some]
    exact a10
  · obtain rfl : r1 = false := by cases r1 with | false => rfl | true => exact absurd (i1.1 rfl) ce
    obtain rfl : sxx = false := by cases sxx with | false => rfl | true => exact absurd (isxx.1 rfl).1 ce
    refine main _ (cp2 ce) rfl ?_
    obtain ⟨nz, _, hnz, inz⟩ := alk_T _ sm_zero ⟨⟨#[]⟩, ⟨#[]⟩, ⟨#[]⟩, [], []⟩
    obtain rfl : nz = true := inz.2 rfl
    obtain ⟨k8, g8⟩ := hnz
    obtain ⟨k9, g9⟩ := hsxx
    refine ⟨k8 + k9 + k3 + 1, fun k hk => ?_⟩
    obtain ⟨k, rfl⟩ : ∃ j, k = j + 1 := ⟨k - 1, by omega⟩
    have a8 := g8 k (by omega)
    have a9 := g9 k (by omega)
    have a3 := g3 k (by omega)
    dsimp only at a8 a9 a3
    show tendrillaw11_VtreeSame.j1 (k + 1) _ _ _ _ _ _ _ _ _ _ _ _ = _
    rw [tendrillaw11_VtreeSame.j1, if_neg (by decide), if_neg (by decide), a8, Option.bind_some, if_pos rfl, a9, Option.bind_some, if_neg (by decide), a3]
    rfl
end Go.Proofs.Ytafkgjnafddgbaa.Pure
