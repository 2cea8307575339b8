/- An item placed below another one, walked (links.Item.Place). -/
import Derived.Test.YtgamhkhninogeaaH1
namespace Go.Proofs.Ytgamhkhninogeaa.G
open Go.RowKit Go.Proofs.YtgamhkhninogeaaW.PrintWords Go.Proofs.YtgamhkhninogeaaW.PrintLast Go.Proofs.YtgamhkhninogeaaW.PrintMore
set_option linter.unusedVariables false
set_option linter.unusedSimpArgs false

/-- The links behind y's being placed below x, ahead of b (below 0: behind all). -/
def place1 (F : FF) (x y b : Int) : FF := setF (setF F y 1 x) y 5 b
def place2 (F : FF) (x y b : Int) : FF := if b < 0 then setF (setF F y 4 (F x 3)) x 3 y else setF (setF F y 4 (F b 4)) b 4 y
def place3 (F : FF) (x y : Int) : FF := if F y 4 < 0 then setF F x 2 y else setF F (F y 4) 5 y
def placeF (F : FF) (x y b : Int) : FF := place3 (place2 (place1 F x y b) x y b) x y

set_option maxHeartbeats 4000000 in
set_option maxRecDepth 100000 in
theorem Place_ok (W : World) (base : Nat) (bs : List Nat) (F : FF) (h : GW W base bs F) (k : Nat) (x y b : Int) (hx0 : 0 ≤ x) (hx : x < bs.length) (hy0 : 0 ≤ y) (hy : y < bs.length) (hb : b < bs.length) (hf : fin F k x)
    (hup : F y 1 < 0) (hun : und F k x y = false) (hbx : ¬ b < 0 → F b 1 = x) :
    Calls Try.prog 21 #[pv bs x, pv bs y, pv bs b] W fun e w' => e = .returned (.int .i64 0) ∧ GW w' base bs (placeF F x y b) ∧ Kq W w' bs := by
  have HG := Aside0.mk h
  have HX := Aside0.mk (And.intro hx0 hx)
  have HBL := Aside0.mk hb
  have HY := Aside0.mk (And.intro hy0 hy)
  have HU := Aside0.mk (Under W base bs F h k x y hx hy0 hy hf false hun)
  rw [pv_pos bs (show ¬ x < 0 by omega), pv_pos bs (show ¬ y < 0 by omega)] at *
  have PX := Aside0.mk (pv_pos bs (show ¬ x < 0 by omega))
  have PY := Aside0.mk (pv_pos bs (show ¬ y < 0 by omega))
  have c1 := h.cell y hy0 hy 1 (by decide)
  rw [pv_neg bs hup] at c1
  obtain ⟨v5, hv5⟩ : ∃ o, pv bs (F y 5) = .pointer o := ⟨_, rfl⟩
  have c5 := h.cell y hy0 hy 5 (by decide)
  rw [hv5] at c5
  clear hv5
  have z1 := h.frozen y hy0 hy 1
  have z5 := h.frozen y hy0 hy 5
  by_cases hb0 : b < 0
  · have HBN := Aside0.mk hb0
    have PB := Aside0.mk (pv_neg bs hb0)
    rw [pv_neg bs hb0]
    clear h hx0 hx hy0 hy hf hup hun hbx hb hb0
    go_enter Try.func21, Try.ntmps21
    go_upto_region 9 with (go_at_call 25; refine HU.out.mono ?_; rintro e w9 ⟨rfl, hw⟩; rw [hw]; clear hw w9 HU)

    go_upto_region 11 with fail
    obtain ⟨W1, hW1⟩ : ∃ W1, ((W.setCell ⟨blq bs y, 1, none⟩ (.pointer (some ⟨blq bs x, 0, none⟩))).setCell ⟨blq bs y, 5, none⟩ (.pointer none)) = W1 := ⟨_, rfl⟩
    rw [hW1]
    have G1 := Aside0.mk (show GW W1 base bs (place1 F x y b) from hW1 ▸ ((HG.out.set y HY.out.1 HY.out.2 1 (by decide) x HX.out.2 _ PX.out).set y HY.out.1 HY.out.2 5 (by decide) b HBL.out _ PB.out))
    have K1 := Aside0.mk (show Kq W W1 bs from hW1 ▸ ((Kq.set y HY.out.1 HY.out.2 1 _).trans (Kq.set y HY.out.1 HY.out.2 5 _)))
    clear hW1
    clear c1 c5 z1 z5
    obtain ⟨F1, hF1⟩ : ∃ F1, place1 F x y b = F1 := ⟨_, rfl⟩
    rw [hF1] at G1
    have HF1 := Aside0.mk hF1
    clear hF1
    obtain ⟨v3, hv3⟩ : ∃ o, pv bs (F1 x 3) = .pointer o := ⟨_, rfl⟩
    obtain ⟨v4, hv4⟩ : ∃ o, pv bs (F1 y 4) = .pointer o := ⟨_, rfl⟩
    have c3 := G1.out.cell x HX.out.1 HX.out.2 3 (by decide)
    have c4 := G1.out.cell y HY.out.1 HY.out.2 4 (by decide)
    rw [hv3] at c3
    rw [hv4] at c4
    have z4 := G1.out.frozen y HY.out.1 HY.out.2 4
    have HV3 := Aside0.mk hv3
    clear hv3 hv4
    go_upto_region 12 with fail
    obtain ⟨W2, hW2⟩ : ∃ W2, (W1.setCell ⟨blq bs y, 4, none⟩ (.pointer v3)) = W2 := ⟨_, rfl⟩
    rw [hW2]
    have G2 := Aside0.mk (show GW W2 base bs (setF F1 y 4 (F1 x 3)) from hW2 ▸ (G1.out.set y HY.out.1 HY.out.2 4 (by decide) (F1 x 3) (G1.out.rng x 3 HX.out.1 HX.out.2) _ HV3.out))
    have K2 := Aside0.mk (show Kq W W2 bs from hW2 ▸ K1.out.trans (Kq.set y HY.out.1 HY.out.2 4 _))
    clear hW2
    clear c3 c4 z4
    obtain ⟨v3', hv3⟩ : ∃ o, pv bs (setF F1 y 4 (F1 x 3) x 3) = .pointer o := ⟨_, rfl⟩
    have c3 := G2.out.cell x HX.out.1 HX.out.2 3 (by decide)
    rw [hv3] at c3
    have z3 := G2.out.frozen x HX.out.1 HX.out.2 3
    clear hv3
    go_upto_region 15 with fail
    obtain ⟨W3, hW3⟩ : ∃ W3, (W2.setCell ⟨blq bs x, 3, none⟩ (.pointer (some ⟨blq bs y, 0, none⟩))) = W3 := ⟨_, rfl⟩
    rw [hW3]
    have G3 := Aside0.mk (show GW W3 base bs (setF (setF F1 y 4 (F1 x 3)) x 3 y) from hW3 ▸ (G2.out.set x HX.out.1 HX.out.2 3 (by decide) y HY.out.2 _ PY.out))
    have K3 := Aside0.mk (show Kq W W3 bs from hW3 ▸ K2.out.trans (Kq.set x HX.out.1 HX.out.2 3 _))
    clear hW3
    clear c3 z3
    have G3 := Aside0.mk (show GW W3 base bs (place2 (place1 F x y b) x y b) from by
      unfold place2
      rw [HF1.out, if_pos HBN.out]
      exact G3.out)
    obtain ⟨F2, hF2⟩ : ∃ F2, place2 (place1 F x y b) x y b = F2 := ⟨_, rfl⟩
    rw [hF2] at G3
    have HF2 := Aside0.mk hF2
    clear hF2
    by_cases hp : F2 y 4 < 0
    · have c4 := G3.out.cell y HY.out.1 HY.out.2 4 (by decide)
      rw [pv_neg bs hp] at c4
      obtain ⟨v2, hv2⟩ : ∃ o, pv bs (F2 x 2) = .pointer o := ⟨_, rfl⟩
      have c2 := G3.out.cell x HX.out.1 HX.out.2 2 (by decide)
      rw [hv2] at c2
      have z2 := G3.out.frozen x HX.out.1 HX.out.2 2
      have HP := Aside0.mk hp
      clear hp hv2
      go_wp2_with fail
      refine bodyPost_ret (results_tmp rfl _ _ _) rfl ?_
      refine ⟨rfl, ?_, K3.out.trans (Kq.set x HX.out.1 HX.out.2 2 _)⟩
      have e : placeF F x y b = setF F2 x 2 y := by
        unfold placeF place3
        rw [HF2.out, if_pos HP.out]
      rw [e]
      exact G3.out.set x HX.out.1 HX.out.2 2 (by decide) y HY.out.2 _ PY.out
    · obtain ⟨m, hm⟩ : ∃ m, F2 y 4 = m := ⟨_, rfl⟩
      rw [hm] at hp
      have HM := Aside0.mk hm
      have HMr := Aside0.mk (show 0 ≤ m ∧ m < bs.length from ⟨by omega, hm ▸ G3.out.rng y 4 HY.out.1 HY.out.2⟩)
      have c4 := G3.out.cell y HY.out.1 HY.out.2 4 (by decide)
      rw [hm, pv_pos bs hp] at c4
      obtain ⟨v2, hv2⟩ : ∃ o, pv bs (F2 m 5) = .pointer o := ⟨_, rfl⟩
      have c2 := G3.out.cell m HMr.out.1 HMr.out.2 5 (by decide)
      rw [hv2] at c2
      have z2 := G3.out.frozen m HMr.out.1 HMr.out.2 5
      have HP := Aside0.mk hp
      clear hp hv2 hm
      go_wp2_with fail
      refine bodyPost_ret (results_tmp rfl _ _ _) rfl ?_
      refine ⟨rfl, ?_, K3.out.trans (Kq.set m HMr.out.1 HMr.out.2 5 _)⟩
      have e : placeF F x y b = setF F2 m 5 y := by
        unfold placeF place3
        rw [HF2.out, HM.out, if_neg (by have := HP.out; omega)]
      rw [e]
      exact G3.out.set m HMr.out.1 HMr.out.2 5 (by decide) y HY.out.2 _ PY.out
  · have HBN := Aside0.mk hb0
    have PB := Aside0.mk (pv_pos bs hb0)
    have HBB := Aside0.mk (show 0 ≤ b ∧ b < bs.length from ⟨by omega, hb⟩)
    rw [pv_pos bs hb0]
    have e0 := hbx hb0
    have cb := h.cell b HBB.out.1 HBB.out.2 1 (by decide)
    rw [e0, pv_pos bs (show ¬ x < 0 by omega)] at cb
    have q1 := neq_same (blq bs x) W
    clear h hx0 hx hy0 hy hf hup hun hbx hb hb0 e0
    go_enter Try.func21, Try.ntmps21
    go_upto_region 9 with (go_at_call 25; refine HU.out.mono ?_; rintro e w9 ⟨rfl, hw⟩; rw [hw]; clear hw w9 HU)
    go_upto_region 13 with fail
    obtain ⟨W1, hW1⟩ : ∃ W1, ((W.setCell ⟨blq bs y, 1, none⟩ (.pointer (some ⟨blq bs x, 0, none⟩))).setCell ⟨blq bs y, 5, none⟩ (.pointer (some ⟨blq bs b, 0, none⟩))) = W1 := ⟨_, rfl⟩
    rw [hW1]
    have G1 := Aside0.mk (show GW W1 base bs (place1 F x y b) from hW1 ▸ ((HG.out.set y HY.out.1 HY.out.2 1 (by decide) x HX.out.2 _ PX.out).set y HY.out.1 HY.out.2 5 (by decide) b HBL.out _ PB.out))
    have K1 := Aside0.mk (show Kq W W1 bs from hW1 ▸ ((Kq.set y HY.out.1 HY.out.2 1 _).trans (Kq.set y HY.out.1 HY.out.2 5 _)))
    clear hW1
    clear c1 c5 z1 z5 cb q1
    obtain ⟨F1, hF1⟩ : ∃ F1, place1 F x y b = F1 := ⟨_, rfl⟩
    rw [hF1] at G1
    have HF1 := Aside0.mk hF1
    clear hF1
    obtain ⟨v3, hv3⟩ : ∃ o, pv bs (F1 b 4) = .pointer o := ⟨_, rfl⟩
    obtain ⟨v4, hv4⟩ : ∃ o, pv bs (F1 y 4) = .pointer o := ⟨_, rfl⟩
    have c3 := G1.out.cell b HBB.out.1 HBB.out.2 4 (by decide)
    have c4 := G1.out.cell y HY.out.1 HY.out.2 4 (by decide)
    rw [hv3] at c3
    rw [hv4] at c4
    have z4 := G1.out.frozen y HY.out.1 HY.out.2 4
    have HV3 := Aside0.mk hv3
    clear hv3 hv4
    go_upto_region 14 with fail
    obtain ⟨W2, hW2⟩ : ∃ W2, (W1.setCell ⟨blq bs y, 4, none⟩ (.pointer v3)) = W2 := ⟨_, rfl⟩
    rw [hW2]
    have G2 := Aside0.mk (show GW W2 base bs (setF F1 y 4 (F1 b 4)) from hW2 ▸ (G1.out.set y HY.out.1 HY.out.2 4 (by decide) (F1 b 4) (G1.out.rng b 4 HBB.out.1 HBB.out.2) _ HV3.out))
    have K2 := Aside0.mk (show Kq W W2 bs from hW2 ▸ K1.out.trans (Kq.set y HY.out.1 HY.out.2 4 _))
    clear hW2
    clear c3 c4 z4
    obtain ⟨v3', hv3⟩ : ∃ o, pv bs (setF F1 y 4 (F1 b 4) b 4) = .pointer o := ⟨_, rfl⟩
    have c3 := G2.out.cell b HBB.out.1 HBB.out.2 4 (by decide)
    rw [hv3] at c3
    have z3 := G2.out.frozen b HBB.out.1 HBB.out.2 4
    clear hv3
    go_upto_region 15 with fail
    obtain ⟨W3, hW3⟩ : ∃ W3, (W2.setCell ⟨blq bs b, 4, none⟩ (.pointer (some ⟨blq bs y, 0, none⟩))) = W3 := ⟨_, rfl⟩
    rw [hW3]
    have G3 := Aside0.mk (show GW W3 base bs (setF (setF F1 y 4 (F1 b 4)) b 4 y) from hW3 ▸ (G2.out.set b HBB.out.1 HBB.out.2 4 (by decide) y HY.out.2 _ PY.out))
    have K3 := Aside0.mk (show Kq W W3 bs from hW3 ▸ K2.out.trans (Kq.set b HBB.out.1 HBB.out.2 4 _))
    clear hW3
    clear c3 z3
    have G3 := Aside0.mk (show GW W3 base bs (place2 (place1 F x y b) x y b) from by
      unfold place2
      rw [HF1.out, if_neg (by have := HBN.out; omega)]
      exact G3.out)
    obtain ⟨F2, hF2⟩ : ∃ F2, place2 (place1 F x y b) x y b = F2 := ⟨_, rfl⟩
    rw [hF2] at G3
    have HF2 := Aside0.mk hF2
    clear hF2
    by_cases hp : F2 y 4 < 0
    · have c4 := G3.out.cell y HY.out.1 HY.out.2 4 (by decide)
      rw [pv_neg bs hp] at c4
      obtain ⟨v2, hv2⟩ : ∃ o, pv bs (F2 x 2) = .pointer o := ⟨_, rfl⟩
      have c2 := G3.out.cell x HX.out.1 HX.out.2 2 (by decide)
      rw [hv2] at c2
      have z2 := G3.out.frozen x HX.out.1 HX.out.2 2
      have HP := Aside0.mk hp
      clear hp hv2
      go_wp2_with fail
      refine bodyPost_ret (results_tmp rfl _ _ _) rfl ?_
      refine ⟨rfl, ?_, K3.out.trans (Kq.set x HX.out.1 HX.out.2 2 _)⟩
      have e : placeF F x y b = setF F2 x 2 y := by
        unfold placeF place3
        rw [HF2.out, if_pos HP.out]
      rw [e]
      exact G3.out.set x HX.out.1 HX.out.2 2 (by decide) y HY.out.2 _ PY.out
    · obtain ⟨m, hm⟩ : ∃ m, F2 y 4 = m := ⟨_, rfl⟩
      rw [hm] at hp
      have HM := Aside0.mk hm
      have HMr := Aside0.mk (show 0 ≤ m ∧ m < bs.length from ⟨by omega, hm ▸ G3.out.rng y 4 HY.out.1 HY.out.2⟩)
      have c4 := G3.out.cell y HY.out.1 HY.out.2 4 (by decide)
      rw [hm, pv_pos bs hp] at c4
      obtain ⟨v2, hv2⟩ : ∃ o, pv bs (F2 m 5) = .pointer o := ⟨_, rfl⟩
      have c2 := G3.out.cell m HMr.out.1 HMr.out.2 5 (by decide)
      rw [hv2] at c2
      have z2 := G3.out.frozen m HMr.out.1 HMr.out.2 5
      have HP := Aside0.mk hp
      clear hp hv2 hm
      go_wp2_with fail
      refine bodyPost_ret (results_tmp rfl _ _ _) rfl ?_
      refine ⟨rfl, ?_, K3.out.trans (Kq.set m HMr.out.1 HMr.out.2 5 _)⟩
      have e : placeF F x y b = setF F2 m 5 y := by
        unfold placeF place3
        rw [HF2.out, HM.out, if_neg (by have := HP.out; omega)]
      rw [e]
      exact G3.out.set m HMr.out.1 HMr.out.2 5 (by decide) y HY.out.2 _ PY.out
end Go.Proofs.Ytgamhkhninogeaa.G
