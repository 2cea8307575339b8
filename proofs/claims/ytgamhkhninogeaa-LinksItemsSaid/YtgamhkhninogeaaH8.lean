/- Whether each link of a pool has its answer (links.Pool.Sound), walked. -/
import Derived.Test.YtgamhkhninogeaaH7
namespace Go.Proofs.Ytgamhkhninogeaa.G
open Go.RowKit Go.Proofs.YtgamhkhninogeaaW.PrintWords Go.Proofs.YtgamhkhninogeaaW.PrintLast Go.Proofs.YtgamhkhninogeaaW.PrintMore
set_option linter.unusedVariables false
set_option linter.unusedSimpArgs false

/-- The kids of x from here on, behind a: each has x above it and the one ahead of it; x has the last one. -/
def Sib (F : FF) (x : Int) : Int → List Int → Prop
  | a, [] => F x 3 = a
  | a, b :: l => F b 1 = x ∧ F b 4 = a ∧ Sib F x b l
/-- Two pointers that are one, compared. -/
theorem neq_pv (bs : List Nat) (a : Int) (W : World) : (binOp .neq 47 (pv bs a) (pv bs a)).run Try.prog W = .ok (.bool false) W := by
  by_cases h : a < 0
  · rw [pv_neg bs h, run_neq_pointer_nil W 47 none (by kernel_rfl)]
    rfl
  · rw [pv_pos bs h]; exact neq_same _ W
theorem eql_pv (bs : List Nat) (a : Int) (W : World) : (binOp .eql 47 (pv bs a) (pv bs a)).run Try.prog W = .ok (.bool true) W := by
  by_cases h : a < 0
  · rw [pv_neg bs h, run_eql_pointer_nil W 47 none (by kernel_rfl)]
    rfl
  · rw [pv_pos bs h]; exact eql_same _ W

set_option maxHeartbeats 4000000 in
set_option maxRecDepth 100000 in
theorem answered (W : World) (base : Nat) (bs : List Nat) (F : FF) (h : GW W base bs F) (x most : Int) (hx0 : 0 ≤ x) (hx : x < bs.length) (l : List Int) (hl : Ch F 5 (F x 2) l) (hs : Sib F x (-1) l) (hm : (l.length : Int) ≤ most) (hm2 : most ≤ 1000000) :
    Calls Try.prog 30 #[pv bs x, .int .i64 most] W fun e w' => e = .returned (.bool true) ∧ w' = W := by
  have HG := Aside0.mk h
  have HX := Aside0.mk (And.intro hx0 hx)
  have HC := Aside0.mk (And.intro hl (And.intro hs (And.intro hm hm2)))
  rw [pv_pos bs (show ¬ x < 0 by omega)]
  have PN := Aside0.mk (pv_neg bs (show (-1 : Int) < 0 by decide))
  obtain ⟨o, ho⟩ : ∃ o, pv bs (F x 2) = .pointer o := ⟨_, rfl⟩
  have e2 := h.cell x hx0 hx 2 (by decide)
  rw [ho] at e2
  have HO := Aside0.mk ho
  clear h hx0 hx hl hs hm hm2 ho
  go_enter Try.func30, Try.ntmps30
  go_wp2_with fail
  clear e2
  go_loopg [1, 5, 6] l.length (fun kq v1 v5 v6 w => ∃ (mo a m : Int) (l2 : List Int), v1 = .int .i64 mo ∧ Aside0 (v5 = pv bs a) ∧ Aside0 (v6 = pv bs m) ∧ Aside0 (m < bs.length ∧ Ch F 5 m l2 ∧ Sib F x a l2 ∧ (l2.length : Int) ≤ mo ∧ mo ≤ 1000000 ∧ kq = l2.length) ∧ w = W)
  case atStart => exact ⟨most, -1, F x 2, l, rfl, ⟨PN.out.symm⟩, ⟨HO.out.symm⟩, ⟨HG.out.rng x 2 HX.out.1 HX.out.2, HC.out.1, HC.out.2.1, HC.out.2.2.1, HC.out.2.2.2, rfl⟩, rfl⟩
  case round =>
  clear HO HC PN
  obtain ⟨v, hv⟩ : ∃ v, u6 = v := ⟨_, rfl⟩
  subst hv
  obtain ⟨v, hv⟩ : ∃ v, u5 = v := ⟨_, rfl⟩
  subst hv
  obtain ⟨mo, a, m, l2, rfl, HA, HM, HL, rfl⟩ := hrel
  obtain ⟨o5, ho5⟩ : ∃ o, pv bs a = .pointer o := ⟨_, rfl⟩
  have hu5 : u5 = .pointer o5 := by rw [HA.out, ho5]
  subst hu5
  have HO5 := Aside0.mk ho5
  cases l2 with
  | nil =>
    have hu : u6 = .pointer none := by rw [HM.out, pv_neg bs HL.out.2.1]
    subst hu
    have e3 := HG.out.cell x HX.out.1 HX.out.2 3 (by decide)
    have hs : F x 3 = a := HL.out.2.2.1
    rw [hs, ho5] at e3
    have q1 := eql_pv bs a wr
    rw [ho5] at q1
    clear ho5 hs
    go_wp2_with fail
    refine bodyPost_ret (results_tmp rfl _ _ _) rfl ?_
    exact ⟨rfl, rfl⟩
  | cons b l3 =>
    have hc := HL.out.2.1
    have hs := HL.out.2.2.1
    obtain ⟨rfl, ha0, hc2⟩ := hc
    obtain ⟨s1, s4, hs2⟩ := hs
    have hu : u6 = ptr (blq bs m) := by rw [HM.out, pv_pos bs (by omega)]
    subst hu
    have HB := Aside0.mk (And.intro ha0 (And.intro hc2 hs2))
    have e1 := HG.out.cell m ha0 HL.out.1 1 (by decide)
    rw [s1, pv_pos bs (show ¬ x < 0 by have := HX.out.1; omega)] at e1
    have e4 := HG.out.cell m ha0 HL.out.1 4 (by decide)
    rw [s4, ho5] at e4
    obtain ⟨o6, ho6⟩ : ∃ o, pv bs (F m 5) = .pointer o := ⟨_, rfl⟩
    have e5 := HG.out.cell m ha0 HL.out.1 5 (by decide)
    rw [ho6] at e5
    have HO6 := Aside0.mk ho6
    have q1 := neq_same (blq bs x) wr
    have q2 := neq_pv bs a wr
    rw [ho5] at q2
    have PM := Aside0.mk (pv_pos bs (show ¬ m < 0 by omega))
    have hlen : (l3.length : Int) + 1 ≤ mo := by have := HL.out.2.2.2.1; simp at this; omega
    have hw1 : wrap64 (mo - 1) = mo - 1 := by have := HL.out.2.2.2.2.1; unfold wrap64; omega
    have HW := Aside0.mk (And.intro hw1 hlen)
    have n1 : decide (mo - 1 < 0) = false := decide_eq_false (by omega)
    have n2 : decide (wrap64 (mo - 1) < 0) = false := by rw [hw1]; exact n1
    clear ho5 ho6 ha0 hc2 hs2 s1 s4 hlen hw1
    cases gk with
    | zero => exact absurd HL.out.2.2.2.2.2 (by simp)
    | succ k1 =>
      go_wp2_with fail
      go_roundg k1
      case measure => omega
      case rel =>
        refine ⟨mo - 1, m, F m 5, l3, by rw [HW.out.1], ⟨PM.out.symm⟩, ⟨HO6.out.symm⟩, ⟨HG.out.rng m 5 HB.out.1 HL.out.1, HB.out.2.1, HB.out.2.2, ?_, ?_, ?_⟩, rfl⟩
        · have := HW.out.2; omega
        · have := HL.out.2.2.2.2.1; omega
        · have := HL.out.2.2.2.2.2
          simp at this
          omega
theorem Sound_nil (W : World) : Calls Try.prog 13 #[.pointer none] W fun e w' => e = .returned (.bool true) ∧ w' = W := by
  go_enter Try.func13, Try.ntmps13
  go_wp2_with fail
  go_step3
  go_wp2_with fail
  (try simp only [Exit.noGoto, Exit.inBlock, Exit.then]); refine bodyPost_ret (results_tmp rfl _ _ _) rfl ?_
  exact ⟨rfl, rfl⟩
set_option maxHeartbeats 4000000 in
set_option maxRecDepth 100000 in
theorem Sound (W : World) (base p : Nat) (bs : List Nat) (F : FF) (h : PW W base p bs F) (hn : bs.length ≤ 4096) (hok : ∀ x, inP bs.length x → ∃ l, Ch F 5 (F x 2) l ∧ Sib F x (-1) l ∧ l.length ≤ bs.length) (hup : ∀ x, inP bs.length x → ∃ l, Ch F 1 (F x 1) l ∧ l.length < bs.length) :
    Calls Try.prog 13 #[ptr p] W fun e w' => e = .returned (.bool true) ∧ w' = W := by
  have HP := Aside0.mk h
  have HN := Aside0.mk hn
  have HK := Aside0.mk (And.intro hok hup)
  by_cases hz : bs.length = 0
  · obtain ⟨A, c, hc⟩ := h.sl
    rw [hz] at hc
    clear h hn hok hup hz
    go_enter Try.func13, Try.ntmps13
    go_wp2_with fail
    go_step3
    go_wp2_with fail
    go_step3
    go_wp2_with fail
    go_loopg [13] 0 (fun kq v13 w => v13 = .int .i64 0 ∧ w = W)
    case atStart => exact ⟨rfl, rfl⟩
    case round =>
    obtain ⟨rfl, rfl⟩ := hrel
    go_wp2_with fail
    (try simp only [Exit.noGoto, Exit.inBlock, Exit.then]); refine bodyPost_ret (results_tmp rfl _ _ _) rfl ?_
    exact ⟨rfl, rfl⟩
  obtain ⟨g, cap, hp0, hit⟩ := h.items (by omega)
  have HIT := Aside0.mk hit
  clear h hn hok hup hz hit
  go_enter Try.func13, Try.ntmps13
  go_wp2_with fail
  go_step3
  go_wp2_with fail
  go_step3
  go_wp2_with fail
  go_loopg [4, 5, 13] bs.length (fun kq v4 v5 v13 w => ∃ i : Nat, v13 = .int .i64 (i : Int) ∧ Aside0 (i + kq = bs.length) ∧ w = W)
  case atStart => exact ⟨0, rfl, ⟨by omega⟩, rfl⟩
  case round =>
  obtain ⟨i, rfl, HI, rfl⟩ := hrel
  cases gk with
  | zero =>
    have hlt : ¬ i < bs.length := by have := HI.out; omega
    go_wp2_with fail
    (try simp only [Exit.noGoto, Exit.inBlock, Exit.then]); refine bodyPost_ret (results_tmp rfl _ _ _) rfl ?_
    exact ⟨rfl, rfl⟩
  | succ k1 =>
    have hlt : i < bs.length := by have := HI.out; omega
    have HX := Aside0.mk (show inP bs.length (i : Int) from ⟨by omega, by omega⟩)
    have c1 : wr.cell? ⟨g, i, none⟩ = some (ptr (blq bs (i : Int))) := by have := HIT.out i HX.out; rwa [Int.toNat_natCast] at this
    have PX := Aside0.mk (pv_pos bs (show ¬ (i : Int) < 0 by omega))
    have HA := Aside0.mk (show Calls Try.prog 30 #[ptr (blq bs (i : Int)), .int .i64 (bs.length : Int)] wr fun e w' => e = .returned (.bool true) ∧ w' = wr from by
      obtain ⟨l, q1, q2, q3⟩ := HK.out.1 i HX.out
      have := answered wr base bs F HP.out.gw i bs.length HX.out.1 HX.out.2 l q1 q2 (by omega) (by have := HN.out; omega)
      rwa [PX.out] at this)
    have hwi : Aside0 (wrap64 ((i : Int) + 1) = ((i + 1 : Nat) : Int)) := ⟨by have := HN.out; have := HI.out; unfold wrap64; omega⟩
    go_wp2_with (go_at_call 30; refine HA.out.mono ?_; rintro e w9 ⟨rfl, hw⟩; rw [hw]; clear hw w9)
    clear hlt c1
    go_loopg [5, 31] bs.length (fun kq v5 v31 w => ∃ (j : Nat) (m : Int) (l2 : List Int), v31 = .int .i64 (j : Int) ∧ v5 = ptr (blq bs m) ∧ Aside0 (0 ≤ m ∧ m < bs.length ∧ Ch F 1 (F m 1) l2 ∧ l2.length + j < bs.length ∧ j + kq = bs.length) ∧ w = wr)
    case atStart =>
      obtain ⟨l, q1, q2⟩ := HK.out.2 i HX.out
      exact ⟨0, i, l, rfl, rfl, ⟨HX.out.1, HX.out.2, q1, by omega, by omega⟩, rfl⟩
    case round =>
    obtain ⟨j, m, l2, rfl, rfl, HL, rfl⟩ := hrel
    have hj : j < bs.length := by have := HL.out.2.2.2.1; omega
    cases l2 with
    | nil =>
      have e1 := HP.out.gw.cell m HL.out.1 HL.out.2.1 1 (by decide)
      rw [pv_neg bs HL.out.2.2.1] at e1
      go_wp2_with fail
      go_roundg k1
      case measure => omega
      case rel => exact ⟨i + 1, by rw [hwi.out], ⟨by have := HI.out; omega⟩, rfl⟩
    | cons b l3 =>
      obtain ⟨q1, q2, q3⟩ := HL.out.2.2.1
      have e1 := HP.out.gw.cell m HL.out.1 HL.out.2.1 1 (by decide)
      rw [q1, pv_pos bs (show ¬ b < 0 by omega)] at e1
      have HB := Aside0.mk (show 0 ≤ b ∧ b < bs.length ∧ Ch F 1 (F b 1) l3 from ⟨q2, q1 ▸ HP.out.gw.rng m 1 HL.out.1 HL.out.2.1, q3⟩)
      have hwj : Aside0 (wrap64 ((j : Int) + 1) = ((j + 1 : Nat) : Int)) := ⟨by have := HN.out; have := HL.out.2.2.2.1; unfold wrap64; omega⟩
      clear q1 q2 q3
      cases gk with
      | zero => exact absurd hj (by have := HL.out.2.2.2.2; omega)
      | succ k2 =>
        go_wp2_with fail
        go_roundg k2
        case measure => omega
        case rel =>
          refine ⟨j + 1, b, l3, by rw [hwj.out], rfl, ⟨HB.out.1, HB.out.2.1, HB.out.2.2, ?_, ?_⟩, rfl⟩
          · have := HL.out.2.2.2.1
            simp at this
            omega
          · have := HL.out.2.2.2.2; omega
end Go.Proofs.Ytgamhkhninogeaa.G
