/- keys.Of walked: an index of labels, with their first places. -/
import Derived.Test.YtmndedahkodibaaH7
namespace Go.Proofs.Ytmndedahkodibaa.G
open Go.RowKit Go.Proofs.YtmndedahkodibaaW.PrintWords Go.Proofs.YtmndedahkodibaaW.PrintLast Go.Proofs.YtmndedahkodibaaW.PrintMore
set_option linter.unusedVariables false
set_option linter.unusedSimpArgs false

/-- The map of the first i labels, and how many there are. -/
noncomputable def ofM (xs : List S28) : Nat → S28 → Option Int
  | 0 => fun _ => none
  | i + 1 => putD (ofM xs i) (rd_T28 xs i) i
noncomputable def ofN (xs : List S28) : Nat → Nat
  | 0 => 0
  | i + 1 => if (ofM xs i (rd_T28 xs i)).isNone then ofN xs i + 1 else ofN xs i
theorem ofN_le (xs : List S28) : ∀ i, ofN xs i ≤ i := by
  intro i
  induction i with
  | zero => exact Nat.le_refl _
  | succ i ih =>
    unfold ofN
    split <;> omega

set_option maxHeartbeats 4000000 in
set_option maxRecDepth 100000 in
theorem Of (W : World) (A : Option Addr) (c : Nat) (xs : List S28) (hC : Kd.C k28 W A xs.length xs) (hfit : ∀ i : Nat, i < xs.length → Fit (rd_T28 xs i)) (hn : xs.length ≤ 1073741824) :
    Calls Try.prog 17 #[.slice A xs.length c] W fun e w' => ∃ p, e = .returned (.pointer (some ⟨p, 0, none⟩)) ∧ Below W.heap.size W w' ∧ IX w' W.heap.size p (ofN xs xs.length) (ofM xs xs.length) := by
  have HC := Aside0.mk hC
  have HF := Aside0.mk hfit
  have HN := Aside0.mk hn
  clear hC hfit hn
  go_enter Try.func17, Try.ntmps17
  go_wp2_with (go_at_call 8; refine (New W _).mono ?_; rintro e w1 ⟨p, rfl, hb, hi⟩; have B1 := Aside0.mk hb; have I1 := Aside0.mk hi; clear hb hi)
  go_loopg [11] xs.length (fun kq v11 w => ∃ i : Nat, v11 = .int .i64 (i : Int) ∧ Aside0 (i + kq = xs.length) ∧ Aside0 (Below W.heap.size W w) ∧ Aside0 (IX w W.heap.size p (ofN xs i) (ofM xs i)))
  case atStart => exact ⟨0, rfl, ⟨by omega⟩, B1, I1⟩
  case round =>
  clear B1 I1
  obtain ⟨i, rfl, HI, HB, HX⟩ := hrel
  cases gk with
  | zero =>
    have hlt2 : ¬ i < xs.length := by have := HI.out; omega
    go_wp2_with fail
    refine bodyPost_ret (results_tmp rfl _ _ _) rfl ?_
    have hi : i = xs.length := by have := HI.out; omega
    have hx := HX.out
    rw [hi] at hx
    exact ⟨p, rfl, HB.out, hx⟩
  | succ k1 =>
    have hlt : i < xs.length := by have := HI.out; omega
    have HL := Aside0.mk hlt
    obtain ⟨ad, rfl, t0, t1, t2⟩ := at_T28 (Kd.C_below HC.out HB.out) i (by omega) (by omega)
    obtain ⟨x, hx⟩ : ∃ x, rd_T28 xs i = x := ⟨_, rfl⟩
    rw [hx] at t0 t1 t2
    rw [Int.toNat_natCast] at t0 t1 t2
    have HXX := Aside0.mk hx
    have hwi : Aside0 (wrap64 ((i : Int) + 1) = ((i + 1 : Nat) : Int)) := ⟨by have := HN.out; have := HL.out; unfold wrap64; omega⟩
    have HP := Aside0.mk (fun (w : World) (hb : Below wr.heap.size wr w) => Index_Put w W.heap.size p (ofN xs i) (ofM xs i) x i (by rw [← HXX.out]; exact HF.out i HL.out) (by have := ofN_le xs i; have := HL.out; have := HN.out; omega) (Nat.le_trans HB.out.size hb.size) (HX.out.below hb))
    clear hx
    go_wp2_with (go_at_call 9; refine (HP.out _ (below_alloc (Below.refl _ wr) _)).mono ?_; rintro e w' ⟨rfl, hb, hi⟩; have B2 := Aside0.mk (HB.out.trans ((below_alloc (Below.refl _ wr) (.cells #[.string x.f0, .string x.f1, .int .i64 x.f2] 28)).mono HB.out.size |>.trans hb)); have I2 := Aside0.mk hi; clear hb hi)
    go_roundg k1
    case measure => omega
    case rel =>
      refine ⟨i + 1, by rw [hwi.out], ⟨by have := HI.out; omega⟩, B2, ⟨?_⟩⟩
      have := I2.out
      rw [← HXX.out] at this
      exact this
end Go.Proofs.Ytmndedahkodibaa.G
