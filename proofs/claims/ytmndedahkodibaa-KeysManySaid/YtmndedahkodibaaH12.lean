/- The law KeysMany walked: it returns true. -/
import Derived.Test.YtmndedahkodibaaH11
namespace Go.Proofs.Ytmndedahkodibaa.G
open Go.RowKit Go.Proofs.YtmndedahkodibaaW.PrintWords Go.Proofs.YtmndedahkodibaaW.PrintLast Go.Proofs.YtmndedahkodibaaW.PrintMore
set_option linter.unusedVariables false
set_option linter.unusedSimpArgs false

theorem dec_calls (w : World) (i : Nat) (hi : i < 2100) : Calls Try.prog 10 #[.int .i64 (wrap64 ((i : Int) / 3))] w fun e w' => e = .returned (.string (decB (i / 3))) ∧ Below w.heap.size w w' := by
  have h1 : wrap64 ((i : Int) / 3) = ((i / 3 : Nat) : Int) := by unfold wrap64; omega
  rw [h1]
  exact tendrilref02_Decimal.calls 10 _ _ w (dec_f (i / 3) (by omega)).1 (by omega)
theorem kk_args (i : Nat) : (Value.agg #[.string (kk i).f0, .string (kk i).f1, .int .i64 (kk i).f2]) = .agg #[.string ⟨#[116]⟩, .string (decB (i / 3)), .int .i64 ((i : Int) % 3)] := by
  have : (((i % 3 : Nat) : Int)) = (i : Int) % 3 := by omega
  unfold kk
  dsimp only
  rw [this]
theorem put_kk (W : World) (base p n : Nat) (D : S28 → Option Int) (i : Nat) (hi : i < 2100) (hnb : n ≤ 1073741824) (hbase : base ≤ W.heap.size) (h : IX W base p n D) (hd : D (kk i) = none) :
    Calls Try.prog 9 #[.pointer (some ⟨p, 0, none⟩), .agg #[.string ⟨#[116]⟩, .string (decB (i / 3)), .int .i64 ((i : Int) % 3)], .int .i64 (i : Int)] W fun e w' => e = .returned (.bool true) ∧ Below base W w' ∧ IX w' base p (n + 1) (upd D (kk i) (some i)) := by
  have h := Index_Put W base p n D (kk i) i (kk_fit i hi) hnb hbase h
  unfold putD at h
  rw [hd, kk_args] at h
  exact h
theorem drop_kk (W : World) (base p n : Nat) (D : S28 → Option Int) (i : Nat) (v : Int) (hi : i < 2100) (hnb : n ≤ 1073741824) (hbase : base ≤ W.heap.size) (h : IX W base p n D) (hd : D (kk i) = some v) :
    Calls Try.prog 11 #[.pointer (some ⟨p, 0, none⟩), .agg #[.string ⟨#[116]⟩, .string (decB (i / 3)), .int .i64 ((i : Int) % 3)]] W fun e w' => e = .returned (.bool true) ∧ Below base W w' ∧ IX w' base p (n - 1) (upd D (kk i) none) := by
  have h := Index_Drop W base p n D (kk i) (kk_fit i hi) hnb hbase h
  rw [hd, kk_args] at h
  exact h
theorem get_kk (W : World) (base p n : Nat) (D : S28 → Option Int) (i : Nat) (hi : i < 2100) (h : IX W base p n D) (v : Int) (b : Bool) (hv : (D (kk i)).getD 0 = v) (hb : (D (kk i)).isSome = b) :
    Calls Try.prog 12 #[.pointer (some ⟨p, 0, none⟩), .agg #[.string ⟨#[116]⟩, .string (decB (i / 3)), .int .i64 ((i : Int) % 3)]] W fun e w' => e = .returned (.tuple #[.int .i64 v, .bool b]) ∧ Below W.heap.size W w' := by
  have h := Index_Get W base p n D (kk i) (kk_fit i hi) h
  rw [hv, hb, kk_args] at h
  exact h

set_option maxHeartbeats 4000000 in
set_option maxRecDepth 100000 in
theorem many_in (W : World) (n step : Nat) (hn : n ≤ 2000) (hs : 2 ≤ step ∧ step ≤ 50) : Calls Try.prog 3 #[.int .i64 (n : Int), .int .i64 (step : Int)] W fun e w' => e = .returned (.bool true) ∧ Below W.heap.size W w' := by
  have HN := Aside0.mk hn
  have HS := Aside0.mk hs
  have c0 : decide ((n : Int) < 0) = false := decide_eq_false (by omega)
  have c1 : decide ((2000 : Int) < (n : Int)) = false := decide_eq_false (by omega)
  have c2 : decide ((step : Int) < 2) = false := decide_eq_false (by omega)
  have c3 : decide ((50 : Int) < (step : Int)) = false := decide_eq_false (by omega)
  clear hn hs
  go_enter Try.func3, Try.ntmps3
  go_wp2_with (go_at_call 8; refine (New W 0).mono ?_; rintro e w1 ⟨p, rfl, hb, hi⟩; have B1 := Aside0.mk hb; have I1 := Aside0.mk hi; clear hb hi)
  clear c0 c1 c2 c3
  go_loopg [29] n (fun kq v29 w => ∃ i : Nat, v29 = .int .i64 (i : Int) ∧ Aside0 (i + kq = n) ∧ Aside0 (Below W.heap.size W w) ∧ Aside0 (IX w W.heap.size p i (putM i)))
  case atStart => exact ⟨0, rfl, ⟨by omega⟩, B1, I1⟩
  case round =>
  clear B1 I1
  obtain ⟨i, rfl, HI, HB, HX⟩ := hrel
  cases gk with
  | succ k1 =>
    have hlt : i < n := by have := HI.out; omega
    have HL := Aside0.mk hlt
    have hwi : Aside0 (wrap64 ((i : Int) + 1) = ((i + 1 : Nat) : Int)) := ⟨by have := HN.out; have := HL.out; unfold wrap64; omega⟩
    go_wp2_with (first | (go_at_call 10; refine (dec_calls wr i (by have := HN.out; have := HL.out; omega)).mono ?_; rintro e w2 ⟨rfl, hb⟩; have B2 := Aside0.mk hb; clear hb) | (go_at_call 9; refine (put_kk w2 W.heap.size p i (putM i) i (by have := HN.out; have := HL.out; omega) (by have := HN.out; have := HL.out; omega) (Nat.le_trans HB.out.size B2.out.size) (HX.out.below B2.out) (putM_no i i (Nat.le_refl i) (by have := HN.out; have := HL.out; omega))).mono ?_; rintro e w3 ⟨rfl, hb, hi⟩; have B3 := Aside0.mk hb; have I3 := Aside0.mk hi; clear hb hi))
    go_roundg k1
    case measure => omega
    case rel => exact ⟨i + 1, by rw [hwi.out], ⟨by have := HI.out; omega⟩, ⟨HB.out.trans ((B2.out.mono HB.out.size).trans B3.out)⟩, I3⟩
  | zero =>
    have hlt : ¬ i < n := by have := HI.out; omega
    go_wp2_with fail
    have hi : i = n := by have := HI.out; omega
    subst hi
    clear hlt
    have hs0 : ¬ step = 0 := by have := HS.out; omega
    go_loopg [7, 8] (i + 1) (fun kq v7 v8 w => ∃ q j : Nat, v7 = .int .i64 (q : Int) ∧ v8 = .int .i64 (j : Int) ∧ Aside0 (q + kq = i + 1 ∧ j = q * step ∧ (q = 0 ∨ (q - 1) * step < i)) ∧ Aside0 (Below W.heap.size W w) ∧ Aside0 (IX w W.heap.size p (i - q) (dropM i step q)))
    case atStart => exact ⟨0, 0, rfl, rfl, ⟨by omega, by omega, Or.inl rfl⟩, HB, ⟨HX.out⟩⟩
    case round =>
    clear HX HB
    obtain ⟨q, j, rfl, rfl, HQ, HB, HX⟩ := hrel
    have hq2 : Aside0 (2 * q ≤ j) := ⟨by rw [HQ.out.2.1, Nat.mul_comm]; exact Nat.mul_le_mul_left q HS.out.1⟩
    have hqi : Aside0 (q ≤ i) := ⟨by
      rcases HQ.out.2.2 with h | h
      · omega
      · have := Nat.mul_le_mul_left (q - 1) (Nat.le_trans (show 1 ≤ 2 by omega) HS.out.1)
        omega⟩
    have hqs : Aside0 ((q - 1) * step < 2100) := ⟨by
      rcases HQ.out.2.2 with h | h
      · rw [h]; simp
      · have := HN.out; omega⟩
    by_cases hlt : j < i
    · have HL := Aside0.mk hlt
      have hk : Aside0 (∃ k1, gk = k1 + 1) := ⟨by
        cases gk with
        | succ k => exact ⟨k, rfl⟩
        | zero => have := HQ.out.1; have := hq2.out; omega⟩
      have hwq : Aside0 (wrap64 ((q : Int) + 1) = ((q + 1 : Nat) : Int)) := ⟨by have := HN.out; have := HL.out; have := hq2.out; unfold wrap64; omega⟩
      have hwj : Aside0 (wrap64 ((j : Int) + (step : Int)) = ((j + step : Nat) : Int)) := ⟨by have := HN.out; have := HL.out; have := HS.out; unfold wrap64; omega⟩
      have DV := Aside0.mk (show dropM i step q (kk j) = some (j : Int) from by
        rw [dropM_of i step q j hqs.out HL.out (by have := HN.out; omega), if_neg]
        rintro ⟨r, h1, h2⟩
        have h3 := HQ.out.2.1
        rw [h3] at h2
        have := Nat.eq_of_mul_eq_mul_right (by have := HS.out; omega) h2
        omega)
      go_wp2_with (first | (go_at_call 10; refine (dec_calls wr j (by have := HN.out; have := HL.out; omega)).mono ?_; rintro e w2 ⟨rfl, hb⟩; have B2 := Aside0.mk hb; clear hb) | (go_at_call 11; refine (drop_kk w2 W.heap.size p (i - q) (dropM i step q) j j (by have := HN.out; have := HL.out; omega) (by have := HN.out; omega) (Nat.le_trans HB.out.size B2.out.size) (HX.out.below B2.out) DV.out).mono ?_; rintro e w3 ⟨rfl, hb, hi⟩; have B3 := Aside0.mk hb; have I3 := Aside0.mk hi; clear hb hi))
      obtain ⟨k1, hk1⟩ := hk.out
      go_roundg k1
      case measure => omega
      case rel =>
        refine ⟨q + 1, j + step, by rw [hwq.out], by rw [hwj.out], ⟨by have := HQ.out.1; omega, by rw [HQ.out.2.1, Nat.add_mul, Nat.one_mul], Or.inr ?_⟩, ⟨HB.out.trans ((B2.out.mono HB.out.size).trans B3.out)⟩, ⟨?_⟩⟩
        · rw [Nat.add_sub_cancel, ← HQ.out.2.1]
          exact HL.out
        · have h := I3.out
          rw [HQ.out.2.1] at h
          exact h
    · have HJ := Aside0.mk hlt
      go_wp2_with fail
      clear hlt
      go_loopg [61] i (fun kq v61 w => ∃ m : Nat, v61 = .int .i64 (m : Int) ∧ Aside0 (m + kq = i) ∧ Aside0 (Below W.heap.size W w) ∧ Aside0 (IX w W.heap.size p (i - q) (dropM i step q)))
      case atStart => exact ⟨0, rfl, ⟨by omega⟩, HB, HX⟩
      case round =>
      clear HX HB
      obtain ⟨m, rfl, HM, HB, HX⟩ := hrel
      cases gk with
      | succ k1 =>
        have hlt : m < i := by have := HM.out; omega
        have HL := Aside0.mk hlt
        have hwi : Aside0 (wrap64 ((m : Int) + 1) = ((m + 1 : Nat) : Int)) := ⟨by have := HN.out; have := HL.out; unfold wrap64; omega⟩
        have DV := Aside0.mk (dropM_of i step q m hqs.out HL.out (by have := HN.out; omega))
        have DI := Aside0.mk (show (∃ r, r < q ∧ m = r * step) ↔ m % step = 0 from by
          constructor
          · rintro ⟨r, _, rfl⟩
            exact Nat.mul_mod_left r step
          · intro h
            refine ⟨m / step, ?_, ?_⟩
            · rw [Nat.div_lt_iff_lt_mul (by have := HS.out; omega), ← HQ.out.2.1]
              have := HJ.out
              omega
            · exact (Nat.div_mul_cancel (Nat.dvd_of_mod_eq_zero h)).symm)
        by_cases hm : m % step = 0
        · have hmb : ((m : Int) % (step : Int) == 0) = true := by
            have : (m : Int) % (step : Int) = ((m % step : Nat) : Int) := by omega
            rw [this, hm]; rfl
          have DN := Aside0.mk (show dropM i step q (kk m) = none from by rw [DV.out, if_pos (DI.out.2 hm)])
          clear hm
          go_wp2_with (first | (go_at_call 10; refine (dec_calls wr m (by have := HN.out; have := HL.out; omega)).mono ?_; rintro e w2 ⟨rfl, hb⟩; have B2 := Aside0.mk hb; clear hb) | (go_at_call 12; refine (get_kk w2 W.heap.size p (i - q) (dropM i step q) m (by have := HN.out; have := HL.out; omega) (HX.out.below B2.out) 0 false (by rw [DN.out]; rfl) (by rw [DN.out]; rfl)).mono ?_; rintro e w3 ⟨rfl, hb⟩; have B3 := Aside0.mk hb; clear hb))
          go_roundg k1
          case measure => omega
          case rel => exact ⟨m + 1, by rw [hwi.out], ⟨by have := HM.out; omega⟩, ⟨HB.out.trans ((B2.out.mono HB.out.size).trans (B3.out.mono (Nat.le_trans HB.out.size B2.out.size)))⟩, ⟨(HX.out.below B2.out).below B3.out⟩⟩
        · have hmb : ((m : Int) % (step : Int) == 0) = false := by
            have : (m : Int) % (step : Int) = ((m % step : Nat) : Int) := by omega
            rw [this]; simp; omega
          have DN := Aside0.mk (show dropM i step q (kk m) = some (m : Int) from by rw [DV.out, if_neg (fun h => hm (DI.out.1 h))])
          clear hm
          go_wp2_with (first | (go_at_call 10; refine (dec_calls wr m (by have := HN.out; have := HL.out; omega)).mono ?_; rintro e w2 ⟨rfl, hb⟩; have B2 := Aside0.mk hb; clear hb) | (go_at_call 12; refine (get_kk w2 W.heap.size p (i - q) (dropM i step q) m (by have := HN.out; have := HL.out; omega) (HX.out.below B2.out) m true (by rw [DN.out]; rfl) (by rw [DN.out]; rfl)).mono ?_; rintro e w3 ⟨rfl, hb⟩; have B3 := Aside0.mk hb; clear hb))
          go_roundg k1
          case measure => omega
          case rel => exact ⟨m + 1, by rw [hwi.out], ⟨by have := HM.out; omega⟩, ⟨HB.out.trans ((B2.out.mono HB.out.size).trans (B3.out.mono (Nat.le_trans HB.out.size B2.out.size)))⟩, ⟨(HX.out.below B2.out).below B3.out⟩⟩
      | zero =>
        have hlt : ¬ m < i := by have := HM.out; omega
        have hwd : wrap64 ((i : Int) - (q : Int)) = ((i - q : Nat) : Int) := by have := hqi.out; have := HN.out; unfold wrap64; omega
        obtain ⟨u, hu⟩ : ∃ u, i - q = u := ⟨_, rfl⟩
        rw [hu] at hwd
        have HX := Aside0.mk (show IX wr W.heap.size p u (dropM i step q) from hu ▸ HX.out)
        clear hu
        go_wp2_with (first | (go_at_call 13; refine (Index_Len wr W.heap.size p u (dropM i step q) HX.out).mono ?_; rintro e w3 ⟨rfl, rfl⟩) | (go_at_call 7; refine (same _).mono ?_; rintro e w4 ⟨rfl, hb⟩; have B4 := Aside0.mk hb; clear hb))
        refine bodyPost_ret (results_tmp rfl _ _ _) rfl ?_
        exact ⟨rfl, HB.out.trans (B4.out.mono HB.out.size)⟩

set_option maxHeartbeats 4000000 in
set_option maxRecDepth 100000 in
theorem many_out (W : World) (n step : Int) (h : n < 0 ∨ 2000 < n ∨ step < 2 ∨ 50 < step) : Calls Try.prog 3 #[.int .i64 n, .int .i64 step] W fun e w' => e = .returned (.bool true) ∧ Below W.heap.size W w' := by
  by_cases h0 : n < 0
  · have c0 : decide (n < 0) = true := decide_eq_true h0
    clear h h0
    go_enter Try.func3, Try.ntmps3
    go_wp2_with (go_at_call 7; refine (same W).mono ?_; rintro e w4 ⟨rfl, hb⟩; have B4 := Aside0.mk hb; clear hb)
    refine bodyPost_ret (results_tmp rfl _ _ _) rfl ?_
    exact ⟨rfl, B4.out⟩
  have c0 : decide (n < 0) = false := decide_eq_false h0
  by_cases h1 : 2000 < n
  · have c1 : decide (2000 < n) = true := decide_eq_true h1
    clear h h0 h1
    go_enter Try.func3, Try.ntmps3
    go_wp2_with (go_at_call 7; refine (same W).mono ?_; rintro e w4 ⟨rfl, hb⟩; have B4 := Aside0.mk hb; clear hb)
    refine bodyPost_ret (results_tmp rfl _ _ _) rfl ?_
    exact ⟨rfl, B4.out⟩
  have c1 : decide (2000 < n) = false := decide_eq_false h1
  by_cases h2 : step < 2
  · have c2 : decide (step < 2) = true := decide_eq_true h2
    clear h h0 h1 h2
    go_enter Try.func3, Try.ntmps3
    go_wp2_with (go_at_call 7; refine (same W).mono ?_; rintro e w4 ⟨rfl, hb⟩; have B4 := Aside0.mk hb; clear hb)
    refine bodyPost_ret (results_tmp rfl _ _ _) rfl ?_
    exact ⟨rfl, B4.out⟩
  have c2 : decide (step < 2) = false := decide_eq_false h2
  have h3 : 50 < step := by omega
  have c3 : decide (50 < step) = true := decide_eq_true h3
  clear h h0 h1 h2 h3
  go_enter Try.func3, Try.ntmps3
  go_wp2_with (go_at_call 7; refine (same W).mono ?_; rintro e w4 ⟨rfl, hb⟩; have B4 := Aside0.mk hb; clear hb)
  refine bodyPost_ret (results_tmp rfl _ _ _) rfl ?_
  exact ⟨rfl, B4.out⟩
/-- The law KeysMany. -/
def tendrillaw07_KeysMany.f (a0 a1 : Int) : Option Bool := some true
theorem tendrillaw07_KeysMany.calls (a0 a1 : Int) (r : Bool) (w : World) (h : tendrillaw07_KeysMany.f a0 a1 = some r) : Calls Try.prog 3 #[.int .i64 a0, .int .i64 a1] w fun e w' => e = .returned (.bool r) ∧ Below w.heap.size w w' := by
  obtain rfl := Option.some.inj h
  by_cases hq : a0 < 0 ∨ 2000 < a0 ∨ a1 < 2 ∨ 50 < a1
  · exact many_out w a0 a1 hq
  · obtain ⟨n, rfl⟩ : ∃ n : Nat, a0 = (n : Int) := ⟨a0.toNat, by omega⟩
    obtain ⟨s, rfl⟩ : ∃ s : Nat, a1 = (s : Int) := ⟨a1.toNat, by omega⟩
    exact many_in w n s (by omega) (by omega)
end Go.Proofs.Ytmndedahkodibaa.G
