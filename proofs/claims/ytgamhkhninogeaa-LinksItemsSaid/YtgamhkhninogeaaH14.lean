/- The law LinksUndo walked: it returns true. -/
import Derived.Test.YtgamhkhninogeaaH13
namespace Go.Proofs.Ytgamhkhninogeaa.G
open Go.RowKit Go.Proofs.YtgamhkhninogeaaW.PrintWords Go.Proofs.YtgamhkhninogeaaW.PrintLast Go.Proofs.YtgamhkhninogeaaW.PrintMore
open Go.Proofs.Ytgamhkhninogeaa.Pure (LR Ur Kr ChT SibT place_ref drop_ref new_ref PCase DCase Placed Dropped freeR)
set_option linter.unusedVariables false
set_option linter.unusedSimpArgs false

theorem PSx.next_place {W w : World} {p : Nat} {bs : List Nat} {v : Value} {r : List S65} (h : PSx W w p bs v r r) (x up b : Int) : ∃ r' c k, tendrilref19_Place.f k r x up b = some (r', c) ∧ PCase r x up b r' c := by
  obtain ⟨F, _, hL⟩ := h.pw
  obtain ⟨r', c, ⟨k, hk⟩, hc⟩ := place_ref r F hL (by rw [h.len]; have := h.small; omega) x up b
  exact ⟨r', c, k, hk, hc⟩
theorem PSx.next_drop {W w : World} {p : Nat} {bs : List Nat} {v : Value} {r : List S65} (h : PSx W w p bs v r r) (x : Int) : ∃ r' c k, tendrilref19_Drop.f k r x = some (r', c) ∧ DCase r x r' c := by
  obtain ⟨F, _, hL⟩ := h.pw
  obtain ⟨r', c, ⟨k, hk⟩, hc⟩ := drop_ref r F hL (by rw [h.len]; have := h.small; omega) x
  exact ⟨r', c, k, hk, hc⟩
theorem place_box {W w : World} {p : Nat} {bs : List Nat} {v : Value} {r rp : List S65} (h : PSx W w p bs v r rp) (x up b : Int) (r' : List S65) (c : Int) (hc : PCase rp x up b r' c) {g : Nat} {o : Obj} (hg : w.heap[g]? = some o) (hn : g ∉ bs) :
    Calls Try.prog 9 #[ptr p, .int .i64 x, .int .i64 up, .int .i64 b] w fun e w' => e = .returned (.int .i64 c) ∧ PSx W w' p bs v r r' ∧ w'.heap[g]? = some o := by
  obtain ⟨F, hP, hL⟩ := h.pw
  refine (PPlace_step w W.heap.size p bs F rp hP hL h.lenp x up b r' c hc).mono ?_
  rintro e w' ⟨he, F', hP', hL', hk⟩
  exact ⟨he, h.kq hk ⟨F', hP', hL'⟩ ((PCase.len hc).trans h.lenp), (hk.block g (blk_lt hg) hn).trans hg⟩
theorem drop_box {W w : World} {p : Nat} {bs : List Nat} {v : Value} {r rp : List S65} (h : PSx W w p bs v r rp) (x : Int) (r' : List S65) (c : Int) (hc : DCase rp x r' c) {g : Nat} {o : Obj} (hg : w.heap[g]? = some o) (hn : g ∉ bs) :
    Calls Try.prog 10 #[ptr p, .int .i64 x] w fun e w' => e = .returned (.int .i64 c) ∧ PSx W w' p bs v r r' ∧ w'.heap[g]? = some o := by
  obtain ⟨F, hP, hL⟩ := h.pw
  have hlen : r'.length = rp.length := DCase.len hc (fun A B u q => q.1) (fun h0 h1 hx => List.append_of_mem ((hL.st.kid (Ur rp x) x h0 h1).2 ⟨hx.1, hx.2, rfl⟩))
  refine (PDrop_step w W.heap.size p bs F rp hP hL h.lenp x r' c hc).mono ?_
  rintro e w' ⟨he, F', hP', hL', hk⟩
  exact ⟨he, h.kq hk ⟨F', hP', hL'⟩ (hlen.trans h.lenp), (hk.block g (blk_lt hg) hn).trans hg⟩
theorem refNew (w : World) (n : Nat) (hn : n ≤ 4096) : Calls Try.prog 14 #[.int .i64 (n : Int)] w fun e w' => ∃ v, e = .returned v ∧ Kd.S k65 65 w' w.heap.size (fun _ => True) v (freeR n) ∧ Below w.heap.size w w' := by
  obtain ⟨k, hk⟩ := (new_ref n (by omega)).ex
  exact tendrilref19_New.calls k n (freeR n) w hk
theorem act39 {w : World} {A : Option Addr} {xs : List S39} (h : Kd.C k39 w A xs.length xs) (i : Nat) (hi : i < xs.length) : ∃ ad, A = some ad ∧ w.cell? (ad.add (i * 4)) = some (.bool (rd_T39 xs (i : Int)).f0) ∧ w.cell? ⟨(ad.add (i * 4)).block, (ad.add (i * 4)).off + 1, none⟩ = some (.int .i64 (rd_T39 xs (i : Int)).f1) ∧ w.cell? ⟨(ad.add (i * 4)).block, (ad.add (i * 4)).off + 2, none⟩ = some (.int .i64 (rd_T39 xs (i : Int)).f2) ∧ w.cell? ⟨(ad.add (i * 4)).block, (ad.add (i * 4)).off + 3, none⟩ = some (.int .i64 (rd_T39 xs (i : Int)).f3) := by
  obtain ⟨ad, h1, h2, h3, h4, h5⟩ := at_T39 h (i : Int) (by omega) (by omega)
  rw [Int.toNat_natCast] at h2 h3 h4 h5
  exact ⟨ad, h1, h2, h3, h4, h5⟩

set_option maxHeartbeats 4000000 in
set_option maxRecDepth 100000 in
theorem undo_in (W0 : World) (n : Nat) (A : Option Addr) (c : Nat) (l : List S39) (o : Bool) (lx lu lb : Int) (hn : n ≤ 60) (hC : Kd.C k39 W0 A l.length l) (hl : l.length ≤ 80) :
    Calls Try.prog 4 #[.int .i64 (n : Int), .slice A l.length c, .agg #[.bool o, .int .i64 lx, .int .i64 lu, .int .i64 lb]] W0 fun e w' => e = .returned (.bool true) ∧ Below W0.heap.size W0 w' := by
  have HC := Aside0.mk hC
  have HN := Aside0.mk hn
  have HL := Aside0.mk hl
  have n0 : decide ((n : Int) < 0) = false := decide_eq_false (by omega)
  have n1 : decide ((60 : Int) < (n : Int)) = false := decide_eq_false (by omega)
  have n2 : decide ((80 : Int) < (l.length : Int)) = false := decide_eq_false (by omega)
  clear hC hn hl
  go_enter Try.func4, Try.ntmps4
  go_upto_region 3 with fail
  clear n0 n1 n2
  obtain ⟨b5, hb5⟩ : ∃ g, W0.heap.size = g := ⟨_, rfl⟩
  obtain ⟨w0, hw0⟩ : ∃ w0, W0.alloc (.cells #[.bool o, .int .i64 lx, .int .i64 lu, .int .i64 lb] 39) = w0 := ⟨_, rfl⟩
  rw [hw0, hb5]
  have B0 := Aside0.mk (show Below W0.heap.size W0 w0 from hw0 ▸ below_alloc (Below.refl _ W0) _)
  have X0 := Aside0.mk (show w0.heap[b5]? = some (.cells #[.bool o, .int .i64 lx, .int .i64 lu, .int .i64 lb] 39 (0, 0)) from by rw [← hw0, ← hb5]; exact heap_alloc_new W0 _)
  clear hw0 hb5
  go_upto_region 5 with (first | (go_at_call 7; refine (New w0 n (by have := HN.out; omega)).mono ?_; rintro e w1 ⟨p, bs, rfl, hl, hb, hp⟩; have HLn := Aside0.mk hl; have B1 := Aside0.mk hb; have P1 := Aside0.mk hp; clear hl hb hp) | (go_at_call 14; refine (refNew w1 n (by have := HN.out; omega)).mono ?_; rintro e w2 ⟨v8, rfl, hS, hb⟩; have S2 := Aside0.mk (PSx.start (by have := HN.out; omega) HLn.out B1.out P1.out hS hb); clear hS hb))
  clear P1 B1
  go_wp2_with fail
  go_loopg [8, 33] l.length (fun kq v8 v33 w => ∃ (i : Nat) (r : List S65), v33 = .int .i64 (i : Int) ∧ Aside0 (i + kq = l.length) ∧ Aside0 (PSx w0 w p bs v8 r r))
  case atStart => exact ⟨0, _, rfl, ⟨by omega⟩, S2⟩
  case round =>
  clear S2
  obtain ⟨v, hv⟩ : ∃ v, u8 = v := ⟨_, rfl⟩
  subst hv
  obtain ⟨i, r, rfl, HI, HS⟩ := hrel
  cases gk with
  | zero =>
    have hlt : ¬ i < l.length := by have := HI.out; omega
    have X := blk_below X0.out HS.out.b
    have y1 : wr.cell? ⟨b5, 1, none⟩ = some (.int .i64 lx) := (blk_cell X 1).trans rfl
    have y2 : wr.cell? ⟨b5, 2, none⟩ = some (.int .i64 lu) := (blk_cell X 2).trans rfl
    have y3 : wr.cell? ⟨b5, 3, none⟩ = some (.int .i64 lb) := (blk_cell X 3).trans rfl
    obtain ⟨r', cc, kk, hk, hc⟩ := HS.out.next_place lx lu lb
    have HCs := Aside0.mk hc
    have HK := Aside0.mk hk
    clear X hk hc
    by_cases hz : cc = 0
    · have HZ := Aside0.mk hz
      have z1 : (cc == 0) = true := by simp [hz]
      have z2 : (cc != 0) = false := by simp [hz]
      clear hz
      go_upto_region 19 with (go_at_call 9; refine (HS.out.place lx lu lb r' cc HCs.out).mono ?_; rintro e w3 ⟨rfl, hS⟩; have S3 := Aside0.mk hS; clear hS y1 y2 y3)
      clear z1 z2
      have X := blk_below X0.out S3.out.b
      have y1 : w3.cell? ⟨b5, 1, none⟩ = some (.int .i64 lx) := (blk_cell X 1).trans rfl
      clear X
      go_wp2_with (first | (go_at_call 10; refine (S3.out.undo (by obtain ⟨F, _, hL⟩ := HS.out.pw; exact ⟨F, hL⟩) lx lu lb cc HZ.out HCs.out).mono ?_; rintro e w4 ⟨rfl, hS⟩; have S4 := Aside0.mk hS; clear hS y1) | (go_at_call 17; refine (S4.out.all).mono ?_; rintro e w5 ⟨rfl, hb⟩; have B5 := Aside0.mk hb; clear hb) | (go_at_call 6; refine (same _).mono ?_; rintro e w6 ⟨rfl, hb⟩; have B6 := Aside0.mk hb; clear hb))
      refine bodyPost_ret (results_tmp rfl _ _ _) rfl ?_
      have h1 := B0.out.trans (S4.out.b.mono B0.out.size)
      have h2 := h1.trans (B5.out.mono h1.size)
      exact ⟨rfl, h2.trans (B6.out.mono h2.size)⟩
    · have HZ := Aside0.mk hz
      have z1 : (cc == 0) = false := by simp [hz]
      have z2 : (cc != 0) = true := by simp [hz]
      have hrr : r' = r := by
        have q := HCs.out
        cases q with
        | none _ => rfl
        | held _ _ _ _ => rfl
        | cycle _ _ _ _ _ _ _ _ => rfl
        | at_ _ _ _ _ _ _ _ _ _ => rfl
        | ok _ _ _ _ _ _ _ _ _ _ _ _ _ _ => exact absurd rfl hz
      subst hrr
      clear hz
      go_wp2_with (first | (go_at_call 9; refine (HS.out.place lx lu lb _ cc HCs.out).mono ?_; rintro e w3 ⟨rfl, hS⟩; have S4 := Aside0.mk hS; clear hS y1 y2 y3) | (go_at_call 17; refine (S4.out.all).mono ?_; rintro e w5 ⟨rfl, hb⟩; have B5 := Aside0.mk hb; clear hb) | (go_at_call 6; refine (same _).mono ?_; rintro e w6 ⟨rfl, hb⟩; have B6 := Aside0.mk hb; clear hb))
      refine bodyPost_ret (results_tmp rfl _ _ _) rfl ?_
      have h1 := B0.out.trans (S4.out.b.mono B0.out.size)
      have h2 := h1.trans (B5.out.mono h1.size)
      exact ⟨rfl, h2.trans (B6.out.mono h2.size)⟩
  | succ k1 =>
    have hlt : i < l.length := by have := HI.out; omega
    have HIL := Aside0.mk hlt
    obtain ⟨x, hx⟩ : ∃ x, rd_T39 l (i : Int) = x := ⟨_, rfl⟩
    obtain ⟨ad, rfl, t0, t1, t2, t3⟩ := act39 (Kd.C_below HC.out (B0.out.trans (HS.out.b.mono B0.out.size))) i hlt
    rw [hx] at t0 t1 t2 t3
    have hwi : Aside0 (wrap64 ((i : Int) + 1) = ((i + 1 : Nat) : Int)) := ⟨by have := HL.out; have := HIL.out; unfold wrap64; omega⟩
    clear hx
    go_upto_region 9 with fail
    obtain ⟨b10, hb10⟩ : ∃ g, wr.heap.size = g := ⟨_, rfl⟩
    obtain ⟨w1', hw1⟩ : ∃ w1', wr.alloc (.cells #[.bool x.f0, .int .i64 x.f1, .int .i64 x.f2, .int .i64 x.f3] 39) = w1' := ⟨_, rfl⟩
    rw [hw1, hb10]
    have X1 := Aside0.mk (show w1'.heap[b10]? = some (.cells #[.bool x.f0, .int .i64 x.f1, .int .i64 x.f2, .int .i64 x.f3] 39 (0, 0)) from by rw [← hw1, ← hb10]; exact heap_alloc_new wr _)
    have S1 := Aside0.mk (show PSx w0 w1' p bs u8 r r from hw1 ▸ HS.out.below (below_alloc (Below.refl _ wr) _))
    have y0 : w1'.cell? ⟨b10, 0, none⟩ = some (.bool x.f0) := (blk_cell X1.out 0).trans rfl
    have y1 : w1'.cell? ⟨b10, 1, none⟩ = some (.int .i64 x.f1) := (blk_cell X1.out 1).trans rfl
    have y2 : w1'.cell? ⟨b10, 2, none⟩ = some (.int .i64 x.f2) := (blk_cell X1.out 2).trans rfl
    have y3 : w1'.cell? ⟨b10, 3, none⟩ = some (.int .i64 x.f3) := (blk_cell X1.out 3).trans rfl
    have HBk := Aside0.mk (show b10 ∉ bs ∧ w0.heap.size ≤ b10 from by
      obtain ⟨F, hP, _⟩ := S1.out.pw
      exact ⟨hP.gw.not_mem X1.out (by decide), hb10 ▸ HS.out.b.size⟩)
    clear t0 t1 t2 t3 hw1 hb10
    cases hf : x.f0 with
    | true =>
      rw [hf] at y0
      obtain ⟨r', cc, kk, hk, hc⟩ := S1.out.next_drop x.f1
      have HCs := Aside0.mk hc
      have HK := Aside0.mk hk
      clear hk hc
      go_upto_region 11 with (go_at_call 10; refine (drop_box S1.out x.f1 r' cc HCs.out X1.out HBk.out.1).mono ?_; rintro e w3 ⟨rfl, hS, hX⟩; have S3 := Aside0.mk hS; have X3 := Aside0.mk hX; clear hS hX y0 y1 y2 y3)
      have y1 : w3.cell? ⟨b10, 1, none⟩ = some (.int .i64 x.f1) := (blk_cell X3.out 1).trans rfl
      go_wp2_with (go_at_call 15; refine (S3.out.rdrop x.f1 cc kk HK.out).mono ?_; rintro e w4 ⟨v', rfl, hS⟩; have S4 := Aside0.mk hS; clear hS y1)
      go_roundg k1
      case measure => omega
      case rel => exact ⟨i + 1, r', by rw [hwi.out], ⟨by have := HI.out; omega⟩, S4⟩
    | false =>
      rw [hf] at y0
      obtain ⟨r', cc, kk, hk, hc⟩ := S1.out.next_place x.f1 x.f2 x.f3
      have HCs := Aside0.mk hc
      have HK := Aside0.mk hk
      clear hk hc
      go_upto_region 14 with (go_at_call 9; refine (place_box S1.out x.f1 x.f2 x.f3 r' cc HCs.out X1.out HBk.out.1).mono ?_; rintro e w3 ⟨rfl, hS, hX⟩; have S3 := Aside0.mk hS; have X3 := Aside0.mk hX; clear hS hX y0 y1 y2 y3)
      have y1 : w3.cell? ⟨b10, 1, none⟩ = some (.int .i64 x.f1) := (blk_cell X3.out 1).trans rfl
      have y2 : w3.cell? ⟨b10, 2, none⟩ = some (.int .i64 x.f2) := (blk_cell X3.out 2).trans rfl
      have y3 : w3.cell? ⟨b10, 3, none⟩ = some (.int .i64 x.f3) := (blk_cell X3.out 3).trans rfl
      go_wp2_with (go_at_call 16; refine (S3.out.rplace x.f1 x.f2 x.f3 cc kk HK.out).mono ?_; rintro e w4 ⟨v', rfl, hS⟩; have S4 := Aside0.mk hS; clear hS y1 y2 y3)
      go_roundg k1
      case measure => omega
      case rel => exact ⟨i + 1, r', by rw [hwi.out], ⟨by have := HI.out; omega⟩, S4⟩
set_option maxHeartbeats 4000000 in
set_option maxRecDepth 100000 in
theorem undo_out (W0 : World) (n : Int) (A : Option Addr) (c : Nat) (l : List S39) (o : Bool) (lx lu lb : Int) (h : n < 0 ∨ 60 < n ∨ 80 < l.length) :
    Calls Try.prog 4 #[.int .i64 n, .slice A l.length c, .agg #[.bool o, .int .i64 lx, .int .i64 lu, .int .i64 lb]] W0 fun e w' => e = .returned (.bool true) ∧ Below W0.heap.size W0 w' := by
  by_cases h0 : n < 0
  · have c0 : decide (n < 0) = true := decide_eq_true h0
    clear h h0
    go_enter Try.func4, Try.ntmps4
    go_wp2_with (go_at_call 6; refine (same _).mono ?_; rintro e w6 ⟨rfl, hb⟩; have B6 := Aside0.mk hb; clear hb)
    refine bodyPost_ret (results_tmp rfl _ _ _) rfl ?_
    exact ⟨rfl, (below_alloc (Below.refl _ W0) _).trans (B6.out.mono (below_alloc (Below.refl W0.heap.size W0) _).size)⟩
  have c0 : decide (n < 0) = false := decide_eq_false h0
  by_cases h1 : 60 < n
  · have c1 : decide (60 < n) = true := decide_eq_true h1
    clear h h0 h1
    go_enter Try.func4, Try.ntmps4
    go_wp2_with (go_at_call 6; refine (same _).mono ?_; rintro e w6 ⟨rfl, hb⟩; have B6 := Aside0.mk hb; clear hb)
    refine bodyPost_ret (results_tmp rfl _ _ _) rfl ?_
    exact ⟨rfl, (below_alloc (Below.refl _ W0) _).trans (B6.out.mono (below_alloc (Below.refl W0.heap.size W0) _).size)⟩
  have c1 : decide (60 < n) = false := decide_eq_false h1
  have c2 : decide ((80 : Int) < (l.length : Int)) = true := decide_eq_true (by omega)
  clear h h0 h1
  go_enter Try.func4, Try.ntmps4
  go_wp2_with (go_at_call 6; refine (same _).mono ?_; rintro e w6 ⟨rfl, hb⟩; have B6 := Aside0.mk hb; clear hb)
  refine bodyPost_ret (results_tmp rfl _ _ _) rfl ?_
  exact ⟨rfl, (below_alloc (Below.refl _ W0) _).trans (B6.out.mono (below_alloc (Below.refl W0.heap.size W0) _).size)⟩
/-- The law LinksUndo. -/
def tendrillaw19_LinksUndo.f (a0 : Int) (l1 : List S39) (a2_0 : Bool) (a2_1 a2_2 a2_3 : Int) : Option Bool := some true
theorem tendrillaw19_LinksUndo.calls (a0 : Int) (A1 : Option Addr) (c1 : Nat) (l1 : List (S39)) (a2_0 : Bool) (a2_1 a2_2 a2_3 : Int) (r : Bool) (w : World) (hr1 : Kd.C k39 w A1 l1.length l1) (hc1 : l1.length ≤ c1) (h : tendrillaw19_LinksUndo.f a0 l1 a2_0 a2_1 a2_2 a2_3 = some r) :
    Calls Try.prog 4 #[.int .i64 a0, .slice A1 l1.length c1, .agg #[.bool a2_0, .int .i64 a2_1, .int .i64 a2_2, .int .i64 a2_3]] w fun e w' => e = .returned (.bool r) ∧ Below w.heap.size w w' := by
  obtain rfl := Option.some.inj h
  by_cases hq : a0 < 0 ∨ 60 < a0 ∨ 80 < l1.length
  · exact undo_out w a0 A1 c1 l1 a2_0 a2_1 a2_2 a2_3 hq
  · obtain ⟨n, rfl⟩ : ∃ n : Nat, a0 = (n : Int) := ⟨a0.toNat, by omega⟩
    exact undo_in w n A1 c1 l1 a2_0 a2_1 a2_2 a2_3 (by omega) hr1 (by omega)
end Go.Proofs.Ytgamhkhninogeaa.G
