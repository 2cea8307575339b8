/- The law LinksPlay walked: it returns true. -/
import Derived.Test.YtgamhkhninogeaaH14
namespace Go.Proofs.Ytgamhkhninogeaa.G
open Go.RowKit Go.Proofs.YtgamhkhninogeaaW.PrintWords Go.Proofs.YtgamhkhninogeaaW.PrintLast Go.Proofs.YtgamhkhninogeaaW.PrintMore
open Go.Proofs.Ytgamhkhninogeaa.Pure (LR Ur Kr ChT SibT place_ref drop_ref new_ref PCase DCase Placed Dropped freeR)
set_option linter.unusedVariables false
set_option linter.unusedSimpArgs false

theorem New_nil (W : World) (n : Int) (h : n < 0 ∨ 4096 < n) : Calls Try.prog 7 #[.int .i64 n] W fun e w' => e = .returned (.pointer none) ∧ w' = W := by
  by_cases h0 : n < 0
  · have c0 : decide (n < 0) = true := decide_eq_true h0
    clear h h0
    go_enter Try.func7, Try.ntmps7
    go_wp2_with fail
    refine bodyPost_ret (results_tmp rfl _ _ _) rfl ?_
    exact ⟨rfl, rfl⟩
  · have c0 : decide (n < 0) = false := decide_eq_false h0
    have c1 : decide (4096 < n) = true := decide_eq_true (by omega)
    clear h h0
    go_enter Try.func7, Try.ntmps7
    go_wp2_with fail
    refine bodyPost_ret (results_tmp rfl _ _ _) rfl ?_
    exact ⟨rfl, rfl⟩
theorem PSx.len_place {W w : World} {p : Nat} {bs : List Nat} {v : Value} {r rp : List S65} (h : PSx W w p bs v r rp) {x up b : Int} {r' : List S65} {c : Int} (hc : PCase rp x up b r' c) : r'.length = bs.length := (PCase.len hc).trans h.lenp
theorem PSx.len_drop {W w : World} {p : Nat} {bs : List Nat} {v : Value} {r rp : List S65} (h : PSx W w p bs v r rp) {x : Int} {r' : List S65} {c : Int} (hc : DCase rp x r' c) : r'.length = bs.length := by
  obtain ⟨F, hP, hL⟩ := h.pw
  exact (DCase.len hc (fun A B u q => q.1) (fun h0 h1 hx => List.append_of_mem ((hL.st.kid (Ur rp x) x h0 h1).2 ⟨hx.1, hx.2, rfl⟩))).trans h.lenp
/-- The document's own list goes first; the pool still stands as before. -/
theorem PSx.rplace1 {W w : World} {p : Nat} {bs : List Nat} {v : Value} {r : List S65} (h : PSx W w p bs v r r) (x up b : Int) (r' : List S65) (c : Int) (k : Nat) (hl : r'.length = bs.length) (hk : tendrilref19_Place.f k r x up b = some (r', c)) :
    Calls Try.prog 16 #[v, .int .i64 x, .int .i64 up, .int .i64 b] w fun e w' => ∃ v', e = .returned (.tuple #[v', .int .i64 c]) ∧ PSx W w' p bs v' r' r ∧ Below w.heap.size w w' := by
  obtain ⟨F, hP, hL⟩ := h.pw
  obtain ⟨A, c0, rfl⟩ := Kd.V_slice h.rv
  refine (tendrilref19_Place.calls k (fun k => k ∉ bs) A c0 r x up b r' c w h.rv hk).mono ?_
  rintro e w' ⟨v', he, hv, hb⟩
  refine ⟨v', he, ⟨h.b.trans (hb.mono h.b.size), ⟨F, hP.below hb, hL⟩, hl, h.lenp, h.small, Kd.V_mono hv (fun k q => ?_)⟩, hb⟩
  rcases q with q | q
  · exact q
  · intro hm; have := bs_lt hP hm; omega
theorem PSx.rdrop1 {W w : World} {p : Nat} {bs : List Nat} {v : Value} {r : List S65} (h : PSx W w p bs v r r) (x : Int) (r' : List S65) (c : Int) (k : Nat) (hl : r'.length = bs.length) (hk : tendrilref19_Drop.f k r x = some (r', c)) :
    Calls Try.prog 15 #[v, .int .i64 x] w fun e w' => ∃ v', e = .returned (.tuple #[v', .int .i64 c]) ∧ PSx W w' p bs v' r' r ∧ Below w.heap.size w w' := by
  obtain ⟨F, hP, hL⟩ := h.pw
  obtain ⟨A, c0, rfl⟩ := Kd.V_slice h.rv
  refine (tendrilref19_Drop.calls k (fun k => k ∉ bs) A c0 r x r' c w h.rv hk).mono ?_
  rintro e w' ⟨v', he, hv, hb⟩
  refine ⟨v', he, ⟨h.b.trans (hb.mono h.b.size), ⟨F, hP.below hb, hL⟩, hl, h.lenp, h.small, Kd.V_mono hv (fun k q => ?_)⟩, hb⟩
  rcases q with q | q
  · exact q
  · intro hm; have := bs_lt hP hm; omega
theorem PSx.links_no {W w : World} {p : Nat} {bs : List Nat} {v : Value} {r rp : List S65} (h : PSx W w p bs v r rp) (x : Int) (hx : ¬ inP bs.length x) : Calls Try.prog 8 #[ptr p, .int .i64 x] w fun e w' => e = .returned (.tuple #[.agg #[.int .i64 0, .int .i64 0, .int .i64 0, .int .i64 0, .int .i64 0], .bool false]) ∧ Below w.heap.size w w' := by
  obtain ⟨F, hP, hL⟩ := h.pw
  exact Links_no w x W.heap.size p bs F hP hx
theorem PSx.kids_no {W w : World} {p : Nat} {bs : List Nat} {v : Value} {r rp : List S65} (h : PSx W w p bs v r rp) (x : Int) (hx : ¬ inP bs.length x) : Calls Try.prog 11 #[ptr p, .int .i64 x] w fun e w' => e = .returned (.slice none 0 0) ∧ w' = w := by
  obtain ⟨F, hP, hL⟩ := h.pw
  exact Kids_no w x _ (has w W.heap.size p bs F hP x false (hasB_false hx)) _ rfl
theorem PSx.level_no {W w : World} {p : Nat} {bs : List Nat} {v : Value} {r rp : List S65} (h : PSx W w p bs v r rp) (x : Int) (hx : ¬ inP bs.length x) : Calls Try.prog 12 #[ptr p, .int .i64 x] w fun e w' => e = .returned (.int .i64 (-1)) ∧ w' = w := by
  obtain ⟨F, hP, hL⟩ := h.pw
  exact Level_no w x _ (has w W.heap.size p bs F hP x false (hasB_false hx)) _ rfl
theorem Kids_nil (W : World) (x : Int) : Calls Try.prog 11 #[.pointer none, .int .i64 x] W fun e w' => e = .returned (.slice none 0 0) ∧ w' = W := Kids_no W x _ (has_nil W x) _ rfl
theorem Level_nil (W : World) (x : Int) : Calls Try.prog 12 #[.pointer none, .int .i64 x] W fun e w' => e = .returned (.int .i64 (-1)) ∧ w' = W := Level_no W x _ (has_nil W x) _ rfl
set_option maxHeartbeats 4000000 in
set_option maxRecDepth 100000 in
theorem play_low (W : World) (n : Int) (A : Option Addr) (c : Nat) (l : List S39) (h : n < 0) (hl : l.length ≤ 80) :
    Calls Try.prog 3 #[.int .i64 n, .slice A l.length c] W fun e w' => e = .returned (.bool true) ∧ Below W.heap.size W w' := by
  have HN := Aside0.mk h
  have d1 : decide (60 < n) = false := decide_eq_false (by omega)
  have d3 : decide (n < 0) = true := decide_eq_true h
  have d5 : decide ((80 : Int) < (l.length : Int)) = false := decide_eq_false (by omega)
  clear h hl
  go_enter Try.func3, Try.ntmps3
  go_upto_region 5 with (go_at_call 7; refine (New_nil _ n (by have := HN.out; omega)).mono ?_; rintro e w1 ⟨rfl, hq⟩; obtain rfl := hq.symm)
  go_upto_region 6 with (go_at_call 8; refine (Links_nil _ 0).mono ?_; rintro e w1 ⟨rfl, hb⟩; have B1 := Aside0.mk hb; clear hb)
  obtain ⟨w2, hw2⟩ : ∃ w2, w1.alloc (.cells #[.int .i64 0, .int .i64 0, .int .i64 0, .int .i64 0, .int .i64 0] 27) = w2 := ⟨_, rfl⟩
  rw [hw2]
  have B2 := Aside0.mk (show Below W.heap.size W w2 from hw2 ▸ below_alloc B1.out _)
  clear hw2
  go_wp2_with (first | (go_at_call 9; refine (PPlace_nil _ _ _ _).mono ?_; rintro e w3 ⟨rfl, rfl⟩) | (go_at_call 10; refine (PDrop_nil _ _).mono ?_; rintro e w3 ⟨rfl, rfl⟩) | (go_at_call 11; refine (Kids_nil _ _).mono ?_; rintro e w3 ⟨rfl, rfl⟩) | (go_at_call 12; refine (Level_nil _ _).mono ?_; rintro e w3 ⟨rfl, rfl⟩) | (go_at_call 13; refine (Sound_nil _).mono ?_; rintro e w3 ⟨rfl, rfl⟩) | (go_at_call 6; refine (same _).mono ?_; rintro e w6 ⟨rfl, hb⟩; have B6 := Aside0.mk hb; clear hb))
  refine bodyPost_ret (results_tmp rfl _ _ _) rfl ?_
  exact ⟨rfl, B2.out.trans (B6.out.mono B2.out.size)⟩
set_option maxHeartbeats 4000000 in
set_option maxRecDepth 100000 in
theorem play_high (W : World) (n : Int) (A : Option Addr) (c : Nat) (l : List S39) (h : 4096 < n) (hl : l.length ≤ 80) :
    Calls Try.prog 3 #[.int .i64 n, .slice A l.length c] W fun e w' => e = .returned (.bool true) ∧ Below W.heap.size W w' := by
  have HN := Aside0.mk h
  have d1 : decide (60 < n) = true := decide_eq_true (by omega)
  have d2 : decide (n ≤ 4096) = false := decide_eq_false (by omega)
  have d3 : decide (n < 0) = false := decide_eq_false (by omega)
  have d4 : decide (4096 < n) = true := decide_eq_true h
  have d5 : decide ((80 : Int) < (l.length : Int)) = false := decide_eq_false (by omega)
  clear h hl
  go_enter Try.func3, Try.ntmps3
  go_upto_region 5 with (go_at_call 7; refine (New_nil _ n (by have := HN.out; omega)).mono ?_; rintro e w1 ⟨rfl, hq⟩; obtain rfl := hq.symm)
  go_upto_region 6 with (go_at_call 8; refine (Links_nil _ 0).mono ?_; rintro e w1 ⟨rfl, hb⟩; have B1 := Aside0.mk hb; clear hb)
  obtain ⟨w2, hw2⟩ : ∃ w2, w1.alloc (.cells #[.int .i64 0, .int .i64 0, .int .i64 0, .int .i64 0, .int .i64 0] 27) = w2 := ⟨_, rfl⟩
  rw [hw2]
  have B2 := Aside0.mk (show Below W.heap.size W w2 from hw2 ▸ below_alloc B1.out _)
  clear hw2
  go_wp2_with (first | (go_at_call 9; refine (PPlace_nil _ _ _ _).mono ?_; rintro e w3 ⟨rfl, rfl⟩) | (go_at_call 10; refine (PDrop_nil _ _).mono ?_; rintro e w3 ⟨rfl, rfl⟩) | (go_at_call 11; refine (Kids_nil _ _).mono ?_; rintro e w3 ⟨rfl, rfl⟩) | (go_at_call 12; refine (Level_nil _ _).mono ?_; rintro e w3 ⟨rfl, rfl⟩) | (go_at_call 13; refine (Sound_nil _).mono ?_; rintro e w3 ⟨rfl, rfl⟩) | (go_at_call 6; refine (same _).mono ?_; rintro e w6 ⟨rfl, hb⟩; have B6 := Aside0.mk hb; clear hb))
  refine bodyPost_ret (results_tmp rfl _ _ _) rfl ?_
  exact ⟨rfl, B2.out.trans (B6.out.mono B2.out.size)⟩
set_option maxHeartbeats 4000000 in
set_option maxRecDepth 100000 in
theorem play_in (W0 : World) (n : Nat) (A : Option Addr) (c : Nat) (l : List S39) (hn : n ≤ 60) (hC : Kd.C k39 W0 A l.length l) (hl : l.length ≤ 80) :
    Calls Try.prog 3 #[.int .i64 (n : Int), .slice A l.length c] W0 fun e w' => e = .returned (.bool true) ∧ Below W0.heap.size W0 w' := by
  have HC := Aside0.mk hC
  have HN := Aside0.mk hn
  have HL := Aside0.mk hl
  have n0 : decide ((60 : Int) < (n : Int)) = false := decide_eq_false (by omega)
  have n1 : decide ((n : Int) < 0) = false := decide_eq_false (by omega)
  have n2 : decide ((4096 : Int) < (n : Int)) = false := decide_eq_false (by omega)
  have n3 : decide ((80 : Int) < (l.length : Int)) = false := decide_eq_false (by omega)
  clear hC hn hl
  go_enter Try.func3, Try.ntmps3
  go_upto_region 8 with (first | (go_at_call 7; refine (New _ n (by have := HN.out; omega)).mono ?_; rintro e w1 ⟨p, bs, rfl, hl, hb, hp⟩; have HLn := Aside0.mk hl; have B1 := Aside0.mk hb; have P1 := Aside0.mk hp; clear hl hb hp) | (go_at_call 14; refine (refNew w1 n (by have := HN.out; omega)).mono ?_; rintro e w2 ⟨v8, rfl, hS, hb⟩; have S2 := Aside0.mk (PSx.start (by have := HN.out; omega) HLn.out B1.out P1.out hS hb); clear hS hb))
  clear P1 B1 n0 n1 n2 n3
  have HX := Aside0.mk (show ¬ inP bs.length (n : Int) from fun q => by have := q.2; have := HLn.out; omega)
  go_wp2_with fail
  go_loopg [8, 80] l.length (fun kq v8 v80 w => ∃ (i : Nat) (r : List S65), v80 = .int .i64 (i : Int) ∧ Aside0 (i + kq = l.length) ∧ Aside0 (PSx W0 w p bs v8 r r))
  case atStart => exact ⟨0, _, rfl, ⟨by omega⟩, S2⟩
  case round =>
  clear S2
  obtain ⟨v, hv⟩ : ∃ v, u8 = v := ⟨_, rfl⟩
  subst hv
  obtain ⟨i, r, rfl, HI, HS⟩ := hrel
  cases gk with
  | zero =>
    have hlt : ¬ i < l.length := by have := HI.out; omega
    go_upto_region 25 with (go_at_call 8; refine (HS.out.links_no _ HX.out).mono ?_; rintro e w1 ⟨rfl, hb⟩; have B1 := Aside0.mk hb; clear hb)
    obtain ⟨w2, hw2⟩ : ∃ w2, w1.alloc (.cells #[.int .i64 0, .int .i64 0, .int .i64 0, .int .i64 0, .int .i64 0] 27) = w2 := ⟨_, rfl⟩
    rw [hw2]
    have S2 := Aside0.mk (HS.out.below (hw2 ▸ below_alloc B1.out _ : Below wr.heap.size wr w2))
    clear hw2 B1
    go_wp2_with (first | (go_at_call 11; refine (S2.out.kids_no _ HX.out).mono ?_; rintro e w3 ⟨rfl, rfl⟩) | (go_at_call 12; refine (S2.out.level_no _ HX.out).mono ?_; rintro e w3 ⟨rfl, rfl⟩) | (go_at_call 17; refine (S2.out.all).mono ?_; rintro e w5 ⟨rfl, hb⟩; have B5 := Aside0.mk hb; clear hb) | (go_at_call 6; refine (same _).mono ?_; rintro e w6 ⟨rfl, hb⟩; have B6 := Aside0.mk hb; clear hb))
    refine bodyPost_ret (results_tmp rfl _ _ _) rfl ?_
    have h2 := S2.out.b.trans (B5.out.mono S2.out.b.size)
    exact ⟨rfl, h2.trans (B6.out.mono h2.size)⟩
  | succ k1 =>
    have hlt : i < l.length := by have := HI.out; omega
    have HIL := Aside0.mk hlt
    obtain ⟨x, hx⟩ : ∃ x, rd_T39 l (i : Int) = x := ⟨_, rfl⟩
    obtain ⟨ad, rfl, t0, t1, t2, t3⟩ := act39 (Kd.C_below HC.out HS.out.b) i hlt
    rw [hx] at t0 t1 t2 t3
    have hwi : Aside0 (wrap64 ((i : Int) + 1) = ((i + 1 : Nat) : Int)) := ⟨by have := HL.out; have := HI.out; unfold wrap64; omega⟩
    clear hx
    go_upto_region 12 with fail
    obtain ⟨b10, hb10⟩ : ∃ g, wr.heap.size = g := ⟨_, rfl⟩
    obtain ⟨w1', hw1⟩ : ∃ w1', wr.alloc (.cells #[.bool x.f0, .int .i64 x.f1, .int .i64 x.f2, .int .i64 x.f3] 39) = w1' := ⟨_, rfl⟩
    rw [hw1, hb10]
    have X1 := Aside0.mk (show w1'.heap[b10]? = some (.cells #[.bool x.f0, .int .i64 x.f1, .int .i64 x.f2, .int .i64 x.f3] 39 (0, 0)) from by rw [← hw1, ← hb10]; exact heap_alloc_new wr _)
    have S1 := Aside0.mk (show PSx W0 w1' p bs u8 r r from hw1 ▸ HS.out.below (below_alloc (Below.refl _ wr) _))
    have y0 : w1'.cell? ⟨b10, 0, none⟩ = some (.bool x.f0) := (blk_cell X1.out 0).trans rfl
    have y1 : w1'.cell? ⟨b10, 1, none⟩ = some (.int .i64 x.f1) := (blk_cell X1.out 1).trans rfl
    have y2 : w1'.cell? ⟨b10, 2, none⟩ = some (.int .i64 x.f2) := (blk_cell X1.out 2).trans rfl
    have y3 : w1'.cell? ⟨b10, 3, none⟩ = some (.int .i64 x.f3) := (blk_cell X1.out 3).trans rfl
    clear t0 t1 t2 t3 hw1 hb10
    cases hf : x.f0 with
    | true =>
      rw [hf] at y0
      obtain ⟨r', cc, kk, hk, hc⟩ := S1.out.next_drop x.f1
      have HCs := Aside0.mk hc
      have HK := Aside0.mk hk
      have zc : (cc != cc) = false := bne_self_eq_false cc
      clear hk hc
      go_upto_region 14 with (go_at_call 15; refine (S1.out.rdrop1 x.f1 r' cc kk (S1.out.len_drop HCs.out) HK.out).mono ?_; rintro e w3 ⟨v', rfl, hS, hb⟩; have S3 := Aside0.mk hS; have X3 := Aside0.mk (blk_below X1.out hb); clear hS hb y0 y1 y2 y3)
      have y1 : w3.cell? ⟨b10, 1, none⟩ = some (.int .i64 x.f1) := (blk_cell X3.out 1).trans rfl
      go_wp2_with (first | (go_at_call 10; refine (S3.out.drop x.f1 r' cc HCs.out).mono ?_; rintro e w4 ⟨rfl, hS⟩; have S4 := Aside0.mk hS; clear hS y1) | (go_at_call 17; refine (S4.out.all).mono ?_; rintro e w5 ⟨rfl, hb⟩; have S5 := Aside0.mk (S4.out.below hb); clear hb))
      go_roundg k1
      case measure => omega
      case rel => exact ⟨i + 1, r', by rw [hwi.out], ⟨by have := HI.out; omega⟩, S5⟩
    | false =>
      rw [hf] at y0
      obtain ⟨r', cc, kk, hk, hc⟩ := S1.out.next_place x.f1 x.f2 x.f3
      have HCs := Aside0.mk hc
      have HK := Aside0.mk hk
      have zc : (cc != cc) = false := bne_self_eq_false cc
      clear hk hc
      go_upto_region 18 with (go_at_call 16; refine (S1.out.rplace1 x.f1 x.f2 x.f3 r' cc kk (S1.out.len_place HCs.out) HK.out).mono ?_; rintro e w3 ⟨v', rfl, hS, hb⟩; have S3 := Aside0.mk hS; have X3 := Aside0.mk (blk_below X1.out hb); clear hS hb y0 y1 y2 y3)
      have y1 : w3.cell? ⟨b10, 1, none⟩ = some (.int .i64 x.f1) := (blk_cell X3.out 1).trans rfl
      have y2 : w3.cell? ⟨b10, 2, none⟩ = some (.int .i64 x.f2) := (blk_cell X3.out 2).trans rfl
      have y3 : w3.cell? ⟨b10, 3, none⟩ = some (.int .i64 x.f3) := (blk_cell X3.out 3).trans rfl
      go_wp2_with (first | (go_at_call 9; refine (S3.out.place x.f1 x.f2 x.f3 r' cc HCs.out).mono ?_; rintro e w4 ⟨rfl, hS⟩; have S4 := Aside0.mk hS; clear hS y1 y2 y3) | (go_at_call 17; refine (S4.out.all).mono ?_; rintro e w5 ⟨rfl, hb⟩; have S5 := Aside0.mk (S4.out.below hb); clear hb))
      go_roundg k1
      case measure => omega
      case rel => exact ⟨i + 1, r', by rw [hwi.out], ⟨by have := HI.out; omega⟩, S5⟩
set_option maxHeartbeats 4000000 in
set_option maxRecDepth 100000 in
theorem play_out (W0 : World) (n : Int) (A : Option Addr) (c : Nat) (l : List S39) (h : (60 < n ∧ n ≤ 4096) ∨ 80 < l.length) :
    Calls Try.prog 3 #[.int .i64 n, .slice A l.length c] W0 fun e w' => e = .returned (.bool true) ∧ Below W0.heap.size W0 w' := by
  by_cases h0 : 60 < n
  · have c0 : decide (60 < n) = true := decide_eq_true h0
    by_cases h1 : n ≤ 4096
    · have c1 : decide (n ≤ 4096) = true := decide_eq_true h1
      clear h h0 h1
      go_enter Try.func3, Try.ntmps3
      go_wp2_with (go_at_call 6; refine (same _).mono ?_; rintro e w6 ⟨rfl, hb⟩; have B6 := Aside0.mk hb; clear hb)
      refine bodyPost_ret (results_tmp rfl _ _ _) rfl ?_
      exact ⟨rfl, B6.out⟩
    · have c1 : decide (n ≤ 4096) = false := decide_eq_false h1
      have c2 : decide ((80 : Int) < (l.length : Int)) = true := decide_eq_true (by omega)
      clear h h0 h1
      go_enter Try.func3, Try.ntmps3
      go_wp2_with (go_at_call 6; refine (same _).mono ?_; rintro e w6 ⟨rfl, hb⟩; have B6 := Aside0.mk hb; clear hb)
      refine bodyPost_ret (results_tmp rfl _ _ _) rfl ?_
      exact ⟨rfl, B6.out⟩
  · have c0 : decide (60 < n) = false := decide_eq_false h0
    have c2 : decide ((80 : Int) < (l.length : Int)) = true := decide_eq_true (by omega)
    clear h h0
    go_enter Try.func3, Try.ntmps3
    go_wp2_with (go_at_call 6; refine (same _).mono ?_; rintro e w6 ⟨rfl, hb⟩; have B6 := Aside0.mk hb; clear hb)
    refine bodyPost_ret (results_tmp rfl _ _ _) rfl ?_
    exact ⟨rfl, B6.out⟩
/-- The law LinksPlay. -/
def tendrillaw19_LinksPlay.f (a0 : Int) (l1 : List S39) : Option Bool := some true
theorem tendrillaw19_LinksPlay.calls (a0 : Int) (A1 : Option Addr) (c1 : Nat) (l1 : List (S39)) (r : Bool) (w : World) (hr1 : Kd.C k39 w A1 l1.length l1) (hc1 : l1.length ≤ c1) (h : tendrillaw19_LinksPlay.f a0 l1 = some r) :
    Calls Try.prog 3 #[.int .i64 a0, .slice A1 l1.length c1] w fun e w' => e = .returned (.bool r) ∧ Below w.heap.size w w' := by
  obtain rfl := Option.some.inj h
  by_cases hq : (60 < a0 ∧ a0 ≤ 4096) ∨ 80 < l1.length
  · exact play_out w a0 A1 c1 l1 hq
  by_cases h0 : a0 < 0
  · exact play_low w a0 A1 c1 l1 h0 (by omega)
  by_cases h1 : 4096 < a0
  · exact play_high w a0 A1 c1 l1 h1 (by omega)
  obtain ⟨n, rfl⟩ : ∃ n : Nat, a0 = (n : Int) := ⟨a0.toNat, by omega⟩
  exact play_in w n A1 c1 l1 (by omega) hr1 (by omega)
end Go.Proofs.Ytgamhkhninogeaa.G
