/- The law's same() walked. -/
import Derived.Test.YtgamhkhninogeaaH11
namespace Go.Proofs.Ytgamhkhninogeaa.G
open Go.RowKit Go.Proofs.YtgamhkhninogeaaW.PrintWords Go.Proofs.YtgamhkhninogeaaW.PrintLast Go.Proofs.YtgamhkhninogeaaW.PrintMore
open Go.Proofs.Ytgamhkhninogeaa.Pure (LR Ur Kr ChT SibT lastD find_ref rd_get level_ev ints_ref PCase DCase Placed Dropped freeR)
set_option linter.unusedVariables false
set_option linter.unusedSimpArgs false
attribute [local go_sem high] eqA27

theorem PW.bel {W w : World} {base p : Nat} {bs : List Nat} {F : FF} (h : PW W base p bs F) (hk : Kq W w bs) (hs : base ≤ W.heap.size) : Below base W w :=
  hk.below (fun b hb => by obtain ⟨i, h0, h1, rfl⟩ := mem_blq hb; exact h.gw.ge i h0 h1) hs
def r1 : List S65 := [⟨-1, [1]⟩, ⟨0, []⟩, ⟨-1, []⟩]
def r2 : List S65 := [⟨-1, [2, 1]⟩, ⟨0, []⟩, ⟨0, []⟩]
theorem three {i : Int} (h0 : 0 ≤ i) (h1 : i < 3) : i = 0 ∨ i = 1 ∨ i = 2 := by omega
theorem pc1 : PCase (freeR 3) 1 0 (-1) r1 0 := by
  refine .ok [0] [] [] r1 (by decide) (by decide) (.inl rfl) (by decide) ⟨rfl, by decide, by show Ur (freeR 3) 0 < 0; decide⟩ (by decide) (by decide) rfl (.inl ⟨rfl, rfl⟩) ⟨rfl, fun i h0 h1 => ?_⟩
  rcases three h0 h1 with rfl | rfl | rfl
  · exact ⟨by decide, by decide⟩
  · exact ⟨by decide, by decide⟩
  · exact ⟨by decide, by decide⟩
theorem pc2 : PCase r1 2 0 1 r2 0 := by
  refine .ok [0] [] [1] r2 (by decide) (by decide) (.inr (by decide)) (by decide) ⟨rfl, by decide, by show Ur r1 0 < 0; decide⟩ (by decide) (by decide) rfl (.inr ⟨[], rfl⟩) ⟨rfl, fun i h0 h1 => ?_⟩
  rcases three h0 h1 with rfl | rfl | rfl
  · exact ⟨by decide, by decide⟩
  · exact ⟨by decide, by decide⟩
  · exact ⟨by decide, by decide⟩
theorem pc3 : PCase r2 0 2 (-1) r2 17 :=
  .cycle [2, 0] (by decide) (by decide) (.inl rfl) (by decide) ⟨rfl, by decide, by show Ur r2 2 = 0; decide, by decide, by show Ur r2 0 < 0; decide⟩ (by decide) (by decide)
theorem f_one {F : FF} (h : LR r2 F) : F 1 1 = 0 ∧ F 1 2 = -1 ∧ F 1 3 = -1 ∧ F 1 4 = 2 ∧ F 1 5 = -1 := by
  have hi : inP r2.length 1 := by decide
  have e := (lr_ends h 1 hi).1 (by decide)
  have s := lr_sibs h 1 hi (by decide) 1 (by decide) (by decide)
  exact ⟨(h.lk 1 hi.1 hi.2).1.trans (by decide), e.1, e.2, (s.2.1 0 rfl).trans (by decide), s.2.2.1 (by decide)⟩
theorem lit2 (w : World) (x y : Int) : Kd.C (Kd.int .i64) (w.alloc (.cells #[.int .i64 x, .int .i64 y] 3)) (some ⟨w.heap.size, 0, none⟩) 2 [x, y] := by
  have h := heap_alloc_new w (.cells #[.int .i64 x, .int .i64 y] 3)
  refine ⟨rfl, by decide, fun _ => ⟨_, rfl, ?_⟩⟩
  intro j p hj
  match j, hj with
  | 0, hj =>
    obtain rfl := Option.some.inj hj
    refine ⟨[.int .i64 x], rfl, rfl, ?_⟩
    intro i u hi
    rw [Addr.add_lit, blk_cell h]
    match i, hi with
    | 0, hi => exact hi
  | 1, hj =>
    obtain rfl := Option.some.inj hj
    refine ⟨[.int .i64 y], rfl, rfl, ?_⟩
    intro i u hi
    rw [Addr.add_lit, blk_cell h]
    match i, hi with
    | 0, hi => exact hi
/-- All links have their answers. -/
theorem sound_of (W : World) (base p : Nat) (bs : List Nat) (F : FF) (r : List S65) (hP : PW W base p bs F) (hL : LR r F) (hlen : r.length = bs.length) (hn : r.length ≤ 4096) : Calls Try.prog 13 #[ptr p] W fun e w' => e = .returned (.bool true) ∧ w' = W := by
  refine Sound W base p bs F hP (by rw [← hlen]; exact hn) (fun x hx => ?_) (fun x hx => ?_)
  · rw [← hlen] at hx
    obtain ⟨q1, q2, q3⟩ := hL.lk x hx.1 hx.2
    exact ⟨Kr r x, ch_of q2, sib_of q3, by rw [← hlen]; exact hL.kids_le x hx.1 hx.2⟩
  · rw [← hlen] at hx
    obtain ⟨l, q1, q2, q3⟩ := hL.st.way1 x hx.1 hx.2
    refine ⟨l, ?_, by rw [← hlen]; exact q3⟩
    rw [(hL.lk x hx.1 hx.2).1]
    exact way_ch q1.2.2 (fun a ha => (hL.lk a (q2 a (List.mem_cons_of_mem _ ha)).1 (q2 a (List.mem_cons_of_mem _ ha)).2).1)

set_option maxHeartbeats 4000000 in
set_option maxRecDepth 100000 in
theorem same (W : World) : Calls Try.prog 6 #[] W fun e w' => e = .returned (.bool true) ∧ Below W.heap.size W w' := by
  go_enter Try.func6, Try.ntmps6
  go_upto_region 2 with (go_at_call 7; refine (New W 3 (by decide)).mono ?_; rintro e w1 ⟨p, bs, rfl, hl, hb, hp⟩; have HLn := Aside0.mk hl; have B1 := Aside0.mk hb; have P1 := Aside0.mk hp; clear hl hb hp)
  go_upto_region 3 with (go_at_call 9; refine (PPlace_step w1 W.heap.size p bs F0 (freeR 3) P1.out (Go.Proofs.Ytgamhkhninogeaa.Pure.LR.free 3) HLn.out.symm 1 0 (-1) r1 0 pc1).mono ?_; rintro e w2 ⟨rfl, F1, hp, hl, hk⟩; have B2 := Aside0.mk (B1.out.trans (P1.out.bel hk B1.out.size)); have P2 := Aside0.mk hp; have L2 := Aside0.mk hl; clear hp hl hk)
  go_upto_region 4 with (go_at_call 9; refine (PPlace_step w2 W.heap.size p bs F1 r1 P2.out L2.out HLn.out.symm 2 0 1 r2 0 pc2).mono ?_; rintro e w3 ⟨rfl, F2, hp, hl, hk⟩; have B3 := Aside0.mk (B2.out.trans (P2.out.bel hk B2.out.size)); have P3 := Aside0.mk hp; have L3 := Aside0.mk hl; clear hp hl hk)
  go_upto_region 5 with (go_at_call 9; refine (PPlace_step w3 W.heap.size p bs F2 r2 P3.out L3.out HLn.out.symm 0 2 (-1) r2 17 pc3).mono ?_; rintro e w4 ⟨rfl, F3, hp, hl, hk⟩; have B4 := Aside0.mk (B3.out.trans (P3.out.bel hk B3.out.size)); have P4 := Aside0.mk hp; have L4 := Aside0.mk hl; clear hp hl hk)
  have HLI := Aside0.mk (show Calls Try.prog 8 #[ptr p, .int .i64 1] w4 fun e w' => e = .returned (.tuple #[.agg #[.int .i64 0, .int .i64 (-1), .int .i64 (-1), .int .i64 2, .int .i64 (-1)], .bool true]) ∧ Below w4.heap.size w4 w' from by
    have q := Links_in w4 W.heap.size p bs F3 P4.out 1 (by rw [HLn.out]; decide)
    obtain ⟨e1, e2, e3, e4, e5⟩ := f_one L4.out
    rw [e1, e2, e3, e4, e5] at q
    exact q)
  go_upto_region 6 with (go_at_call 8; refine HLI.out.mono ?_; rintro e w5 ⟨rfl, hb⟩; have B5 := Aside0.mk (B4.out.trans (hb.mono B4.out.size)); have P5 := Aside0.mk (P4.out.below hb); clear hb HLI)
  obtain ⟨b6, hb6⟩ : ∃ g, w5.heap.size = g := ⟨_, rfl⟩
  obtain ⟨w6, hw6⟩ : ∃ w6, w5.alloc (.cells #[.int .i64 0, .int .i64 (-1), .int .i64 (-1), .int .i64 2, .int .i64 (-1)] 27) = w6 := ⟨_, rfl⟩
  rw [hw6, hb6]
  have X6 := Aside0.mk (show w6.heap[b6]? = some (.cells #[.int .i64 0, .int .i64 (-1), .int .i64 (-1), .int .i64 2, .int .i64 (-1)] 27 (0, 0)) from by rw [← hw6, ← hb6]; exact heap_alloc_new w5 _)
  have B6 := Aside0.mk (show Below W.heap.size W w6 from hw6 ▸ below_alloc B5.out _)
  have P6 := Aside0.mk (show PW w6 W.heap.size p bs F3 from hw6 ▸ P5.out.below (below_alloc (Below.refl _ w5) _))
  obtain ⟨ki, hki⟩ := ints_ref [2, 1] (by decide)
  have HKI := Aside0.mk hki
  clear hw6 hb6 hki
  have HKD := Aside0.mk (Kids_in w6 W.heap.size p bs F3 P6.out 0 (by rw [HLn.out]; decide) [2, 1] (ch_of (L4.out.lk 0 (by decide) (by decide)).2.1) (by decide))
  go_wp2_with (first | (go_at_call 11; refine HKD.out.mono ?_; rintro e w7 ⟨vk, rfl, hR, hb⟩; obtain ⟨A2, c2, rfl⟩ := Kd.R_slice hR; have HK2 := Aside0.mk (Kd.R_reads' hR).2; have X7 := Aside0.mk (blk_below X6.out hb); have B7 := Aside0.mk (B6.out.trans (hb.mono B6.out.size)); have P7 := Aside0.mk (P6.out.below hb); clear hb hR HKD) | (go_at_call 27; refine (tendrilplain_Ints.calls ki A2 c2 [2, 1] (some ⟨w7.heap.size, 0, none⟩) 2 [2, 1] true _ (Kd.C_below HK2.out.2 (below_alloc (Below.refl _ w7) _)) HK2.out.1 (lit2 w7 2 1) (Nat.le_refl _) HKI.out).mono ?_; rintro e w8 ⟨rfl, ⟨nd, hw8⟩⟩; have hb8 : Below w7.heap.size w7 w8 := hw8 ▸ pw_below_drewN (below_alloc (Below.refl _ w7) _) nd; have X8 := blk_below X7.out hb8; have B8 := Aside0.mk (B7.out.trans (hb8.mono B7.out.size)); have P8 := Aside0.mk (P7.out.below hb8); have y0 : w8.cell? ⟨b6, 0, none⟩ = some (.int .i64 0) := (blk_cell X8 0).trans rfl; have y1 : w8.cell? ⟨b6, 1, none⟩ = some (.int .i64 (-1)) := (blk_cell X8 1).trans rfl; have y2 : w8.cell? ⟨b6, 2, none⟩ = some (.int .i64 (-1)) := (blk_cell X8 2).trans rfl; have y3 : w8.cell? ⟨b6, 3, none⟩ = some (.int .i64 2) := (blk_cell X8 3).trans rfl; have y4 : w8.cell? ⟨b6, 4, none⟩ = some (.int .i64 (-1)) := (blk_cell X8 4).trans rfl; clear hb8 hw8 X8) | (go_at_call 13; refine (sound_of _ W.heap.size p bs F3 r2 P8.out L4.out HLn.out.symm (by decide)).mono ?_; rintro e w9 ⟨rfl, hw⟩; rw [hw]; clear hw w9))
  refine bodyPost_ret (results_tmp rfl _ _ _) rfl ?_
  exact ⟨rfl, B8.out⟩
end Go.Proofs.Ytgamhkhninogeaa.G
