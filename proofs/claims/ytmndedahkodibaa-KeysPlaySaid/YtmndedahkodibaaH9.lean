/- The law's same() walked. -/
import Derived.Test.YtmndedahkodibaaH8
import Derived.Test.YtmndedahkodibaaHx
namespace Go.Proofs.Ytmndedahkodibaa.G
open Go.RowKit Go.Proofs.YtmndedahkodibaaW.PrintWords Go.Proofs.YtmndedahkodibaaW.PrintLast Go.Proofs.YtmndedahkodibaaW.PrintMore
set_option linter.unusedVariables false
set_option linter.unusedSimpArgs false

theorem less_same : keys_Less.f 50 ⟨#[97]⟩ ⟨#[]⟩ 0 ⟨#[97]⟩ ⟨#[107]⟩ 0 = some true := by kernel_rfl
def la : S28 := ⟨⟨#[97]⟩, ⟨#[]⟩, 0⟩
def lb : S28 := ⟨⟨#[97]⟩, ⟨#[107]⟩, 0⟩
theorem lb_ne : lb ≠ la := by
  intro h
  have := congrArg (fun x => x.f1.size) h
  exact absurd this (by decide)
theorem same_map : ofM [la, lb, la] 3 la = some 0 ∧ ofM [la, lb, la] 3 lb = some 1 ∧ ofN [la, lb, la] 3 = 2 := by
  have r0 : rd_T28 [la, lb, la] ((0 : Nat) : Int) = la := rfl
  have r1 : rd_T28 [la, lb, la] ((1 : Nat) : Int) = lb := rfl
  have r2 : rd_T28 [la, lb, la] ((2 : Nat) : Int) = la := rfl
  have m1 : ofM [la, lb, la] 1 = upd (fun _ => none) la (some 0) := by
    show putD _ (rd_T28 [la, lb, la] ((0 : Nat) : Int)) _ = _
    rw [r0]
    rfl
  have a1 : ofM [la, lb, la] 1 la = some 0 := by rw [m1, upd_same]
  have b1 : ofM [la, lb, la] 1 lb = none := by rw [m1, upd_other _ _ lb_ne]
  have m2 : ofM [la, lb, la] 2 = upd (ofM [la, lb, la] 1) lb (some 1) := by
    show putD _ (rd_T28 [la, lb, la] ((1 : Nat) : Int)) _ = _
    rw [r1]
    unfold putD
    rw [b1]
    rfl
  have a2 : ofM [la, lb, la] 2 la = some 0 := by rw [m2, upd_other _ _ (Ne.symm lb_ne), a1]
  have b2 : ofM [la, lb, la] 2 lb = some 1 := by rw [m2, upd_same]
  have m3 : ofM [la, lb, la] 3 = ofM [la, lb, la] 2 := by
    show putD (ofM [la, lb, la] 2) (rd_T28 [la, lb, la] ((2 : Nat) : Int)) _ = _
    rw [r2]
    unfold putD
    rw [a2]
    rfl
  refine ⟨by rw [m3, a2], by rw [m3, b2], ?_⟩
  have n1 : ofN [la, lb, la] 1 = 1 := rfl
  have n2 : ofN [la, lb, la] 2 = 2 := by
    show (if (ofM [la, lb, la] 1 (rd_T28 [la, lb, la] ((1 : Nat) : Int))).isNone then ofN [la, lb, la] 1 + 1 else ofN [la, lb, la] 1) = 2
    rw [r1, b1, n1]
    rfl
  show (if (ofM [la, lb, la] 2 (rd_T28 [la, lb, la] ((2 : Nat) : Int))).isNone then ofN [la, lb, la] 2 + 1 else ofN [la, lb, la] 2) = 2
  rw [r2, a2, n2]
  rfl
theorem C_three (w : World) (g : Nat) (x y z : S28) (h : w.heap[g]? = some (.cells #[.string x.f0, .string x.f1, .int .i64 x.f2, .string y.f0, .string y.f1, .int .i64 y.f2, .string z.f0, .string z.f1, .int .i64 z.f2] 28 (0, 0))) :
    Kd.C k28 w (some ⟨g, 0, none⟩) 3 [x, y, z] := by
  refine ⟨rfl, by decide, fun _ => ⟨_, rfl, ?_⟩⟩
  intro j p hj
  match j, hj with
  | 0, hj =>
    obtain rfl := Option.some.inj hj
    refine ⟨_, rfl, k28_mk w x, ?_⟩
    intro i u hi
    rw [Addr.add_lit, blk_cell h]
    match i, hi with
    | 0, hi => exact hi
    | 1, hi => exact hi
    | 2, hi => exact hi
  | 1, hj =>
    obtain rfl := Option.some.inj hj
    refine ⟨_, rfl, k28_mk w y, ?_⟩
    intro i u hi
    rw [Addr.add_lit, blk_cell h]
    match i, hi with
    | 0, hi => exact hi
    | 1, hi => exact hi
    | 2, hi => exact hi
  | 2, hj =>
    obtain rfl := Option.some.inj hj
    refine ⟨_, rfl, k28_mk w z, ?_⟩
    intro i u hi
    rw [Addr.add_lit, blk_cell h]
    match i, hi with
    | 0, hi => exact hi
    | 1, hi => exact hi
    | 2, hi => exact hi

theorem of_same (w : World) (A : Option Addr) (h : Kd.C k28 w A 3 [la, lb, la]) (D : S28 → Option Int) (hD : ofM [la, lb, la] 3 = D) :
    Calls Try.prog 17 #[.slice A 3 3] w fun e w' => ∃ p, e = .returned (.pointer (some ⟨p, 0, none⟩)) ∧ Below w.heap.size w w' ∧ IX w' w.heap.size p 2 D := by
  have hf : ∀ i : Nat, i < [la, lb, la].length → Fit (rd_T28 [la, lb, la] i) := by
    intro i hi
    match i, hi with
    | 0, _ => exact ⟨by decide, by decide⟩
    | 1, _ => exact ⟨by decide, by decide⟩
    | 2, _ => exact ⟨by decide, by decide⟩
  have hl : [la, lb, la].length = 3 := rfl
  obtain ⟨xs, hxs⟩ : ∃ xs, [la, lb, la] = xs := ⟨_, rfl⟩
  have hn : ofN [la, lb, la] 3 = 2 := same_map.2.2
  rw [hxs] at h hD hf hl hn
  rw [← hl] at h
  have := Of w A 3 xs h hf (by omega)
  rw [hl, hD, hn] at this
  exact this
theorem fit_la : Fit la := ⟨by decide, by decide⟩
theorem fit_lb : Fit lb := ⟨by decide, by decide⟩
theorem get_la (W : World) (base p n : Nat) (D : S28 → Option Int) (h : IX W base p n D) (hd : D la = some 0) :
    Calls Try.prog 12 #[.pointer (some ⟨p, 0, none⟩), .agg #[.string ⟨#[97]⟩, .string ⟨#[]⟩, .int .i64 0]] W fun e w' => e = .returned (.tuple #[.int .i64 0, .bool true]) ∧ Below W.heap.size W w' := by
  have h := Index_Get W base p n D la fit_la h
  rw [hd] at h
  exact h
theorem get_lb (W : World) (base p n : Nat) (D : S28 → Option Int) (h : IX W base p n D) (hd : D lb = some 1) :
    Calls Try.prog 12 #[.pointer (some ⟨p, 0, none⟩), .agg #[.string ⟨#[97]⟩, .string ⟨#[107]⟩, .int .i64 0]] W fun e w' => e = .returned (.tuple #[.int .i64 1, .bool true]) ∧ Below W.heap.size W w' := by
  have h := Index_Get W base p n D lb fit_lb h
  rw [hd] at h
  exact h
theorem get_of (W : World) (base p n : Nat) (D : S28 → Option Int) (k : S28) (v : Int) (hk : Fit k) (h : IX W base p n D) (hd : D k = some v) :
    Calls Try.prog 12 #[.pointer (some ⟨p, 0, none⟩), .agg #[.string k.f0, .string k.f1, .int .i64 k.f2]] W fun e w' => e = .returned (.tuple #[.int .i64 v, .bool true]) ∧ Below W.heap.size W w' := by
  have h := Index_Get W base p n D k hk h
  rw [hd] at h
  exact h
theorem get_no (W : World) (base p n : Nat) (D : S28 → Option Int) (k : S28) (hk : Fit k) (h : IX W base p n D) (hd : D k = none) :
    Calls Try.prog 12 #[.pointer (some ⟨p, 0, none⟩), .agg #[.string k.f0, .string k.f1, .int .i64 k.f2]] W fun e w' => e = .returned (.tuple #[.int .i64 0, .bool false]) ∧ Below W.heap.size W w' := by
  have h := Index_Get W base p n D k hk h
  rw [hd] at h
  exact h

set_option maxHeartbeats 4000000 in
set_option maxRecDepth 100000 in
theorem same (W : World) : Calls Try.prog 7 #[] W fun e w' => e = .returned (.bool true) ∧ Below W.heap.size W w' := by
  obtain ⟨w1, hw1⟩ : ∃ w1, W.alloc (.cells #[.string ⟨#[97]⟩, .string ⟨#[]⟩, .int .i64 0] 28) = w1 := ⟨_, rfl⟩
  have B1 := Aside0.mk (show Below W.heap.size W w1 from hw1 ▸ below_alloc (Below.refl _ W) _)
  have Z1 := Aside0.mk (show w1.heap.size = W.heap.size + 1 from by rw [← hw1]; exact Array.size_push ..)
  have X1 := Aside0.mk (show w1.heap[W.heap.size]? = some (.cells #[.string ⟨#[97]⟩, .string ⟨#[]⟩, .int .i64 0] 28 (0, 0)) from hw1 ▸ heap_alloc_new W _)
  obtain ⟨w2, hw2⟩ : ∃ w2, w1.alloc (.cells #[.string ⟨#[97]⟩, .string ⟨#[107]⟩, .int .i64 0] 28) = w2 := ⟨_, rfl⟩
  have B2 := Aside0.mk (show Below w1.heap.size w1 w2 from hw2 ▸ below_alloc (Below.refl _ w1) _)
  have Z2 := Aside0.mk (show w2.heap.size = W.heap.size + 1 + 1 from by rw [← hw2, ← Z1.out]; exact Array.size_push ..)
  have X2 := Aside0.mk (show w2.heap[W.heap.size + 1]? = some (.cells #[.string ⟨#[97]⟩, .string ⟨#[107]⟩, .int .i64 0] 28 (0, 0)) from by rw [← hw2, ← Z1.out]; exact heap_alloc_new w1 _)
  obtain ⟨w3, hw3⟩ : ∃ w3, w2.alloc (.cells #[.string ⟨#[97]⟩, .string ⟨#[]⟩, .int .i64 0, .string ⟨#[97]⟩, .string ⟨#[107]⟩, .int .i64 0, .string ⟨#[97]⟩, .string ⟨#[]⟩, .int .i64 0] 28) = w3 := ⟨_, rfl⟩
  have B3 := Aside0.mk (show Below w2.heap.size w2 w3 from hw3 ▸ below_alloc (Below.refl _ w2) _)
  have X3 := Aside0.mk (show Kd.C k28 w3 (some ⟨W.heap.size + 1 + 1, 0, none⟩) 3 [la, lb, la] from C_three w3 _ la lb la (by rw [← hw3, ← Z2.out]; exact heap_alloc_new w2 _))
  have HW := Aside0.mk (And.intro hw1 (And.intro hw2 hw3))
  have XA := Aside0.mk (blk_below (blk_below X1.out B2.out) B3.out)
  have XB := Aside0.mk (blk_below X2.out B3.out)
  have BW := Aside0.mk (B1.out.trans ((B2.out.mono B1.out.size).trans (B3.out.mono (Nat.le_trans B1.out.size B2.out.size))))
  clear hw1 hw2 hw3
  obtain ⟨D, hD⟩ : ∃ D, ofM [la, lb, la] 3 = D := ⟨_, rfl⟩
  obtain ⟨da, db, dn⟩ := same_map
  rw [hD] at da db
  have DA := Aside0.mk da
  have DB := Aside0.mk db
  have HD := Aside0.mk (And.intro hD dn)
  clear hD da db dn
  go_enter Try.func7, Try.ntmps7
  go_upto_region 5 with (first | (go_at_call 17; rw [HW.out.1, HW.out.2.1, HW.out.2.2]; refine (of_same w3 _ X3.out D HD.out.1).mono ?_; rintro e w4 ⟨p, rfl, hb, hi⟩; have I4 := Aside0.mk hi; have B4 := Aside0.mk hb; have a0 : w4.cell? ⟨W.heap.size, 0, none⟩ = some (.string ⟨#[97]⟩) := (blk_cell (blk_below XA.out hb) 0).trans rfl; have a1 : w4.cell? ⟨W.heap.size, 1, none⟩ = some (.string ⟨#[]⟩) := (blk_cell (blk_below XA.out hb) 1).trans rfl; have a2 : w4.cell? ⟨W.heap.size, 2, none⟩ = some (.int .i64 0) := (blk_cell (blk_below XA.out hb) 2).trans rfl; clear hi hb) | (go_at_call 12; refine (get_la w4 _ p 2 D I4.out DA.out).mono ?_; rintro e w5 ⟨rfl, hb⟩; have B5 := Aside0.mk hb; have I5 := Aside0.mk (I4.out.below hb); have XB5 := blk_below (blk_below XB.out B4.out) hb; have b0 : w5.cell? ⟨W.heap.size + 1, 0, none⟩ = some (.string ⟨#[97]⟩) := (blk_cell XB5 0).trans rfl; have b1 : w5.cell? ⟨W.heap.size + 1, 1, none⟩ = some (.string ⟨#[107]⟩) := (blk_cell XB5 1).trans rfl; have b2 : w5.cell? ⟨W.heap.size + 1, 2, none⟩ = some (.int .i64 0) := (blk_cell XB5 2).trans rfl; clear XB5 hb a0 a1 a2))
  go_wp2_with (first | (go_at_call 12; refine (get_lb w5 _ p 2 D I5.out DB.out).mono ?_; rintro e w6 ⟨rfl, hb⟩; have B6 := Aside0.mk hb; have I6 := Aside0.mk (I5.out.below hb); have XA6 := Aside0.mk (blk_below (blk_below (blk_below XA.out B4.out) B5.out) hb); have XB6 := Aside0.mk (blk_below (blk_below (blk_below XB.out B4.out) B5.out) hb); clear hb b0 b1 b2) | (go_at_call 13; refine (Index_Len w6 _ p 2 D I6.out).mono ?_; rintro e w7 ⟨rfl, rfl⟩; have a0 : w7.cell? ⟨W.heap.size, 0, none⟩ = some (.string ⟨#[97]⟩) := (blk_cell XA6.out 0).trans rfl; have a1 : w7.cell? ⟨W.heap.size, 1, none⟩ = some (.string ⟨#[]⟩) := (blk_cell XA6.out 1).trans rfl; have a2 : w7.cell? ⟨W.heap.size, 2, none⟩ = some (.int .i64 0) := (blk_cell XA6.out 2).trans rfl; have b0 : w7.cell? ⟨W.heap.size + 1, 0, none⟩ = some (.string ⟨#[97]⟩) := (blk_cell XB6.out 0).trans rfl; have b1 : w7.cell? ⟨W.heap.size + 1, 1, none⟩ = some (.string ⟨#[107]⟩) := (blk_cell XB6.out 1).trans rfl; have b2 : w7.cell? ⟨W.heap.size + 1, 2, none⟩ = some (.int .i64 0) := (blk_cell XB6.out 2).trans rfl) | (go_at_call 20; refine (keys_Less.calls 50 _ _ _ _ _ _ true _ less_same).mono ?_; rintro e w8 ⟨rfl, hb⟩; have B8 := Aside0.mk hb; clear hb))
  refine bodyPost_ret (results_tmp rfl _ _ _) rfl ?_
  have h1 := BW.out.size
  have h2 := B4.out.size
  have h3 := B5.out.size
  have h4 := B6.out.size
  exact ⟨rfl, BW.out.trans ((B4.out.mono h1).trans ((B5.out.mono (Nat.le_trans h1 h2)).trans ((B6.out.mono (Nat.le_trans h1 (Nat.le_trans h2 h3))).trans (B8.out.mono (Nat.le_trans h1 (Nat.le_trans h2 (Nat.le_trans h3 h4)))))))⟩
end Go.Proofs.Ytmndedahkodibaa.G
