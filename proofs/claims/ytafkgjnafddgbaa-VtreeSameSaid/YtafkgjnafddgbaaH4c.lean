import Derived.Test.YtafkgjnafddgbaaGx4
import Derived.Test.YtafkgjnafddgbaaH1a
namespace Go.Proofs.Ytafkgjnafddgbaa.G
open Go.RowKit Go.Proofs.YtafkgjnafddgbaaW.PrintWords Go.Proofs.YtafkgjnafddgbaaW.PrintLast Go.Proofs.YtafkgjnafddgbaaW.PrintMore
set_option linter.unusedVariables false
set_option linter.unusedSimpArgs false

/-- Two lists of kids, one by one. -/
def alkL : Nat → List S25 → List S25 → Option Bool
  | 0, _, _ => none
  | _ + 1, [], _ => some true
  | _ + 1, _ :: _, [] => none
  | k + 1, x :: xs, y :: ys =>
    (if x.f0.toList = y.f0.toList ∧ x.f1.toList = y.f1.toList ∧ x.f2.toList = y.f2.toList then (attrs_Same.f k x.f3 y.f3).bind fun b => if b = true then (if x.f4.length = y.f4.length then alkL k x.f4 y.f4 else some false) else some false else some false).bind fun b =>
      if b = true then alkL k xs ys else some false
def alk (k : Nat) (x y : S25) : Option Bool :=
  if x.f0.toList = y.f0.toList ∧ x.f1.toList = y.f1.toList ∧ x.f2.toList = y.f2.toList then (attrs_Same.f k x.f3 y.f3).bind fun b => if b = true then (if x.f4.length = y.f4.length then alkL k x.f4 y.f4 else some false) else some false else some false
theorem alkL_cons (k : Nat) (x y : S25) (xs ys : List S25) : alkL (k + 1) (x :: xs) (y :: ys) = (alk k x y).bind fun b => if b = true then alkL k xs ys else some false := rfl
def vtree_alike.f (k : Nat) (a0_0 : ByteArray) (a0_1 : ByteArray) (a0_2 : ByteArray) (l0_3 : List (S42)) (l0_4 : List (S25)) (a1_0 : ByteArray) (a1_1 : ByteArray) (a1_2 : ByteArray) (l1_3 : List (S42)) (l1_4 : List (S25)) : Option Bool := alk k ⟨a0_0, a0_1, a0_2, l0_3, l0_4⟩ ⟨a1_0, a1_1, a1_2, l1_3, l1_4⟩
def AlkOK (w0 : World) (k : Nat) : Prop := ∀ (x y : S25) (A3 : Option Addr) (c3 : Nat) (A4 : Option Addr) (c4 : Nat) (B3 : Option Addr) (d3 : Nat) (B4 : Option Addr) (d4 : Nat) (r : Bool) (w : World),
    k42.C w0 A3 x.f3.length x.f3 → x.f3.length ≤ c3 → k25.C w0 A4 x.f4.length x.f4 → x.f4.length ≤ c4 → k42.C w0 B3 y.f3.length y.f3 → y.f3.length ≤ d3 → k25.C w0 B4 y.f4.length y.f4 → y.f4.length ≤ d4 → Below w0.heap.size w0 w →
    alk k x y = some r →
    Calls Try.prog 26 #[.agg #[.string x.f0, .string x.f1, .string x.f2, .slice A3 x.f3.length c3, .slice A4 x.f4.length c4], .agg #[.string y.f0, .string y.f1, .string y.f2, .slice B3 y.f3.length d3, .slice B4 y.f4.length d4]] w fun e w' =>
      e = .returned (.bool r) ∧ Below w.heap.size w w'
end Go.Proofs.Ytafkgjnafddgbaa.G
namespace Go.Proofs.Ytafkgjnafddgbaa.G
open Go.RowKit Go.Proofs.YtafkgjnafddgbaaW.PrintWords Go.Proofs.YtafkgjnafddgbaaW.PrintLast Go.Proofs.YtafkgjnafddgbaaW.PrintMore
set_option linter.unusedVariables false
set_option linter.unusedSimpArgs false

set_option maxHeartbeats 4000000 in
set_option maxRecDepth 100000 in
theorem eqf (w0 : World) (k : Nat) (ih : ∀ k', k' < k → AlkOK w0 k') (xs ys : List S25) (A : Option Addr) (c : Nat) (B : Option Addr) (d : Nat) (r : Bool) (w : World) (hA : k25.C w0 A xs.length xs) (hB : k25.C w0 B ys.length ys) (hb : Below w0.heap.size w0 w)
    (h : (if xs.length = ys.length then alkL k xs ys else some false) = some r) :
    Calls Try.prog 34 #[.slice A xs.length c, .slice B ys.length d, .func (.func 26) #[] #[]] w fun e w' => e = .returned (.bool r) ∧ Below w.heap.size w w' := by
  have HA := Aside0.mk hA
  have HB := Aside0.mk hB
  have BW := Aside0.mk hb
  have IH := Aside0.mk ih
  by_cases hl : xs.length = ys.length
  case neg =>
    rw [if_neg hl] at h
    obtain rfl := Option.some.inj h
    have hlb : ((xs.length : Int) != (ys.length : Int)) = true := bne_iff_ne.mpr (by omega)
    clear hA hB hb ih h hl
    go_enter Try.func34, Try.ntmps34
    go_wp2_with fail
    go_ret
    exact ⟨rfl, Below.refl _ _⟩
  rw [if_pos hl] at h
  have H := Aside0.mk h
  have HL := Aside0.mk hl
  have hlb : ((xs.length : Int) != (ys.length : Int)) = false := bne_eq_false_iff_eq.mpr (by omega)
  have B0 := Aside0.mk (Below.refl w.heap.size w)
  clear hA hB hb ih h hl
  go_enter Try.func34, Try.ntmps34
  go_wp2_with fail
  go_loopg [17] k (fun kq v17 w' => ∃ (i : Int), v17 = .int .i64 i ∧ Aside0 (0 ≤ i ∧ i ≤ xs.length ∧ alkL kq (xs.drop i.toNat) (ys.drop i.toNat) = some r ∧ kq ≤ k) ∧ Aside0 (Below w.heap.size w w'))
  case atStart => exact ⟨0, rfl, ⟨by omega, by omega, by simpa using H.out, by omega⟩, B0⟩
  case round =>
  clear B0 H
  obtain ⟨i, rfl, HI, BB⟩ := hrel
  cases gk with
  | zero => exact absurd HI.out.2.2.1 (by simp [alkL])
  | succ k1 =>
  obtain ⟨h0, hi2, halk, hkk⟩ := HI.out
  clear HI
  by_cases hi : i < xs.length
  case neg =>
    have hr : r = true := by
      have h := halk
      rw [List.drop_eq_nil_of_le (by omega)] at h
      exact (Option.some.inj h).symm
    have hib : decide (i < (xs.length : Int)) = false := decide_eq_false hi
    clear halk hi
    subst hr
    go_wp2_with fail
    go_ret
    exact ⟨rfl, BB.out⟩
  have hml : xs.length ≤ maxLen := HA.out.2.1
  have hiy : i < ys.length := by have := HL.out; omega
  rw [drop_T25 _ _ h0 hi, drop_T25 _ _ h0 hiy, alkL_cons] at halk
  obtain ⟨b, hb1, hb2⟩ := Option.bind_eq_some_iff.1 halk
  obtain ⟨ad, a3, d3, a4, d4, eA, t0, t1, t2, t3, t4, hd3, hC3, hd4, hC4⟩ := at_T25 HA.out i h0 hi
  obtain ⟨ad', a3', d3', a4', d4', eB, s0, s1, s2, s3, s4, he3, hE3, he4, hE4⟩ := at_T25 HB.out i h0 hiy
  obtain ⟨x, hx⟩ : ∃ x, rd_T25 xs i = x := ⟨_, rfl⟩
  obtain ⟨y, hy⟩ : ∃ y, rd_T25 ys i = y := ⟨_, rfl⟩
  rw [hx] at t0 t1 t2 t3 t4 hd3 hC3 hd4 hC4 hb1
  rw [hy] at s0 s1 s2 s3 s4 he3 hE3 he4 hE4 hb1
  subst eA eB
  have BZ := Aside0.mk (BW.out.trans (BB.out.mono BW.out.size))
  replace t0 := (BZ.out.cell (World.block_lt_of_cell? w0 _ t0)).trans t0
  replace t1 := (BZ.out.cell (World.block_lt_of_cell? w0 _ t1)).trans t1
  replace t2 := (BZ.out.cell (World.block_lt_of_cell? w0 _ t2)).trans t2
  replace t3 := (BZ.out.cell (World.block_lt_of_cell? w0 _ t3)).trans t3
  replace t4 := (BZ.out.cell (World.block_lt_of_cell? w0 _ t4)).trans t4
  have S0 := Aside0.mk s0
  have S1 := Aside0.mk s1
  have S2 := Aside0.mk s2
  have S3 := Aside0.mk s3
  have S4 := Aside0.mk s4
  have C3 := Aside0.mk hC3
  have C4 := Aside0.mk hC4
  have D3 := Aside0.mk hd3
  have D4 := Aside0.mk hd4
  have E3 := Aside0.mk hE3
  have E4 := Aside0.mk hE4
  have F3 := Aside0.mk he3
  have F4 := Aside0.mk he4
  have HX := Aside0.mk hx
  have HY := Aside0.mk hy
  have HB1 := Aside0.mk hb1
  have HB2 := Aside0.mk hb2
  clear s0 s1 s2 s3 s4 hC3 hC4 hd3 hd4 hE3 hE4 he3 he4 hx hy hb1 hb2 halk
  have hib : decide (i < (xs.length : Int)) = true := decide_eq_true hi
  have hiyb : decide (i < (ys.length : Int)) = true := decide_eq_true hiy
  have hi0 : decide (0 ≤ i) = true := decide_eq_true h0
  go_upto_region 5 with (fail)
  go_cut [7, 8] (fun v7 v8 wc => v7 = .int .i64 i ∧ ∃ g, v8 = .pointer (some ⟨g, 0, none⟩) ∧ Aside0 (wc.heap[g]? = some (.cells #[.string x.f0, .string x.f1, .string x.f2, .slice a3 x.f3.length d3, .slice a4 x.f4.length d4] 25 (0, 0))) ∧ Aside0 (Below w.heap.size w wc))
  case first =>
    go_wp2_with ((with_reducible refine gate_dst (N := 8) rfl ?_); refine box_event ?hg (N := 8) ?hd (cs := #[.string (⟨#[]⟩ : ByteArray), .string (⟨#[]⟩ : ByteArray), .string (⟨#[]⟩ : ByteArray), .slice none 0 0, .slice none 0 0]) (t := 25) ?hr ?_; (case hd => rfl); (case hg => rfl); (case hr => first | (go_simp; done) | (go_simp; rfl)); intro g2 hg2 w9 hbox hb; have HG2 := Aside0.mk hg2; have HBOX := Aside0.mk hbox; have HB2 := Aside0.mk hb; have f0 := blk_frozen hbox 0; have f1 := blk_frozen hbox 1; have f2 := blk_frozen hbox 2; have f3 := blk_frozen hbox 3; have f4 := blk_frozen hbox 4; have b0 : w9.cell? ⟨g2, 0, none⟩ = some (.string (⟨#[]⟩ : ByteArray)) := (blk_cell hbox 0).trans rfl; have b1 : w9.cell? ⟨g2, 1, none⟩ = some (.string (⟨#[]⟩ : ByteArray)) := (blk_cell hbox 1).trans rfl; have b2 : w9.cell? ⟨g2, 2, none⟩ = some (.string (⟨#[]⟩ : ByteArray)) := (blk_cell hbox 2).trans rfl; have b3 : w9.cell? ⟨g2, 3, none⟩ = some (.slice none 0 0) := (blk_cell hbox 3).trans rfl; have b4 : w9.cell? ⟨g2, 4, none⟩ = some (.slice none 0 0) := (blk_cell hbox 4).trans rfl; clear hbox hb hg2)
    go_meet
    case rel =>
      have hge : w.heap.size ≤ g2 := by have := HG2.out; have := BB.out.size; omega
      exact ⟨rfl, g2, rfl, ⟨blk_put (blk_put (blk_put (blk_put (blk_put HBOX.out 0 _ rfl) 1 _ rfl) 2 _ rfl) 3 _ rfl) 4 _ rfl⟩, ⟨((((((BB.out.trans (HB2.out.mono BB.out.size))).setCell (p := ⟨g2, 0, none⟩) hge _).setCell (p := ⟨g2, 1, none⟩) hge _).setCell (p := ⟨g2, 2, none⟩) hge _).setCell (p := ⟨g2, 3, none⟩) hge _).setCell (p := ⟨g2, 4, none⟩) hge _⟩⟩
  case rest =>
  clear BB BZ t0 t1 t2 t3 t4
  revert wc
  intro w5 hcut
  obtain ⟨rfl, g, rfl, G5, B5⟩ := hcut
  have BZ := Aside0.mk (BW.out.trans (B5.out.mono BW.out.size))
  have s0 := (BZ.out.cell (World.block_lt_of_cell? w0 _ S0.out)).trans S0.out
  have s1 := (BZ.out.cell (World.block_lt_of_cell? w0 _ S1.out)).trans S1.out
  have s2 := (BZ.out.cell (World.block_lt_of_cell? w0 _ S2.out)).trans S2.out
  have s3 := (BZ.out.cell (World.block_lt_of_cell? w0 _ S3.out)).trans S3.out
  have s4 := (BZ.out.cell (World.block_lt_of_cell? w0 _ S4.out)).trans S4.out
  go_upto_region 6 with (fail)
  go_cut [9] (fun v9 wc => ∃ g', v9 = .pointer (some ⟨g', 0, none⟩) ∧ Aside0 (wc.heap[g']? = some (.cells #[.string y.f0, .string y.f1, .string y.f2, .slice a3' y.f3.length d3', .slice a4' y.f4.length d4'] 25 (0, 0))) ∧ Aside0 (wc.heap[g]? = some (.cells #[.string x.f0, .string x.f1, .string x.f2, .slice a3 x.f3.length d3, .slice a4 x.f4.length d4] 25 (0, 0))) ∧ Aside0 (Below w.heap.size w wc))
  case first =>
    go_wp2_with ((with_reducible refine gate_dst (N := 9) rfl ?_); refine box_event ?hg (N := 9) ?hd (cs := #[.string (⟨#[]⟩ : ByteArray), .string (⟨#[]⟩ : ByteArray), .string (⟨#[]⟩ : ByteArray), .slice none 0 0, .slice none 0 0]) (t := 25) ?hr ?_; (case hd => rfl); (case hg => rfl); (case hr => first | (go_simp; done) | (go_simp; rfl)); intro g2 hg2 w9 hbox hb; have HG2 := Aside0.mk hg2; have HBOX := Aside0.mk hbox; have HB2 := Aside0.mk hb; have f0 := blk_frozen hbox 0; have f1 := blk_frozen hbox 1; have f2 := blk_frozen hbox 2; have f3 := blk_frozen hbox 3; have f4 := blk_frozen hbox 4; have b0 : w9.cell? ⟨g2, 0, none⟩ = some (.string (⟨#[]⟩ : ByteArray)) := (blk_cell hbox 0).trans rfl; have b1 : w9.cell? ⟨g2, 1, none⟩ = some (.string (⟨#[]⟩ : ByteArray)) := (blk_cell hbox 1).trans rfl; have b2 : w9.cell? ⟨g2, 2, none⟩ = some (.string (⟨#[]⟩ : ByteArray)) := (blk_cell hbox 2).trans rfl; have b3 : w9.cell? ⟨g2, 3, none⟩ = some (.slice none 0 0) := (blk_cell hbox 3).trans rfl; have b4 : w9.cell? ⟨g2, 4, none⟩ = some (.slice none 0 0) := (blk_cell hbox 4).trans rfl; clear hbox hb hg2)
    go_meet
    case rel =>
      have hge : w.heap.size ≤ g2 := by have := HG2.out; have := B5.out.size; omega
      have hne : g ≠ g2 := by have := HG2.out; have := blk_lt G5.out; omega
      exact ⟨g2, rfl, ⟨blk_put (blk_put (blk_put (blk_put (blk_put HBOX.out 0 _ rfl) 1 _ rfl) 2 _ rfl) 3 _ rfl) 4 _ rfl⟩, ⟨blk_far (p := ⟨g2, 4, none⟩) (blk_far (p := ⟨g2, 3, none⟩) (blk_far (p := ⟨g2, 2, none⟩) (blk_far (p := ⟨g2, 1, none⟩) (blk_far (p := ⟨g2, 0, none⟩) (blk_below G5.out HB2.out) hne _) hne _) hne _) hne _) hne _⟩, ⟨((((((B5.out.trans (HB2.out.mono B5.out.size))).setCell (p := ⟨g2, 0, none⟩) hge _).setCell (p := ⟨g2, 1, none⟩) hge _).setCell (p := ⟨g2, 2, none⟩) hge _).setCell (p := ⟨g2, 3, none⟩) hge _).setCell (p := ⟨g2, 4, none⟩) hge _⟩⟩
  case rest =>
  clear B5 BZ s0 s1 s2 s3 s4 G5
  revert wc
  intro w6 hcut
  obtain ⟨g', rfl, G6', G6, B6⟩ := hcut
  have BZ := Aside0.mk (BW.out.trans (B6.out.mono BW.out.size))
  have u0 : w6.cell? ⟨g, 0, none⟩ = some (.string x.f0) := (blk_cell G6.out 0).trans rfl
  have u1 : w6.cell? ⟨g, 1, none⟩ = some (.string x.f1) := (blk_cell G6.out 1).trans rfl
  have u2 : w6.cell? ⟨g, 2, none⟩ = some (.string x.f2) := (blk_cell G6.out 2).trans rfl
  have u3 : w6.cell? ⟨g, 3, none⟩ = some (.slice a3 x.f3.length d3) := (blk_cell G6.out 3).trans rfl
  have u4 : w6.cell? ⟨g, 4, none⟩ = some (.slice a4 x.f4.length d4) := (blk_cell G6.out 4).trans rfl
  have v0 : w6.cell? ⟨g', 0, none⟩ = some (.string y.f0) := (blk_cell G6'.out 0).trans rfl
  have v1 : w6.cell? ⟨g', 1, none⟩ = some (.string y.f1) := (blk_cell G6'.out 1).trans rfl
  have v2 : w6.cell? ⟨g', 2, none⟩ = some (.string y.f2) := (blk_cell G6'.out 2).trans rfl
  have v3 : w6.cell? ⟨g', 3, none⟩ = some (.slice a3' y.f3.length d3') := (blk_cell G6'.out 3).trans rfl
  have v4 : w6.cell? ⟨g', 4, none⟩ = some (.slice a4' y.f4.length d4') := (blk_cell G6'.out 4).trans rfl
  have hwi : IntKind.i64.wrap (i + 1) = i + 1 := IntWalk.i64_in _ (by unfold maxLen at hml; omega)
  cases b with
  | false =>
    have hr : r = false := by have h := HB2.out; simp at h; exact h
    subst hr
    go_wp2_with (go_at_call 26; refine (IH.out k1 (by omega) x y _ d3 _ d4 _ d3' _ d4' false _ C3.out D3.out C4.out D4.out E3.out F3.out E4.out F4.out BZ.out HB1.out).mono ?_; rintro e w9 ⟨rfl, hb9⟩; have B9 := Aside0.mk (B6.out.trans (hb9.mono B6.out.size)); clear hb9)
    go_ret
    exact ⟨rfl, B9.out⟩
  | true =>
    go_wp2_with (go_at_call 26; refine (IH.out k1 (by omega) x y _ d3 _ d4 _ d3' _ d4' true _ C3.out D3.out C4.out D4.out E3.out F3.out E4.out F4.out BZ.out HB1.out).mono ?_; rintro e w9 ⟨rfl, hb9⟩; have B9 := Aside0.mk (B6.out.trans (hb9.mono B6.out.size)); clear hb9)
    go_roundg k1
    case measure => omega
    case rel => exact ⟨i + 1, rfl, ⟨by omega, by omega, by have h := HB2.out; simpa using h, by omega⟩, B9⟩
end Go.Proofs.Ytafkgjnafddgbaa.G
namespace Go.Proofs.Ytafkgjnafddgbaa.G
open Go.RowKit Go.Proofs.YtafkgjnafddgbaaW.PrintWords Go.Proofs.YtafkgjnafddgbaaW.PrintLast Go.Proofs.YtafkgjnafddgbaaW.PrintMore
set_option linter.unusedVariables false
set_option linter.unusedSimpArgs false

set_option maxHeartbeats 4000000 in
set_option maxRecDepth 100000 in
theorem alike (w0 : World) (k : Nat) : AlkOK w0 k := by
  induction k using Nat.strongRecOn with
  | _ k ih =>
  intro x y A3 c3 A4 c4 B3 d3 B4 d4 r w hA3 hc3 hA4 hc4 hB3 hd3 hB4 hd4 hb h
  have HA3 := Aside0.mk hA3
  have HA4 := Aside0.mk hA4
  have HB3 := Aside0.mk hB3
  have HB4 := Aside0.mk hB4
  have BW := Aside0.mk hb
  have IH := Aside0.mk ih
  have H := Aside0.mk h
  clear hA3 hA4 hB3 hB4 hb ih h
  go_enter Try.func26, Try.ntmps26
  go_upto_region 1 with (first | ((with_reducible refine gate_dst (N := 2) rfl ?_); refine box_event ?hg (N := 2) ?hd (cs := #[.string x.f0, .string x.f1, .string x.f2, .slice A3 x.f3.length c3, .slice A4 x.f4.length c4]) (t := 25) ?hr ?_; (case hd => rfl); (case hg => rfl); (case hr => first | (go_simp; done) | (go_simp; rfl)); intro g hg w1 hbox hb1; have HG := Aside0.mk hg; have HX := Aside0.mk hbox; have HB1 := Aside0.mk hb1; clear hbox hb1 hg) | ((with_reducible refine gate_dst (N := 3) rfl ?_); refine box_event ?hg (N := 3) ?hd (cs := #[.string y.f0, .string y.f1, .string y.f2, .slice B3 y.f3.length d3, .slice B4 y.f4.length d4]) (t := 25) ?hr ?_; (case hd => rfl); (case hg => rfl); (case hr => first | (go_simp; done) | (go_simp; rfl)); intro g' hg w2 hbox hb1; have HG' := Aside0.mk hg; have HY := Aside0.mk hbox; have HB2 := Aside0.mk hb1; clear hbox hb1 hg))
  have X := Aside0.mk (blk_below HX.out HB2.out)
  have B2 := Aside0.mk (HB1.out.trans (HB2.out.mono HB1.out.size))
  have BZ := Aside0.mk (BW.out.trans (B2.out.mono BW.out.size))
  clear HX HB1 HB2
  have u0 : w2.cell? ⟨g, 0, none⟩ = some (.string x.f0) := (blk_cell X.out 0).trans rfl
  have u1 : w2.cell? ⟨g, 1, none⟩ = some (.string x.f1) := (blk_cell X.out 1).trans rfl
  have u2 : w2.cell? ⟨g, 2, none⟩ = some (.string x.f2) := (blk_cell X.out 2).trans rfl
  have u3 : w2.cell? ⟨g, 3, none⟩ = some (.slice A3 x.f3.length c3) := (blk_cell X.out 3).trans rfl
  have v0 : w2.cell? ⟨g', 0, none⟩ = some (.string y.f0) := (blk_cell HY.out 0).trans rfl
  have v1 : w2.cell? ⟨g', 1, none⟩ = some (.string y.f1) := (blk_cell HY.out 1).trans rfl
  have v2 : w2.cell? ⟨g', 2, none⟩ = some (.string y.f2) := (blk_cell HY.out 2).trans rfl
  have v3 : w2.cell? ⟨g', 3, none⟩ = some (.slice B3 y.f3.length d3) := (blk_cell HY.out 3).trans rfl
  have no (hne : ¬ (x.f0.toList = y.f0.toList ∧ x.f1.toList = y.f1.toList ∧ x.f2.toList = y.f2.toList)) : r = false := by
    have h := H.out
    unfold alk at h
    rw [if_neg hne] at h
    exact (Option.some.inj h).symm
  have NO := Aside0.mk no
  clear no
  by_cases c0 : x.f0.toList = y.f0.toList
  case neg =>
    have hr := NO.out (fun h => c0 h.1)
    have c0b : (x.f0.toList == y.f0.toList) = false := beq_eq_false_iff_ne.mpr c0
    subst hr
    clear c0
    go_wp2_with fail
    go_ret
    exact ⟨rfl, B2.out⟩
  by_cases c1 : x.f1.toList = y.f1.toList
  case neg =>
    have hr := NO.out (fun h => c1 h.2.1)
    have c0b : (x.f0.toList == y.f0.toList) = true := beq_iff_eq.mpr c0
    have c1b : (x.f1.toList == y.f1.toList) = false := beq_eq_false_iff_ne.mpr c1
    subst hr
    clear c0 c1
    go_wp2_with fail
    go_ret
    exact ⟨rfl, B2.out⟩
  by_cases c2 : x.f2.toList = y.f2.toList
  case neg =>
    have hr := NO.out (fun h => c2 h.2.2)
    have c0b : (x.f0.toList == y.f0.toList) = true := beq_iff_eq.mpr c0
    have c1b : (x.f1.toList == y.f1.toList) = true := beq_iff_eq.mpr c1
    have c2b : (x.f2.toList == y.f2.toList) = false := beq_eq_false_iff_ne.mpr c2
    subst hr
    clear c0 c1 c2
    go_wp2_with fail
    go_ret
    exact ⟨rfl, B2.out⟩
  have c0b : (x.f0.toList == y.f0.toList) = true := beq_iff_eq.mpr c0
  have c1b : (x.f1.toList == y.f1.toList) = true := beq_iff_eq.mpr c1
  have c2b : (x.f2.toList == y.f2.toList) = true := beq_iff_eq.mpr c2
  obtain ⟨b, HS, HR⟩ : ∃ b, Aside0 (attrs_Same.f k x.f3 y.f3 = some b) ∧ Aside0 ((if b = true then (if x.f4.length = y.f4.length then alkL k x.f4 y.f4 else some false) else some false) = some r) := by
    have h := H.out
    unfold alk at h
    rw [if_pos ⟨c0, c1, c2⟩] at h
    obtain ⟨b, h1, h2⟩ := Option.bind_eq_some_iff.1 h
    exact ⟨b, ⟨h1⟩, ⟨h2⟩⟩
  clear c0 c1 c2 H
  cases b with
  | false =>
    have hr : r = false := by have h := HR.out; simp at h; exact h
    subst hr
    go_wp2_with fail
    refine (attrs_Same.calls k _ c3 x.f3 _ d3 y.f3 false _ (Kd.C_below HA3.out BZ.out) hc3 (Kd.C_below HB3.out BZ.out) hd3 HS.out).mono ?_
    rintro e w9 ⟨rfl, hb9⟩
    replace hb9 := hb9.below
    have B9 := Aside0.mk (B2.out.trans (hb9.mono B2.out.size))
    clear hb9
    dsimp only
    go_wp2_with fail
    go_ret
    exact ⟨rfl, B9.out⟩
  | true =>
    have HR2 := Aside0.mk (show (if x.f4.length = y.f4.length then alkL k x.f4 y.f4 else some false) = some r by have h := HR.out; simpa using h)
    go_wp2_with fail
    refine (attrs_Same.calls k _ c3 x.f3 _ d3 y.f3 true _ (Kd.C_below HA3.out BZ.out) hc3 (Kd.C_below HB3.out BZ.out) hd3 HS.out).mono ?_
    rintro e w9 ⟨rfl, hb9⟩
    replace hb9 := hb9.below
    have B9 := Aside0.mk (B2.out.trans (hb9.mono B2.out.size))
    have X9 := Aside0.mk (blk_below X.out hb9)
    have Y9 := Aside0.mk (blk_below HY.out hb9)
    clear hb9
    dsimp only
    go_upto_region 3 with fail
    have BZ9 := Aside0.mk (BW.out.trans (B9.out.mono BW.out.size))
    have x4 : w9.cell? ⟨g, 4, none⟩ = some (.slice A4 x.f4.length c4) := (blk_cell X9.out 4).trans rfl
    have y4 : w9.cell? ⟨g', 4, none⟩ = some (.slice B4 y.f4.length d4) := (blk_cell Y9.out 4).trans rfl
    go_wp2_with (go_at_call 34; refine (eqf w0 k IH.out x.f4 y.f4 _ c4 _ d4 r _ HA4.out HB4.out BZ9.out HR2.out).mono ?_; rintro e w10 ⟨rfl, hb10⟩; have B10 := Aside0.mk (B9.out.trans (hb10.mono B9.out.size)); clear hb10)
    go_ret
    exact ⟨rfl, B10.out⟩

theorem vtree_alike.calls (k : Nat) (a0_0 : ByteArray) (a0_1 : ByteArray) (a0_2 : ByteArray) (A0_3 : Option Addr) (c0_3 : Nat) (l0_3 : List (S42)) (A0_4 : Option Addr) (c0_4 : Nat) (l0_4 : List (S25)) (a1_0 : ByteArray) (a1_1 : ByteArray) (a1_2 : ByteArray) (A1_3 : Option Addr) (c1_3 : Nat) (l1_3 : List (S42)) (A1_4 : Option Addr) (c1_4 : Nat) (l1_4 : List (S25)) (r : Bool) (w : World) (hr0_3 : Kd.C k42 w A0_3 l0_3.length l0_3) (hc0_3 : l0_3.length ≤ c0_3) (hr0_4 : Kd.C k25 w A0_4 l0_4.length l0_4) (hc0_4 : l0_4.length ≤ c0_4) (hr1_3 : Kd.C k42 w A1_3 l1_3.length l1_3) (hc1_3 : l1_3.length ≤ c1_3) (hr1_4 : Kd.C k25 w A1_4 l1_4.length l1_4) (hc1_4 : l1_4.length ≤ c1_4) (h : vtree_alike.f k a0_0 a0_1 a0_2 l0_3 l0_4 a1_0 a1_1 a1_2 l1_3 l1_4 = some r) :
    Calls Try.prog 26 #[.agg #[.string a0_0, .string a0_1, .string a0_2, .slice A0_3 l0_3.length c0_3, .slice A0_4 l0_4.length c0_4], .agg #[.string a1_0, .string a1_1, .string a1_2, .slice A1_3 l1_3.length c1_3, .slice A1_4 l1_4.length c1_4]] w fun e w' => e = .returned (.bool r) ∧ Below w.heap.size w w' :=
  alike w k ⟨a0_0, a0_1, a0_2, l0_3, l0_4⟩ ⟨a1_0, a1_1, a1_2, l1_3, l1_4⟩ _ _ _ _ _ _ _ _ r w hr0_3 hc0_3 hr0_4 hc0_4 hr1_3 hc1_3 hr1_4 hc1_4 (Below.refl _ _) h
end Go.Proofs.Ytafkgjnafddgbaa.G
